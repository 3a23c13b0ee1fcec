/-
  Polynomials over the plain field of 256 elements as functions, no program in sight: as many different roots as coefficients leave none; sums over lists; what is orthogonal to many powers (Vandermonde), or to many inverses (Cauchy), is nothing. Conditions are typed at each lemma.
-/
import Derived.Test.YtldlldfoaicjcaaLin
set_option linter.unusedVariables false
namespace Go.Proofs.Ytldlldfoaicjcaa.Root
open Go.Proofs.Ytldlldfoaicjcaa.Gf Go.Proofs.Ytldlldfoaicjcaa.Lin

/-- The value at x. -/
def pe : List Nat → Nat → Nat
  | [], _ => 0
  | c :: p, x => gm (pe p x) x ^^^ c
def Bs (l : List Nat) : Prop := ∀ x ∈ l, x < 256
theorem Bs.nil : Bs [] := fun x hx => by cases hx
theorem Bs.head {a : Nat} {l : List Nat} (h : Bs (a :: l)) : a < 256 := h a List.mem_cons_self
theorem Bs.tail {a : Nat} {l : List Nat} (h : Bs (a :: l)) : Bs l := fun x hx => h x (List.mem_cons_of_mem _ hx)
theorem Bs.cons {a : Nat} {l : List Nat} (ha : a < 256) (h : Bs l) : Bs (a :: l) := fun x hx => by
  rcases List.mem_cons.1 hx with rfl | hx
  · exact ha
  · exact h x hx
theorem pe_lt : ∀ {p : List Nat} (x : Nat), Bs p → pe p x < 256
  | [], _, _ => (by decide : 0 < 256)
  | c :: p, x, h => xor_byte (gm_lt _ (pe_lt x h.tail)) h.head

/-- Division by x + a. -/
def sd (a : Nat) : List Nat → List Nat
  | [] => []
  | [_] => []
  | _ :: d :: p => pe (d :: p) a :: sd a (d :: p)
theorem sd_bytes (a : Nat) : ∀ {p : List Nat}, Bs p → Bs (sd a p)
  | [], _ => Bs.nil
  | [_], _ => Bs.nil
  | _ :: d :: p, h => Bs.cons (pe_lt a h.tail) (sd_bytes a h.tail)
theorem sd_length (a : Nat) : ∀ (p : List Nat), (sd a p).length = p.length - 1
  | [] => rfl
  | [_] => rfl
  | _ :: d :: p => by
    show (sd a (d :: p)).length + 1 = _
    rw [sd_length a (d :: p)]
    simp
theorem sd_eval {a x : Nat} (ha : a < 256) (hx : x < 256) {p : List Nat} (h : Bs p) : pe p x = gm (pe (sd a p) x) (x ^^^ a) ^^^ pe p a := by
  induction p with
  | nil => simp only [pe, sd, zero_gm, Nat.zero_xor]
  | cons c p ih =>
    cases p with
    | nil => simp only [pe, sd, zero_gm, Nat.zero_xor]
    | cons d p =>
      have hq := pe_lt x (sd_bytes a h.tail)
      have hr := pe_lt a h.tail
      have e := ih h.tail
      have u1 : pe (c :: d :: p) x = gm (pe (d :: p) x) x ^^^ c := rfl
      have u2 : pe (c :: d :: p) a = gm (pe (d :: p) a) a ^^^ c := rfl
      have u3 : pe (sd a (c :: d :: p)) x = gm (pe (sd a (d :: p)) x) x ^^^ pe (d :: p) a := rfl
      rw [u1, u2, u3]
      clear u1 u2 u3 ih
      generalize pe (sd a (d :: p)) x = q at e hq ⊢
      generalize pe (d :: p) a = r at e hr ⊢
      generalize pe (d :: p) x = s at e ⊢
      have hxa := xor_byte hx ha
      have e1 : gm (gm q (x ^^^ a)) x = gm (gm q x) (x ^^^ a) := by
        rw [gm_assoc _ hq hxa hx, gm_assoc _ hq hx hxa, gm_comm hxa hx]
      rw [e, add_gm _ (gm_lt _ hq) hr, add_gm _ (gm_lt _ hq) hr, e1, gm_add r x a, Nat.xor_assoc, Nat.xor_assoc]
      congr 1
      rw [← Nat.xor_assoc, Nat.xor_assoc (gm r x), Nat.xor_self, Nat.xor_zero]

/-- No more coefficients than different roots: 0 everywhere. -/
theorem roots : ∀ (l p : List Nat), p.length ≤ l.length → Bs p → Bs l → l.Nodup → (∀ x ∈ l, pe p x = 0) → ∀ x, x < 256 → pe p x = 0
  | [], p, hp, _, _, _, _, x, _ => by
    obtain rfl : p = [] := List.length_eq_zero_iff.1 (by simpa using hp)
    rfl
  | a :: l, p, hp, hb, hl, hn, hr, x, hx => by
    have ha := hl.head
    have h0 := hr a List.mem_cons_self
    have hq : ∀ y, y < 256 → pe (sd a p) y = 0 := by
      refine roots l (sd a p) (by rw [sd_length]; simp at hp; omega) (sd_bytes a hb) hl.tail (List.nodup_cons.1 hn).2 ?_
      intro y hy
      have hyb := hl y (List.mem_cons_of_mem _ hy)
      have e := sd_eval ha hyb hb
      rw [h0, Nat.xor_zero, hr y (List.mem_cons_of_mem _ hy)] at e
      refine ((gm_eq_zero (pe_lt _ (sd_bytes a hb)) (xor_byte hyb ha)).1 e.symm).resolve_right fun e2 => ?_
      have := xor_eq_zero e2
      subst this
      exact (List.nodup_cons.1 hn).1 hy
    rw [sd_eval ha hx hb, hq x hx, zero_gm, h0]; rfl

/-- The sum of two. -/
def padd : List Nat → List Nat → List Nat
  | [], q => q
  | p, [] => p
  | a :: p, b :: q => (a ^^^ b) :: padd p q
theorem padd_eval (x : Nat) : ∀ {p q : List Nat}, Bs p → Bs q → pe (padd p q) x = pe p x ^^^ pe q x
  | [], q, _, _ => (Nat.zero_xor _).symm
  | a :: p, [], _, _ => (Nat.xor_zero _).symm
  | a :: p, b :: q, hp, hq => by
    show gm (pe (padd p q) x) x ^^^ (a ^^^ b) = (gm (pe p x) x ^^^ a) ^^^ (gm (pe q x) x ^^^ b)
    rw [padd_eval x hp.tail hq.tail, add_gm _ (pe_lt x hp.tail) (pe_lt x hq.tail), xor_swap]
theorem padd_bytes : ∀ {p q : List Nat}, Bs p → Bs q → Bs (padd p q)
  | [], q, _, h => h
  | a :: p, [], h, _ => h
  | a :: p, b :: q, hp, hq => Bs.cons (xor_byte hp.head hq.head) (padd_bytes hp.tail hq.tail)
theorem padd_length : ∀ (p q : List Nat), (padd p q).length ≤ max p.length q.length
  | [], q => by simp [padd]
  | a :: p, [] => by simp [padd]
  | a :: p, b :: q => by
    have := padd_length p q
    simp only [padd, List.length_cons]
    omega
/-- A multiple. -/
def psc (v : Nat) (p : List Nat) : List Nat := p.map (gm v)
theorem psc_eval {v : Nat} (x : Nat) (hv : v < 256) (hx : x < 256) : ∀ {p : List Nat}, Bs p → pe (psc v p) x = gm v (pe p x)
  | [], _ => (gm_zero v).symm
  | a :: p, h => by
    show gm (pe (psc v p) x) x ^^^ gm v a = gm v (gm (pe p x) x ^^^ a)
    rw [psc_eval x hv hx h.tail, gm_add, gm_assoc _ hv (pe_lt x h.tail) hx]
theorem psc_bytes {v : Nat} (hv : v < 256) (p : List Nat) : Bs (psc v p) := fun x hx => by
  obtain ⟨y, _, rfl⟩ := List.mem_map.1 hx
  exact gm_lt _ hv
/-- x + y times it. -/
def pl (y : Nat) (p : List Nat) : List Nat := padd (0 :: p) (psc y p)
theorem pl_bytes {y : Nat} (hy : y < 256) {p : List Nat} (h : Bs p) : Bs (pl y p) := padd_bytes (Bs.cons (by decide) h) (psc_bytes hy p)
theorem pl_eval {x y : Nat} (hx : x < 256) (hy : y < 256) {p : List Nat} (h : Bs p) : pe (pl y p) x = gm (x ^^^ y) (pe p x) := by
  unfold pl
  rw [padd_eval x (Bs.cons (by decide) h) (psc_bytes hy p), psc_eval x hy hx h, add_gm _ hx hy]
  show (gm (pe p x) x ^^^ 0) ^^^ _ = _
  rw [Nat.xor_zero, gm_comm (pe_lt x h) hx]
theorem pl_length (y : Nat) (p : List Nat) : (pl y p).length ≤ p.length + 1 := by
  have := padd_length (0 :: p) (psc y p)
  simp only [psc, List.length_cons, List.length_map] at this
  exact Nat.le_trans this (by omega)
/-- The product of all x + y. -/
def pD : List Nat → List Nat
  | [] => [1]
  | y :: l => pl y (pD l)
theorem pD_bytes : ∀ {l : List Nat}, Bs l → Bs (pD l)
  | [], _ => Bs.cons (by decide) Bs.nil
  | y :: l, h => pl_bytes h.head (pD_bytes h.tail)
theorem pD_length : ∀ (l : List Nat), (pD l).length ≤ l.length + 1
  | [] => Nat.le_refl _
  | y :: l => by
    have h1 := pl_length y (pD l)
    have h2 := pD_length l
    simp only [pD, List.length_cons]
    omega
theorem pD_zero {x : Nat} (hx : x < 256) : ∀ {l : List Nat}, Bs l → (pe (pD l) x = 0 ↔ x ∈ l)
  | [], _ => by
    show gm 0 x ^^^ 1 = 0 ↔ _
    rw [zero_gm]; simp
  | y :: l, h => by
    show pe (pl y (pD l)) x = 0 ↔ _
    rw [pl_eval hx h.head (pD_bytes h.tail), gm_eq_zero (xor_byte hx h.head) (pe_lt x (pD_bytes h.tail)), pD_zero hx h.tail, List.mem_cons]
    constructor
    · rintro (e | e)
      · exact .inl (xor_eq_zero e)
      · exact .inr e
    · rintro (rfl | e)
      · exact .inl (Nat.xor_self _)
      · exact .inr e

/-- The sum over a list. -/
def ls {α : Type} (f : α → Nat) : List α → Nat
  | [] => 0
  | a :: l => f a ^^^ ls f l
theorem ls_congr {α : Type} {f g : α → Nat} : ∀ {l : List α}, (∀ a ∈ l, f a = g a) → ls f l = ls g l
  | [], _ => rfl
  | a :: l, h => by
    show f a ^^^ ls f l = g a ^^^ ls g l
    rw [h a List.mem_cons_self, ls_congr fun b hb => h b (List.mem_cons_of_mem _ hb)]
theorem ls_zero {α : Type} {f : α → Nat} : ∀ {l : List α}, (∀ a ∈ l, f a = 0) → ls f l = 0
  | [], _ => rfl
  | a :: l, h => by
    show f a ^^^ ls f l = 0
    rw [h a List.mem_cons_self, ls_zero fun b hb => h b (List.mem_cons_of_mem _ hb)]; rfl
theorem ls_lt {α : Type} {f : α → Nat} : ∀ {l : List α}, (∀ a ∈ l, f a < 256) → ls f l < 256
  | [], _ => (by decide : 0 < 256)
  | a :: l, h => xor_byte (h a List.mem_cons_self) (ls_lt fun b hb => h b (List.mem_cons_of_mem _ hb))
theorem ls_xor {α : Type} (f g : α → Nat) : ∀ (l : List α), ls (fun a => f a ^^^ g a) l = ls f l ^^^ ls g l
  | [] => (Nat.xor_self 0).symm
  | a :: l => by
    show (f a ^^^ g a) ^^^ ls _ l = (f a ^^^ ls f l) ^^^ (g a ^^^ ls g l)
    rw [ls_xor f g l, xor_swap]
theorem gm_ls {α : Type} (c : Nat) (f : α → Nat) : ∀ (l : List α), gm c (ls f l) = ls (fun a => gm c (f a)) l
  | [] => gm_zero c
  | a :: l => by
    show gm c (f a ^^^ ls f l) = gm c (f a) ^^^ ls _ l
    rw [gm_add, gm_ls c f l]
theorem ls_filter {α : Type} {f : α → Nat} {p : α → Bool} : ∀ {l : List α}, (∀ a ∈ l, p a = false → f a = 0) → ls f (l.filter p) = ls f l
  | [], _ => rfl
  | a :: l, h => by
    have ih := ls_filter (f := f) (p := p) (l := l) fun b hb => h b (List.mem_cons_of_mem _ hb)
    rw [List.filter_cons]
    cases e : p a
    · show ls f (l.filter p) = f a ^^^ ls f l
      rw [h a List.mem_cons_self e, Nat.zero_xor, ih]
    · show f a ^^^ ls f (l.filter p) = f a ^^^ ls f l
      rw [ih]
theorem ls_append {α : Type} (f : α → Nat) : ∀ (l m : List α), ls f (l ++ m) = ls f l ^^^ ls f m
  | [], m => (Nat.zero_xor _).symm
  | a :: l, m => by
    show f a ^^^ ls f (l ++ m) = (f a ^^^ ls f l) ^^^ ls f m
    rw [ls_append f l m, Nat.xor_assoc]
theorem ls_map {α β : Type} (f : β → Nat) (g : α → β) : ∀ (l : List α), ls f (l.map g) = ls (fun a => f (g a)) l
  | [] => rfl
  | a :: l => by show f (g a) ^^^ ls f (l.map g) = _ ^^^ _; rw [ls_map f g l]
theorem ls_range (f : Nat → Nat) (n : Nat) : ls f (List.range n) = xs n f := by
  induction n with
  | zero => rfl
  | succ n ih =>
    rw [List.range_succ, ls_append, ih]
    show xs n f ^^^ (f n ^^^ 0) = xs n f ^^^ f n
    rw [Nat.xor_zero]

/-- Pairs: a point and a weight. -/
def PB (l : List (Nat × Nat)) : Prop := ∀ a ∈ l, a.1 < 256 ∧ a.2 < 256
theorem PB.tail {a : Nat × Nat} {l : List (Nat × Nat)} (h : PB (a :: l)) : PB l := fun b hb => h b (List.mem_cons_of_mem _ hb)
theorem PB.fst {l : List (Nat × Nat)} (h : PB l) : Bs (l.map (·.1)) := fun x hx => by
  obtain ⟨a, ha, rfl⟩ := List.mem_map.1 hx
  exact (h a ha).1
/-- What is orthogonal to the powers below n is orthogonal to each polynomial of n coefficients. -/
theorem ortho {l : List (Nat × Nat)} (hl : PB l) {n : Nat} (h : ∀ k, k < n → ls (fun a => gm a.2 (pw a.1 k)) l = 0) :
    ∀ (q : List Nat) (s : Nat), s + q.length ≤ n → Bs q → ls (fun a => gm a.2 (gm (pw a.1 s) (pe q a.1))) l = 0
  | [], s, _, _ => ls_zero fun a _ => by show gm a.2 (gm _ 0) = 0; rw [gm_zero, gm_zero]
  | c :: q, s, hs, hq => by
    simp only [List.length_cons] at hs
    have h1 := ortho hl h q (s + 1) (by omega) hq.tail
    have h2 := h s (by omega)
    have e : ls (fun a : Nat × Nat => gm a.2 (gm (pw a.1 s) (pe (c :: q) a.1))) l = ls (fun a : Nat × Nat => gm a.2 (gm (pw a.1 (s + 1)) (pe q a.1)) ^^^ gm c (gm a.2 (pw a.1 s))) l := by
      refine ls_congr fun a ha => ?_
      obtain ⟨h3, h4⟩ := hl a ha
      have h5 := pe_lt a.1 hq.tail
      have h6 := pw_lt (a := a.1) s
      have hc := hq.head
      show gm a.2 (gm (pw a.1 s) (gm (pe q a.1) a.1 ^^^ c)) = gm a.2 (gm (gm (pw a.1 s) a.1) (pe q a.1)) ^^^ gm c (gm a.2 (pw a.1 s))
      rw [gm_add, gm_add, gm_assoc _ h6 h3 h5, gm_comm h5 h3, gm_comm hc (gm_lt _ h4), gm_assoc _ h4 h6 hc]
    rw [e, ls_xor, h1, ← gm_ls, h2, gm_zero]; rfl
/-- Vandermonde: what is orthogonal to as many powers as it has points is nothing. -/
theorem vander : ∀ (l : List (Nat × Nat)), PB l → (l.map (·.1)).Nodup → (∀ k, k < l.length → ls (fun a => gm a.2 (pw a.1 k)) l = 0) → ∀ a ∈ l, a.2 = 0
  | [], _, _, _, a, ha => by cases ha
  | b :: l, hl, hn, h, a, ha => by
    have hn' := List.nodup_cons.1 (show (b.1 :: l.map (·.1)).Nodup from hn)
    have hb := hl b List.mem_cons_self
    have ho := ortho hl h (pD (l.map (·.1))) 0 (by have := pD_length (l.map (·.1)); simp at this ⊢; omega) (pD_bytes hl.tail.fst)
    have hb0 : b.2 = 0 := by
      have e : ls (fun a : Nat × Nat => gm a.2 (gm (pw a.1 0) (pe (pD (l.map (·.1))) a.1))) l = 0 := by
        refine ls_zero fun c hc => ?_
        rw [(pD_zero (hl.tail c hc).1 hl.tail.fst).2 (List.mem_map.2 ⟨c, hc, rfl⟩), gm_zero, gm_zero]
      have e2 : gm b.2 (gm (pw b.1 0) (pe (pD (l.map (·.1))) b.1)) ^^^ ls (fun a : Nat × Nat => gm a.2 (gm (pw a.1 0) (pe (pD (l.map (·.1))) a.1))) l = 0 := ho
      have hp := pe_lt b.1 (pD_bytes hl.tail.fst)
      rw [e, Nat.xor_zero, show pw b.1 0 = 1 from rfl, one_gm _ hp] at e2
      exact ((gm_eq_zero hb.2 hp).1 e2).resolve_right fun e3 => hn'.1 ((pD_zero hb.1 hl.tail.fst).1 e3)
    rcases List.mem_cons.1 ha with rfl | ha
    · exact hb0
    · refine vander l hl.tail hn'.2 (fun k hk => ?_) a ha
      have e : gm b.2 (pw b.1 k) ^^^ ls (fun a : Nat × Nat => gm a.2 (pw a.1 k)) l = 0 := h k (by simp; omega)
      rw [hb0, zero_gm, Nat.zero_xor] at e
      exact e

/-- The numerator of the sum of all v / (x + y). -/
def pN : List (Nat × Nat) → List Nat
  | [] => []
  | a :: l => padd (pl a.1 (pN l)) (psc a.2 (pD (l.map (·.1))))
theorem pN_bytes : ∀ {l : List (Nat × Nat)}, PB l → Bs (pN l)
  | [], _ => Bs.nil
  | a :: l, h => padd_bytes (pl_bytes (h a List.mem_cons_self).1 (pN_bytes h.tail)) (psc_bytes (h a List.mem_cons_self).2 _)
theorem pN_length : ∀ (l : List (Nat × Nat)), (pN l).length ≤ l.length
  | [] => Nat.le_refl _
  | a :: l => by
    have h1 := padd_length (pl a.1 (pN l)) (psc a.2 (pD (l.map (·.1))))
    have h2 := pl_length a.1 (pN l)
    have h3 := pN_length l
    have h4 := pD_length (l.map (·.1))
    have h5 : (psc a.2 (pD (l.map (·.1)))).length = (pD (l.map (·.1))).length := List.length_map _
    simp only [List.length_map] at h4
    simp only [pN, List.length_cons]
    omega
/-- Away from the points it is the product times the sum. -/
theorem pN_eval {x : Nat} (hx : x < 256) : ∀ {l : List (Nat × Nat)}, PB l → x ∉ l.map (·.1) →
    pe (pN l) x = gm (pe (pD (l.map (·.1))) x) (ls (fun a => gm a.2 (gi (x ^^^ a.1))) l)
  | [], _, _ => (gm_zero _).symm
  | a :: l, h, hn => by
    have ha := h a List.mem_cons_self
    have hn1 : x ≠ a.1 := fun e => hn (by rw [e]; exact List.mem_cons_self)
    have hn2 : x ∉ l.map (·.1) := fun e => hn (List.mem_cons_of_mem _ e)
    have hb := h.tail.fst
    have hD := pe_lt x (pD_bytes hb)
    have hxa := xor_byte hx ha.1
    have hne : x ^^^ a.1 ≠ 0 := fun e => hn1 (xor_eq_zero e)
    have hs : ls (fun a : Nat × Nat => gm a.2 (gi (x ^^^ a.1))) l < 256 := ls_lt fun c hc => gm_lt _ (h.tail c hc).2
    show pe (padd (pl a.1 (pN l)) (psc a.2 (pD (l.map (·.1))))) x = gm (pe (pl a.1 (pD (l.map (·.1)))) x) (gm a.2 (gi (x ^^^ a.1)) ^^^ ls (fun a => gm a.2 (gi (x ^^^ a.1))) l)
    rw [padd_eval x (pl_bytes ha.1 (pN_bytes h.tail)) (psc_bytes ha.2 _), pl_eval hx ha.1 (pN_bytes h.tail), psc_eval x ha.2 hx (pD_bytes hb), pl_eval hx ha.1 (pD_bytes hb), pN_eval hx h.tail hn2, gm_add]
    generalize pe (pD (l.map (·.1))) x = D at hD ⊢
    generalize ls (fun a : Nat × Nat => gm a.2 (gi (x ^^^ a.1))) l = s at hs ⊢
    generalize x ^^^ a.1 = z at hxa hne ⊢
    have e1 : gm (gm z D) (gm a.2 (gi z)) = gm a.2 D := by
      rw [gm_comm hxa hD, gm_assoc _ hD hxa (gm_lt _ ha.2), gm_comm ha.2 (gi_lt z), ← gm_assoc _ hxa (gi_lt z) ha.2, gm_gi hxa hne, one_gm _ ha.2, gm_comm hD ha.2]
    rw [e1, gm_assoc _ hxa hD hs, Nat.xor_comm]
/-- At a point it is not 0 if the weight there is not. -/
theorem pN_point : ∀ {l : List (Nat × Nat)}, PB l → (l.map (·.1)).Nodup → ∀ a ∈ l, a.2 ≠ 0 → pe (pN l) a.1 ≠ 0
  | [], _, _, a, ha, _ => by cases ha
  | b :: l, h, hn, a, ha, h0 => by
    have hn' := List.nodup_cons.1 (show (b.1 :: l.map (·.1)).Nodup from hn)
    have hb := h b List.mem_cons_self
    have hA := h a ha
    have hB := h.tail.fst
    show pe (padd (pl b.1 (pN l)) (psc b.2 (pD (l.map (·.1))))) a.1 ≠ 0
    rw [padd_eval _ (pl_bytes hb.1 (pN_bytes h.tail)) (psc_bytes hb.2 _), pl_eval hA.1 hb.1 (pN_bytes h.tail), psc_eval _ hb.2 hA.1 (pD_bytes hB)]
    rcases List.mem_cons.1 ha with e | ha'
    · subst e
      rw [Nat.xor_self, zero_gm, Nat.zero_xor]
      exact gm_ne hb.2 (pe_lt _ (pD_bytes hB)) h0 fun e3 => hn'.1 ((pD_zero hb.1 hB).1 e3)
    · have hm : a.1 ∈ l.map (·.1) := List.mem_map.2 ⟨a, ha', rfl⟩
      rw [(pD_zero hA.1 hB).2 hm, gm_zero, Nat.xor_zero]
      refine gm_ne (xor_byte hA.1 hb.1) (pe_lt _ (pN_bytes h.tail)) (fun e => ?_) (pN_point h.tail hn'.2 a ha' h0)
      rw [xor_eq_zero e] at hm
      exact hn'.1 hm
/-- Cauchy: what is orthogonal to the inverses at as many points as it has is nothing. -/
theorem cauchy {l : List (Nat × Nat)} (hl : PB l) (hn : (l.map (·.1)).Nodup) {X : List Nat} (hX : Bs X) (hXn : X.Nodup) (hlen : l.length ≤ X.length)
    (hd : ∀ x ∈ X, x ∉ l.map (·.1)) (h : ∀ x ∈ X, ls (fun a => gm a.2 (gi (x ^^^ a.1))) l = 0) : ∀ a ∈ l, a.2 = 0 := by
  intro a ha
  apply Classical.byContradiction
  intro h0
  refine pN_point hl hn a ha h0 (roots X (pN l) (Nat.le_trans (pN_length l) hlen) (pN_bytes hl) hX hXn (fun x hx => ?_) a.1 (hl a ha).1)
  rw [pN_eval (hX x hx) hl (hd x hx), h x hx, gm_zero]
end Go.Proofs.Ytldlldfoaicjcaa.Root
