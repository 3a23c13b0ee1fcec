/-
  The shortest recursion of a row of syndromes (Berlekamp, Massey), no program in sight: the algorithm over lists of natural numbers, what it keeps, that it is no longer than any other, and that for a sum of few powers it has just their inverses as its roots. Conditions are typed at each lemma.
-/
import Derived.Test.YtldlldfoaicjcaaPev
set_option linter.unusedVariables false
namespace Go.Proofs.Ytldlldfoaicjcaa.Bm
open Go.Proofs.Ytldlldfoaicjcaa.Gf Go.Proofs.Ytldlldfoaicjcaa.Lin Go.Proofs.Ytldlldfoaicjcaa.Root Go.Proofs.Ytldlldfoaicjcaa.Poly Go.Proofs.Ytldlldfoaicjcaa.Pev
attribute [local irreducible] gm gi

/-- c's recursion over s at n, of length L. -/
def cv (c : Nat → Nat) (s : Nat → Nat) (L n : Nat) : Nat := xs (L + 1) (fun i => gm (c i) (s (n - i)))
/-- Massey's lemma: what fails at k behind a run of right answers, and what is right there too, are together longer than k. -/
theorem massey {c g s : Nat → Nat} (hc : ∀ i, c i < 256) (hg : ∀ i, g i < 256) (hs : ∀ i, s i < 256) {L M k : Nat} (hg0 : g 0 = 1)
    (h1 : ∀ n, L ≤ n → n < k → cv c s L n = 0) (h2 : cv c s L k ≠ 0) (h3 : ∀ n, M ≤ n → n ≤ k → cv g s M n = 0) : k + 1 ≤ L + M := by
  apply Nat.le_of_not_lt
  intro hlt
  apply h2
  have e1 : xs (L + 1) (fun i => xs (M + 1) (fun j => gm (c i) (gm (g j) (s (k - i - j))))) = 0 := by
    refine xs_zero fun i hi => ?_
    have := h3 (k - i) (by omega) (by omega)
    unfold cv at this
    rw [← gm_xs, this, gm_zero]
  rw [xs_comm, xs_succ] at e1
  have e2 : xs M (fun j => xs (L + 1) (fun i => gm (c i) (gm (g (j + 1)) (s (k - i - (j + 1)))))) = 0 := by
    refine xs_zero fun j hj => ?_
    have := h1 (k - (j + 1)) (by omega) (by omega)
    unfold cv at this
    have e : xs (L + 1) (fun i => gm (c i) (gm (g (j + 1)) (s (k - i - (j + 1))))) = gm (g (j + 1)) (xs (L + 1) (fun i => gm (c i) (s (k - (j + 1) - i)))) := by
      rw [gm_xs]
      refine xs_congr fun i hi => ?_
      rw [show k - i - (j + 1) = k - (j + 1) - i by omega, ← gm_assoc _ (hc _) (hg _) (hs _), gm_comm (hc _) (hg _), gm_assoc _ (hg _) (hc _) (hs _)]
    rw [e, this, gm_zero]
  rw [e2, Nat.xor_zero] at e1
  rw [← e1]
  unfold cv
  refine xs_congr fun i hi => ?_
  rw [hg0, one_gm _ (hs _)]; rfl

structure St where
  c : List Nat
  b : List Nat
  long : Nat
  m : Nat
  last : Nat
/-- How far c is off at place k. -/
def disc (s : List Nat) (t : St) (k : Nat) : Nat := xs (min (t.long + 1) t.c.length) (fun i => gm (t.c.getD i 0) (s.getD (k - i) 0))
/-- f times b, moved by m, is added to c. -/
def upd (c b : List Nat) (f m : Nat) : List Nat := mrow f b m (c ++ List.replicate (m + b.length - c.length) 0)
def step (s : List Nat) (k : Nat) (t : St) : St :=
  if disc s t k = 0 then { t with m := t.m + 1 }
  else if 2 * t.long ≤ k then ⟨upd t.c t.b (gm (disc s t k) (gi t.last)) t.m, t.c, k + 1 - t.long, 1, disc s t k⟩
  else ⟨upd t.c t.b (gm (disc s t k) (gi t.last)) t.m, t.b, t.long, t.m + 1, t.last⟩
def run (s : List Nat) : Nat → Nat → St → St
  | 0, _, t => t
  | d + 1, k, t => run s d (k + 1) (step s k t)
def st0 : St := ⟨[1], [1], 0, 1, 1⟩
/-- The locator. -/
def loc (s : List Nat) : List Nat := tr (run s s.length 0 st0).c

/-- What the steps keep: k places are done. -/
structure Inv (s : List Nat) (k : Nat) (t : St) : Prop where
  cb : Bs t.c
  bb : Bs t.b
  c0 : t.c.getD 0 0 = 1
  cl : ∀ i, t.long < i → t.c.getD i 0 = 0
  lk : t.long ≤ k
  m1 : 1 ≤ t.m
  mq : t.m ≤ k + 1
  lb : t.last < 256
  l0 : t.last ≠ 0
  cr : ∀ n, t.long ≤ n → n < k → cv (fun i => t.c.getD i 0) (fun i => s.getD i 0) t.long n = 0
  br : (t.long = 0 ∧ t.m = k + 1 ∧ t.b = [1]) ∨ ∃ B k0, t.m + k0 = k ∧ t.long + B = k0 + 1 ∧ B ≤ k0 ∧ (∀ i, B < i → t.b.getD i 0 = 0) ∧
    (∀ n, B ≤ n → n < k0 → cv (fun i => t.b.getD i 0) (fun i => s.getD i 0) B n = 0) ∧ cv (fun i => t.b.getD i 0) (fun i => s.getD i 0) B k0 = t.last
  sz : t.c.length ≤ k + 2 ∧ t.m + t.b.length ≤ k + 2

theorem inv0 (s : List Nat) : Inv s 0 st0 where
  cb := Bs.cons (by decide) Bs.nil
  bb := Bs.cons (by decide) Bs.nil
  c0 := rfl
  cl := fun i hi => getD_out (by simp only [st0, List.length_cons, List.length_nil] at hi ⊢; omega)
  lk := Nat.le_refl _
  m1 := Nat.le_refl _
  mq := Nat.le_refl _
  lb := (by decide : 1 < 256)
  l0 := (by decide : 1 ≠ 0)
  cr := fun n _ hn => absurd hn (by omega)
  br := .inl ⟨rfl, rfl, rfl⟩
  sz := by simp [st0]

theorem disc_cv {s : List Nat} {k : Nat} {t : St} (h : Inv s k t) : disc s t k = cv (fun i => t.c.getD i 0) (fun i => s.getD i 0) t.long k := by
  unfold disc cv
  refine (xs_more (by omega) fun j h1 h2 => ?_).symm
  rw [getD_out (l := t.c) (by omega), zero_gm]
theorem disc_lt {s : List Nat} {k : Nat} {t : St} (h : Bs t.c) : disc s t k < 256 := xs_lt fun j _ => gm_lt _ (getD_lt h j)
theorem upd_length (c b : List Nat) (f m : Nat) : (upd c b f m).length = max c.length (m + b.length) := by
  unfold upd
  rw [mrow_length, List.length_append, List.length_replicate]
  omega
theorem upd_bytes {c b : List Nat} {f : Nat} (m : Nat) (hc : Bs c) (hf : f < 256) : Bs (upd c b f m) := mrow_bytes hf m (AllB.append hc (AllB.zeros _))
theorem upd_getD (c b : List Nat) (f m j : Nat) : (upd c b f m).getD j 0 = c.getD j 0 ^^^ (if m ≤ j then gm f (b.getD (j - m) 0) else 0) := by
  unfold upd
  rw [mrow_getD f b m _ j (by rw [List.length_append, List.length_replicate]; omega), getD_app]
  congr 1
  split
  · rfl
  · rw [getD_zeros, getD_out (by omega)]
/-- The new recursion's answers. -/
theorem upd_cv {c b s : List Nat} (hc : Bs c) (hb : Bs b) {f m B L M n : Nat} (hf : f < 256) (hs : Bs s) (hcl : ∀ i, L < i → c.getD i 0 = 0) (hbl : ∀ i, B < i → b.getD i 0 = 0) (hLM : L ≤ M) (hBM : m + B ≤ M) (hn : M ≤ n) :
    cv (fun i => (upd c b f m).getD i 0) (fun i => s.getD i 0) M n = cv (fun i => c.getD i 0) (fun i => s.getD i 0) L n ^^^ gm f (cv (fun i => b.getD i 0) (fun i => s.getD i 0) B (n - m)) := by
  unfold cv
  have e1 : xs (L + 1) (fun i => gm (c.getD i 0) (s.getD (n - i) 0)) = xs (M + 1) (fun i => gm (c.getD i 0) (s.getD (n - i) 0)) :=
    (xs_more (by omega) fun j h1 h2 => by rw [hcl j (by omega), zero_gm]).symm
  have e2 : gm f (xs (B + 1) (fun i => gm (b.getD i 0) (s.getD (n - m - i) 0))) = xs (M + 1) (fun j => if m ≤ j then gm (gm f (b.getD (j - m) 0)) (s.getD (n - j) 0) else 0) := by
    rw [gm_xs]
    have e3 : M + 1 = m + (M + 1 - m) := by omega
    have e4 : ∀ d, xs (m + d) (fun j => if m ≤ j then gm (gm f (b.getD (j - m) 0)) (s.getD (n - j) 0) else 0) = xs d (fun i => gm (gm f (b.getD i 0)) (s.getD (n - (m + i)) 0)) := by
      intro d
      induction d with
      | zero => exact xs_zero fun j hj => if_neg (by omega)
      | succ d ih =>
        show xs (m + d) _ ^^^ (if m ≤ m + d then gm (gm f (b.getD (m + d - m) 0)) (s.getD (n - (m + d)) 0) else 0) = xs d _ ^^^ gm (gm f (b.getD d 0)) (s.getD (n - (m + d)) 0)
        rw [ih, if_pos (by omega), show m + d - m = d by omega]
    rw [e3, e4, xs_more (n := B + 1) (m := M + 1 - m) (by omega) fun j h1 h2 => by rw [hbl j (by omega), gm_zero, zero_gm]]
    refine xs_congr fun i _ => ?_
    rw [show n - (m + i) = n - m - i by omega, gm_assoc _ hf (getD_lt hb i) (getD_lt hs _)]
  rw [e1, e2, ← xs_xor]
  refine xs_congr fun j hj => ?_
  simp only [upd_getD]
  split
  · exact add_gm _ (getD_lt hc j) (gm_lt _ hf)
  · rw [Nat.xor_zero, Nat.xor_zero]

theorem inv_step {s : List Nat} (hs : Bs s) {k : Nat} {t : St} (h : Inv s k t) : Inv s (k + 1) (step s k t) := by
  have hd := disc_cv h
  have hdb := disc_lt (s := s) (k := k) h.cb
  have hsz := h.sz
  have hmk := h.mq
  have hlk := h.lk
  have hm1 := h.m1
  unfold step
  by_cases e : disc s t k = 0
  · rw [if_pos e]
    rw [e] at hd
    refine ⟨h.cb, h.bb, h.c0, h.cl, Nat.le_succ_of_le h.lk, Nat.le_succ_of_le h.m1, Nat.succ_le_succ h.mq, h.lb, h.l0, fun n h1 h2 => ?_, ?_, by simp only; omega⟩
    · by_cases e2 : n = k
      · rw [e2]; exact hd.symm
      · exact h.cr n h1 (by omega)
    · rcases h.br with ⟨h1, h2, h3⟩ | ⟨B, k0, h1, h2, h3, h4, h5, h6⟩
      · exact .inl ⟨h1, by simp only; omega, h3⟩
      · exact .inr ⟨B, k0, by simp only; omega, h2, h3, h4, h5, h6⟩
  · rw [if_neg e]
    have hf : gm (disc s t k) (gi t.last) < 256 := gm_lt _ hdb
    have hcb := upd_bytes t.m h.cb hf (b := t.b)
    have hlen := upd_length t.c t.b (gm (disc s t k) (gi t.last)) t.m
    have hc0 : (upd t.c t.b (gm (disc s t k) (gi t.last)) t.m).getD 0 0 = 1 := by
      rw [upd_getD, if_neg (by omega), Nat.xor_zero]; exact h.c0
    have hcl : ∀ M, t.long ≤ M → k + 1 - t.long ≤ M → ∀ i, M < i → (upd t.c t.b (gm (disc s t k) (gi t.last)) t.m).getD i 0 = 0 := by
      intro M hM1 hM2 i hi
      rw [upd_getD, h.cl i (by omega), Nat.zero_xor]
      split
      · rcases h.br with ⟨h1, h2, h3⟩ | ⟨B, k0, h1, h2, h3, h4, h5, h6⟩
        · rw [h3, getD_out (by simp only [List.length_cons, List.length_nil]; omega), gm_zero]
        · rw [h4 _ (by omega), gm_zero]
      · rfl
    have hcr : ∀ M, t.long ≤ M → k + 1 - t.long ≤ M → ∀ n, M ≤ n → n < k + 1 → cv (fun i => (upd t.c t.b (gm (disc s t k) (gi t.last)) t.m).getD i 0) (fun i => s.getD i 0) M n = 0 := by
      intro M hM1 hM2 n hn1 hn2
      rcases h.br with ⟨h1, h2, h3⟩ | ⟨B, k0, h1, h2, h3, h4, h5, h6⟩
      · omega
      · rw [upd_cv (B := B) (L := t.long) h.cb h.bb hf hs h.cl h4 hM1 (by omega) hn1]
        by_cases e2 : n = k
        · rw [e2, ← hd, show k - t.m = k0 by omega, h6, gm_assoc _ hdb (gi_lt _) h.lb, gi_gm h.lb h.l0, gm_one _ hdb, Nat.xor_self]
        · rw [h.cr n (by omega) (by omega), h5 (n - t.m) (by omega) (by omega), gm_zero]; rfl
    by_cases e2 : 2 * t.long ≤ k
    · rw [if_pos e2]
      refine ⟨hcb, h.cb, hc0, hcl _ (by simp only; omega) (Nat.le_refl _), by simp only; omega, Nat.le_refl _, by simp only; omega, hdb, e, hcr _ (by simp only; omega) (Nat.le_refl _), .inr ⟨t.long, k, by simp only; omega, by simp only; omega, h.lk, h.cl, h.cr, hd.symm⟩, by simp only [hlen]; omega⟩
    · rw [if_neg e2]
      refine ⟨hcb, h.bb, hc0, hcl t.long (Nat.le_refl _) (by omega), by simp only; omega, by simp only; omega, by simp only; omega, h.lb, h.l0, hcr t.long (Nat.le_refl _) (by omega), ?_, by simp only [hlen]; omega⟩
      rcases h.br with ⟨h1, h2, h3⟩ | ⟨B, k0, h1, h2, h3, h4, h5, h6⟩
      · omega
      · exact .inr ⟨B, k0, by simp only; omega, h2, h3, h4, h5, h6⟩
theorem inv_run {s : List Nat} (hs : Bs s) : ∀ (d k : Nat) {t : St}, Inv s k t → Inv s (k + d) (run s d k t)
  | 0, _, _, h => h
  | d + 1, k, t, h => by
    have := inv_run hs d (k + 1) (inv_step hs h)
    rw [show k + 1 + d = k + (d + 1) by omega] at this
    exact this
theorem inv_end {s : List Nat} (hs : Bs s) : Inv s s.length (run s s.length 0 st0) := by
  have := inv_run hs s.length 0 (inv0 s)
  rw [Nat.zero_add] at this
  exact this
/-- No recursion that is right for all places is shorter. -/
theorem shortest {s : List Nat} (hs : Bs s) {k : Nat} {t : St} (h : Inv s k t) {g : Nat → Nat} (hg : ∀ i, g i < 256) (hg0 : g 0 = 1) {M : Nat} (hr : ∀ n, M ≤ n → n < k → cv g (fun i => s.getD i 0) M n = 0) : t.long ≤ M := by
  have hm1 := h.m1
  rcases h.br with ⟨h1, _, _⟩ | ⟨B, k0, h1, h2, h3, h4, h5, h6⟩
  · omega
  · have := massey (c := fun i => t.b.getD i 0) (g := g) (s := fun i => s.getD i 0) (fun i => getD_lt h.bb i) hg (fun i => getD_lt hs i) hg0 h5 (by rw [h6]; exact h.l0) (fun n hn1 hn2 => hr n hn1 (by omega))
    omega

theorem loc_bytes {s : List Nat} (hs : Bs s) : Bs (loc s) := tr_bytes (inv_end hs).cb
theorem loc_length {s : List Nat} (hs : Bs s) : (loc s).length ≤ s.length + 2 := Nat.le_trans (tr_length _) (inv_end hs).sz.1
/-- A locator begins with 1. -/
theorem loc_head {s : List Nat} (hs : Bs s) : (loc s).getD 0 0 = 1 := by
  unfold loc
  rw [tr_getD]
  exact (inv_end hs).c0

/-- The syndromes of few errors: points X and what is added there. -/
def syn (l : List (Nat × Nat)) (k : Nat) : Nat := ls (fun a => gm a.2 (pw a.1 k)) l
theorem syn_lt {l : List (Nat × Nat)} (h : PB l) (k : Nat) : syn l k < 256 := ls_lt fun a ha => gm_lt _ (h a ha).2
/-- A recursion's answers at such syndromes. -/
theorem cv_syn {l : List (Nat × Nat)} (hl : PB l) {c : Nat → Nat} (hc : ∀ i, c i < 256) {L n : Nat} (hn : L ≤ n) :
    cv c (syn l) L n = ls (fun a => gm (gm a.2 (xs (L + 1) (fun i => gm (c i) (pw a.1 (L - i))))) (pw a.1 (n - L))) l := by
  unfold cv syn
  have e1 : ∀ (m : Nat) (f : Nat → Nat × Nat → Nat), xs m (fun i => ls (f i) l) = ls (fun a => xs m (fun i => f i a)) l := by
    intro m f
    induction m with
    | zero => exact (ls_zero fun _ _ => rfl).symm
    | succ m ih =>
      show xs m _ ^^^ ls (f m) l = ls (fun a => xs m (fun i => f i a) ^^^ f m a) l
      rw [ih, ls_xor]
  rw [xs_congr (g := fun i => ls (fun a => gm (c i) (gm a.2 (pw a.1 (n - i)))) l) fun i _ => gm_ls _ _ _, e1]
  refine ls_congr fun a ha => ?_
  obtain ⟨ha1, ha2⟩ := hl a ha
  rw [gm_xs, xs_gm (fun i _ => gm_lt _ ha2)]
  refine xs_congr fun i hi => ?_
  rw [gm_assoc _ ha2 (gm_lt _ (hc i)) (pw_lt _), gm_assoc _ (hc i) (pw_lt _) (pw_lt _), ← pw_add ha1, show L - i + (n - L) = n - i by omega, ← gm_assoc _ (hc i) ha2 (pw_lt _), gm_comm (hc i) ha2, gm_assoc _ ha2 (hc i) (pw_lt _)]
theorem pw_gi {x : Nat} (hx : x < 256) (h0 : x ≠ 0) (n : Nat) : gm (pw x n) (pw (gi x) n) = 1 := by
  rw [← gm_pw hx (gi_lt x), gm_gi hx h0, one_pw]
/-- The recursion read backwards is the value at the inverse. -/
theorem back_eval {c : List Nat} (hc : Bs c) {x : Nat} (hx : x < 256) (h0 : x ≠ 0) {L : Nat} (hcl : ∀ i, L < i → c.getD i 0 = 0) :
    xs (L + 1) (fun i => gm (c.getD i 0) (pw x (L - i))) = gm (pw x L) (pe c (gi x)) := by
  rw [pe_sum (gi_lt x) (L + 1 + c.length) hc (by omega), xs_more (n := L + 1) (m := L + 1 + c.length) (by omega) fun j h1 h2 => by rw [hcl j (by omega), zero_gm], gm_xs]
  refine xs_congr fun i hi => ?_
  have e : pw x L = gm (pw x (L - i)) (pw x i) := by rw [← pw_add hx]; congr 1; omega
  rw [e, gm_assoc _ (pw_lt _) (pw_lt _) (gm_lt _ (getD_lt hc i)), gm_comm (getD_lt hc i) (pw_lt (a := gi x) i), ← gm_assoc (a := pw x i) _ (pw_lt _) (pw_lt _) (getD_lt hc i), pw_gi hx h0, one_gm _ (getD_lt hc i), gm_comm (getD_lt hc i) (pw_lt _)]
/-- The product of all x + X, its coefficients backwards, is a recursion for such syndromes. -/
theorem known {l : List (Nat × Nat)} (hl : PB l) {n : Nat} (hn : l.length ≤ n) :
    cv (fun i => if i ≤ l.length then (pD (l.map (·.1))).getD (l.length - i) 0 else 0) (syn l) l.length n = 0 := by
  have hb := pD_bytes hl.fst
  have hlen : (pD (l.map (·.1))).length ≤ l.length + 1 := by have := pD_length (l.map (·.1)); rwa [List.length_map] at this
  have hgb : ∀ i, (if i ≤ l.length then (pD (l.map (·.1))).getD (l.length - i) 0 else 0) < 256 := fun i => by
    split
    · exact getD_lt hb _
    · decide
  rw [cv_syn hl hgb hn]
  refine ls_zero fun a ha => ?_
  obtain ⟨ha1, ha2⟩ := hl a ha
  have e : xs (l.length + 1) (fun i => gm (if i ≤ l.length then (pD (l.map (·.1))).getD (l.length - i) 0 else 0) (pw a.1 (l.length - i))) = pe (pD (l.map (·.1))) a.1 := by
    rw [pe_sum ha1 (l.length + 1) hb hlen]
    have rev : ∀ (m : Nat) (f : Nat → Nat), xs (m + 1) (fun i => f (m - i)) = xs (m + 1) f := by
      intro m
      induction m with
      | zero => intro f; rfl
      | succ m ih =>
        intro f
        rw [xs_succ]
        show f (m + 1 - 0) ^^^ _ = xs (m + 1) f ^^^ f (m + 1)
        rw [← ih f, Nat.xor_comm]
        congr 1
        exact xs_congr fun j hj => by rw [show m + 1 - (j + 1) = m - j by omega]
    rw [← rev l.length (fun i => gm ((pD (l.map (·.1))).getD i 0) (pw a.1 i))]
    exact xs_congr fun i hi => by rw [if_pos (by omega)]
  rw [e, (pD_zero ha1 hl.fst).2 (List.mem_map.2 ⟨a, ha, rfl⟩), gm_zero, zero_gm]
theorem pD_monic : ∀ (l : List Nat), Bs l → (pD l).getD l.length 0 = 1
  | [], _ => rfl
  | y :: l, h => by
    show (padd (0 :: pD l) (psc y (pD l))).getD (l.length + 1) 0 = 1
    have e : ∀ (p q : List Nat) (j : Nat), (padd p q).getD j 0 = p.getD j 0 ^^^ q.getD j 0 := by
      intro p
      induction p with
      | nil => intro q j; simp [padd]
      | cons a p ih =>
        intro q j
        cases q with
        | nil => simp [padd]
        | cons b q =>
          cases j with
          | zero => rfl
          | succ j => exact ih q j
    have hlen := pD_length l
    have h2 : (psc y (pD l)).length = (pD l).length := List.length_map _
    rw [e, getD_out (l := psc y (pD l)) (by omega), Nat.xor_zero]
    exact pD_monic l h.tail

/-- As many roots of the locator as there are errors, and no others. -/
theorem roots_of {s : List Nat} {l : List (Nat × Nat)} (hl : PB l) (hX : ∀ a ∈ l, a.1 ≠ 0) (he : ∀ a ∈ l, a.2 ≠ 0) (hn : (l.map (·.1)).Nodup)
    (hs : ∀ k, k < s.length → s.getD k 0 = syn l k) (hlen : 2 * l.length ≤ s.length) :
    (loc s).length = l.length + 1 ∧ ∀ x, x < 256 → x ≠ 0 → (pe (loc s) (gi x) = 0 ↔ x ∈ l.map (·.1)) := by
  have hsb : Bs s := by
    intro x hx
    obtain ⟨i, hi, rfl⟩ := List.mem_iff_getElem.1 hx
    have := hs i hi
    rw [List.getD_eq_getElem?_getD, List.getElem?_eq_getElem hi] at this
    show s[i] < 256
    have e : s[i] = syn l i := this
    rw [e]; exact syn_lt hl i
  have hE := inv_end hsb
  have hcvs : ∀ (c : Nat → Nat) (L n : Nat), n < s.length → cv c (fun i => s.getD i 0) L n = cv c (syn l) L n := by
    intro c L n hn
    unfold cv
    refine xs_congr fun i _ => ?_
    show gm (c i) (s.getD (n - i) 0) = _
    rw [hs (n - i) (by omega)]
  have hb := pD_bytes hl.fst
  have hgb : ∀ i, (if i ≤ l.length then (pD (l.map (·.1))).getD (l.length - i) 0 else 0) < 256 := fun i => by
    split
    · exact getD_lt hb _
    · decide
  have hL : (run s s.length 0 st0).long ≤ l.length := by
    refine shortest hsb hE (g := fun i => if i ≤ l.length then (pD (l.map (·.1))).getD (l.length - i) 0 else 0) hgb ?_ fun n h1 h2 => ?_
    · simp only [Nat.zero_le, if_true, Nat.sub_zero]
      have := pD_monic (l.map (·.1)) hl.fst
      rwa [List.length_map] at this
    · rw [hcvs _ _ _ h2]
      exact known hl h1
  generalize hT : run s s.length 0 st0 = t at hE hL
  have hloc : loc s = tr t.c := by unfold loc; rw [hT]
  have hcb := hE.cb
  have hval : ∀ x, x < 256 → pe (loc s) x = pe t.c x := fun x hx => by rw [hloc]; exact tr_eval hx hcb
  have hlocb : Bs (loc s) := by rw [hloc]; exact tr_bytes hcb
  have hloc0 : (loc s).getD 0 0 = 1 := by rw [hloc, tr_getD]; exact hE.c0
  have hne : pe (loc s) 0 ≠ 0 := by
    cases e : loc s with
    | nil => rw [e] at hloc0; exact absurd hloc0 (by decide)
    | cons a p =>
      rw [e] at hloc0
      have : a = 1 := hloc0
      show gm (pe p 0) 0 ^^^ a ≠ 0
      rw [gm_zero, this]; decide
  -- each point is a root
  have hroot : ∀ a ∈ l, pe (loc s) (gi a.1) = 0 := by
    have hv := vander (l.map fun a => (a.1, gm a.2 (xs (t.long + 1) (fun i => gm (t.c.getD i 0) (pw a.1 (t.long - i))))))
      (by
        intro b hb'
        obtain ⟨a, ha, rfl⟩ := List.mem_map.1 hb'
        exact ⟨(hl a ha).1, gm_lt _ (hl a ha).2⟩)
      (by rw [List.map_map]; exact hn)
      (by
        intro k hk
        rw [List.length_map] at hk
        rw [ls_map]
        have := cv_syn hl (c := fun i => t.c.getD i 0) (fun i => getD_lt hcb i) (L := t.long) (n := t.long + k) (by omega)
        rw [← hcvs _ _ _ (by omega), hE.cr _ (by omega) (by omega), show t.long + k - t.long = k by omega] at this
        exact this.symm)
    intro a ha
    have h2 : gm a.2 (xs (t.long + 1) (fun i => gm (t.c.getD i 0) (pw a.1 (t.long - i)))) = 0 := hv _ (List.mem_map.2 ⟨a, ha, rfl⟩)
    obtain ⟨h3, h4⟩ := hl a ha
    rw [back_eval hcb h3 (hX a ha) hE.cl, gm_eq_zero h4 (gm_lt _ (pw_lt _)), gm_eq_zero (pw_lt _) (pe_lt _ hcb)] at h2
    rw [hval _ (gi_lt _)]
    rcases h2 with h2 | h2 | h2
    · exact absurd h2 (he a ha)
    · exact absurd h2 (pw_ne h3 (hX a ha) _)
    · exact h2
  have hginj : ∀ {x y : Nat}, x < 256 → y < 256 → x ≠ 0 → y ≠ 0 → gi x = gi y → x = y := by
    intro x y hx hy hx0 hy0 e
    have h1 := gm_gi hx hx0
    have h2 := gm_gi hy hy0
    rw [← e, ← h1] at h2
    have h3 := gm_comm (gi_lt x) hy
    have h4 := gm_comm (gi_lt x) hx
    rw [← h3, ← h4] at h2
    exact (gm_inj (gi_lt x) hy hx (gi_ne hx hx0) h2).symm
  have hnod : ∀ {m : List (Nat × Nat)}, PB m → (∀ a ∈ m, a.1 ≠ 0) → (m.map (·.1)).Nodup → (m.map fun a => gi a.1).Nodup := by
    intro m
    induction m with
    | nil => intro _ _ _; exact List.nodup_nil
    | cons a m ih =>
      intro h1 h2 h3
      rw [List.map_cons, List.nodup_cons] at h3 ⊢
      refine ⟨fun hm => ?_, ih h1.tail (fun b hb' => h2 b (List.mem_cons_of_mem _ hb')) h3.2⟩
      obtain ⟨b, hb', e⟩ := List.mem_map.1 hm
      refine h3.1 (List.mem_map.2 ⟨b, hb', ?_⟩)
      exact hginj (h1 b (List.mem_cons_of_mem _ hb')).1 (h1 a List.mem_cons_self).1 (h2 b (List.mem_cons_of_mem _ hb')) (h2 a List.mem_cons_self) e
  have hgB : Bs (l.map fun a => gi a.1) := fun x hx => by
    obtain ⟨a, _, rfl⟩ := List.mem_map.1 hx
    exact gi_lt _
  have hrl : ∀ x ∈ (l.map fun a => gi a.1), pe (loc s) x = 0 := fun x hx => by
    obtain ⟨a, ha, rfl⟩ := List.mem_map.1 hx
    exact hroot a ha
  have hle : (loc s).length ≤ l.length + 1 := by
    rw [hloc]
    exact tr_length_le fun j hj => hE.cl j (by omega)
  have hge : l.length < (loc s).length := by
    apply Nat.lt_of_not_le
    intro h
    exact hne (roots (l.map fun a => gi a.1) (loc s) (by rw [List.length_map]; exact h) hlocb hgB (hnod hl hX hn) hrl 0 (by decide))
  refine ⟨by omega, fun x hx h0 => ⟨fun hz => ?_, fun hm => ?_⟩⟩
  · apply Classical.byContradiction
    intro hnm
    refine hne (roots (gi x :: l.map fun a => gi a.1) (loc s) (by rw [List.length_cons, List.length_map]; exact hle) hlocb (Bs.cons (gi_lt x) hgB) (List.nodup_cons.2 ⟨fun hm => hnm ?_, hnod hl hX hn⟩) (fun y hy => ?_) 0 (by decide))
    · obtain ⟨a, ha, e⟩ := List.mem_map.1 hm
      exact List.mem_map.2 ⟨a, ha, hginj (hl a ha).1 hx (hX a ha) h0 e⟩
    · rcases List.mem_cons.1 hy with rfl | hy
      · exact hz
      · exact hrl y hy
  · obtain ⟨a, ha, rfl⟩ := List.mem_map.1 hm
    exact hroot a ha
end Go.Proofs.Ytldlldfoaicjcaa.Bm
