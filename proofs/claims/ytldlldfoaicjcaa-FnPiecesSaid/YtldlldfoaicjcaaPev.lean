/-
  The values of polynomials over the plain field of 256 elements, no program in sight: of cut ones, sums, products, quotients and rests; their coefficients and lengths. Conditions are typed at each lemma.
-/
import Derived.Test.YtldlldfoaicjcaaPol
set_option linter.unusedVariables false
namespace Go.Proofs.Ytldlldfoaicjcaa.Pev
open Go.Proofs.Ytldlldfoaicjcaa.Gf Go.Proofs.Ytldlldfoaicjcaa.Lin Go.Proofs.Ytldlldfoaicjcaa.Root Go.Proofs.Ytldlldfoaicjcaa.Poly
attribute [local irreducible] gm gi

theorem gev_pe : ∀ (p : List Nat) (x : Nat), gev p x = pe p x
  | [], _ => rfl
  | c :: p, x => by
    show gm (gev p x) x ^^^ c = gm (pe p x) x ^^^ c
    rw [gev_pe p x]
theorem getD_lt {l : List Nat} (h : Bs l) (i : Nat) : l.getD i 0 < 256 := AllB.get (l := l) h i
theorem getD_out {l : List Nat} {i : Nat} (h : l.length ≤ i) : l.getD i 0 = 0 := by
  rw [List.getD_eq_getElem?_getD, List.getElem?_eq_none h]; rfl
theorem getD_set (l : List Nat) (i j v : Nat) (h : i < l.length) : (l.set i v).getD j 0 = if j = i then v else l.getD j 0 := by
  simp only [List.getD_eq_getElem?_getD, List.getElem?_set]
  by_cases e : i = j
  · subst e; simp [h]
  · rw [if_neg e, if_neg (fun h => e h.symm)]
theorem getD_take (l : List Nat) (n j : Nat) : (l.take n).getD j 0 = if j < n then l.getD j 0 else 0 := by
  simp only [List.getD_eq_getElem?_getD, List.getElem?_take]
  split <;> rfl
theorem getD_app (l m : List Nat) (j : Nat) : (l ++ m).getD j 0 = if j < l.length then l.getD j 0 else m.getD (j - l.length) 0 := by
  simp only [List.getD_eq_getElem?_getD, List.getElem?_append]
  split <;> rfl
theorem getD_zeros (n j : Nat) : (List.replicate n 0).getD j 0 = 0 := by
  simp only [List.getD_eq_getElem?_getD, List.getElem?_replicate]
  split <;> rfl
/-- The value as a sum over the coefficients. -/
theorem pe_sum {x : Nat} (hx : x < 256) : ∀ {p : List Nat} (n : Nat), Bs p → p.length ≤ n → pe p x = xs n (fun i => gm (p.getD i 0) (pw x i))
  | [], n, _, _ => (xs_zero fun j _ => by show gm 0 _ = 0; exact zero_gm _).symm
  | c :: p, 0, _, h => by simp at h
  | c :: p, n + 1, hb, h => by
    rw [xs_succ]
    show gm (pe p x) x ^^^ c = gm c 1 ^^^ xs n (fun j => gm (p.getD j 0) (gm (pw x j) x))
    rw [gm_one _ hb.head, pe_sum hx n hb.tail (by simpa using h), xs_gm (fun j _ => gm_lt _ (getD_lt hb.tail j)), Nat.xor_comm]
    congr 1
    exact xs_congr fun j _ => gm_assoc _ (getD_lt hb.tail j) (pw_lt j) hx
theorem pe_ext {x : Nat} (hx : x < 256) {p q : List Nat} (hp : Bs p) (hq : Bs q) (h : ∀ i, p.getD i 0 = q.getD i 0) : pe p x = pe q x := by
  rw [pe_sum hx (p.length + q.length) hp (by omega), pe_sum hx (p.length + q.length) hq (by omega)]
  exact xs_congr fun j _ => by rw [h j]
theorem trN_getD (l : List Nat) : ∀ n j, (trN l n).getD j 0 = if j < n then l.getD j 0 else 0
  | 0, j => by simp [trN]
  | n + 1, j => by
    unfold trN
    split
    · rename_i h0
      rw [trN_getD l n j]
      by_cases e : j = n
      · subst e; rw [if_neg (by omega), if_pos (by omega)]; exact h0.symm
      · by_cases h : j < n
        · rw [if_pos h, if_pos (by omega)]
        · rw [if_neg h, if_neg (by omega)]
    · exact getD_take l (n + 1) j
theorem tr_getD (l : List Nat) (j : Nat) : (tr l).getD j 0 = l.getD j 0 := by
  unfold tr
  rw [trN_getD]
  split
  · rfl
  · exact (getD_out (by omega)).symm
theorem tr_eval {x : Nat} (hx : x < 256) {p : List Nat} (hp : Bs p) : pe (tr p) x = pe p x := pe_ext hx (tr_bytes hp) hp (tr_getD p)
/-- What a cut list ends with. -/
theorem trN_last (l : List Nat) : ∀ n, n ≤ l.length → trN l n = [] ∨ (trN l n).getD ((trN l n).length - 1) 0 ≠ 0
  | 0, _ => .inl rfl
  | n + 1, hn => by
    unfold trN
    split
    · exact trN_last l n (by omega)
    · rename_i h
      refine .inr ?_
      rw [getD_take, List.length_take, if_pos (by omega), show min (n + 1) l.length - 1 = n by omega]
      exact h
theorem tr_last (l : List Nat) : tr l = [] ∨ (tr l).getD ((tr l).length - 1) 0 ≠ 0 := trN_last l _ (Nat.le_refl _)
theorem tr_length_le {l : List Nat} {n : Nat} (h : ∀ j, n ≤ j → l.getD j 0 = 0) : (tr l).length ≤ n := by
  rcases tr_last l with e | e
  · rw [e]; exact Nat.zero_le _
  · apply Nat.le_of_not_lt
    intro hlt
    rw [tr_getD] at e
    exact e (h _ (by omega))
theorem tr_length_eq {l : List Nat} {n : Nat} (h0 : l.getD n 0 ≠ 0) (h : ∀ j, n < j → l.getD j 0 = 0) : (tr l).length = n + 1 := by
  refine Nat.le_antisymm (tr_length_le fun j hj => h j hj) (Nat.le_of_not_lt fun hlt => h0 ?_)
  rw [← tr_getD]
  exact getD_out (by omega)
theorem tr_id {l : List Nat} (h : l = [] ∨ l.getD (l.length - 1) 0 ≠ 0) : tr l = l := by
  rcases h with rfl | h
  · rfl
  · have hl : 0 < l.length := by
      apply Nat.pos_of_ne_zero
      intro e
      exact h (getD_out (by omega))
    obtain ⟨n, hn⟩ : ∃ n, l.length = n + 1 := ⟨l.length - 1, by omega⟩
    unfold tr
    rw [hn]
    unfold trN
    rw [hn] at h
    rw [if_neg (show ¬ l.getD n 0 = 0 from h), ← hn, List.take_length]

theorem set_eval {x : Nat} (hx : x < 256) {l : List Nat} (hl : Bs l) {i v : Nat} (hv : v < 256) (h : i < l.length) : pe (l.set i (l.getD i 0 ^^^ v)) x = pe l x ^^^ gm v (pw x i) := by
  have hb : Bs (l.set i (l.getD i 0 ^^^ v)) := AllB.set hl i (xor_byte (getD_lt hl i) hv)
  rw [pe_sum hx l.length hb (by simp), pe_sum hx l.length hl (Nat.le_refl _)]
  have e : xs l.length (fun j => if j = i then gm v (pw x i) else 0) = gm v (pw x i) := by
    rw [xs_single h fun j _ hne => if_neg hne, if_pos rfl]
  rw [← e, ← xs_xor]
  refine xs_congr fun j hj => ?_
  rw [getD_set _ _ _ _ h]
  by_cases e2 : j = i
  · subst e2; rw [if_pos rfl, if_pos rfl, add_gm _ (getD_lt hl j) hv]
  · rw [if_neg e2, if_neg e2, Nat.xor_zero]
theorem mrow_eval {x : Nat} (hx : x < 256) {a : Nat} (ha : a < 256) : ∀ {q : List Nat} (i : Nat) {out : List Nat}, Bs q → Bs out → i + q.length ≤ out.length →
    pe (mrow a q i out) x = pe out x ^^^ gm (gm a (pw x i)) (pe q x)
  | [], i, out, _, _, _ => by simp only [mrow, pe, gm_zero, Nat.xor_zero]
  | b :: q, i, out, hq, ho, hl => by
    simp only [List.length_cons] at hl
    have hb := hq.head
    have hab := gm_lt b ha
    have hpi := pw_lt (a := x) i
    have hpq := pe_lt x hq.tail
    unfold mrow
    rw [mrow_eval hx ha (i + 1) hq.tail (AllB.set ho i (xor_byte (getD_lt ho i) hab)) (by rw [List.length_set]; omega), set_eval hx ho hab (by omega), Nat.xor_assoc]
    congr 1
    show gm (gm a b) (pw x i) ^^^ gm (gm a (gm (pw x i) x)) (pe q x) = gm (gm a (pw x i)) (gm (pe q x) x ^^^ b)
    rw [gm_add, Nat.xor_comm]
    congr 1
    · rw [← gm_assoc _ ha hpi hx, gm_assoc _ (gm_lt _ ha) hx hpq, gm_comm hx hpq]
    · rw [gm_assoc _ ha hb hpi, gm_comm hb hpi, gm_assoc _ ha hpi hb]
theorem mpA_eval {x : Nat} (hx : x < 256) {q : List Nat} (hq : Bs q) : ∀ {p : List Nat} (i : Nat) {out : List Nat}, Bs p → Bs out → i + p.length + q.length ≤ out.length →
    pe (mpA q p i out) x = pe out x ^^^ gm (pw x i) (gm (pe p x) (pe q x))
  | [], i, out, _, _, _ => by simp only [mpA, pe, zero_gm, gm_zero, Nat.xor_zero]
  | a :: p, i, out, hp, ho, hl => by
    simp only [List.length_cons] at hl
    have ha := hp.head
    have hpi := pw_lt (a := x) i
    have hpq := pe_lt x hq
    have hpp := pe_lt x hp.tail
    unfold mpA
    rw [mpA_eval hx hq (i + 1) hp.tail (mrow_bytes ha i ho) (by rw [mrow_length]; omega), mrow_eval hx ha i hq ho (by omega), Nat.xor_assoc]
    congr 1
    show gm (gm a (pw x i)) (pe q x) ^^^ gm (gm (pw x i) x) (gm (pe p x) (pe q x)) = gm (pw x i) (gm (gm (pe p x) x ^^^ a) (pe q x))
    rw [add_gm _ (gm_lt _ hpp) ha, gm_add, Nat.xor_comm]
    congr 1
    · rw [gm_assoc _ hpi hx (gm_lt _ hpp), gm_assoc _ hpp hx hpq, ← gm_assoc _ hx hpp hpq, gm_comm hx hpp, gm_assoc _ hpp hx hpq]
    · rw [gm_comm ha hpi, gm_assoc _ hpi ha hpq]
theorem zeros_eval (x n : Nat) : pe (List.replicate n 0) x = 0 := by
  induction n with
  | zero => rfl
  | succ n ih =>
    show gm (pe (List.replicate n 0) x) x ^^^ 0 = 0
    rw [ih, zero_gm]; rfl
theorem mulP_eval {x : Nat} (hx : x < 256) {p q : List Nat} (hp : Bs p) (hq : Bs q) : pe (mulP p q) x = gm (pe p x) (pe q x) := by
  unfold mulP
  rw [tr_eval hx (mpA_bytes 0 hp (AllB.zeros _)), mpA_eval hx hq 0 hp (AllB.zeros _) (by simp), zeros_eval, Nat.zero_xor]
  exact one_gm _ (gm_lt _ (pe_lt x hp))

theorem mrow_getD (a : Nat) : ∀ (q : List Nat) (i : Nat) (out : List Nat) (j : Nat), i + q.length ≤ out.length →
    (mrow a q i out).getD j 0 = out.getD j 0 ^^^ (if i ≤ j then gm a (q.getD (j - i) 0) else 0)
  | [], i, out, j, _ => by
    show out.getD j 0 = out.getD j 0 ^^^ (if i ≤ j then gm a 0 else 0)
    rw [gm_zero, ite_self, Nat.xor_zero]
  | b :: q, i, out, j, h => by
    simp only [List.length_cons] at h
    unfold mrow
    rw [mrow_getD a q (i + 1) _ j (by rw [List.length_set]; omega), getD_set _ _ _ _ (by omega)]
    by_cases e : j = i
    · subst e
      rw [if_pos rfl, if_neg (by omega), if_pos (Nat.le_refl _), Nat.xor_zero, Nat.sub_self]; rfl
    · rw [if_neg e]
      by_cases h2 : i ≤ j
      · rw [if_pos (by omega), if_pos h2]
        obtain ⟨d, hd⟩ : ∃ d, j - i = d + 1 := ⟨j - i - 1, by omega⟩
        rw [hd, show j - (i + 1) = d by omega]; rfl
      · rw [if_neg (by omega), if_neg h2]
theorem mpA_high (q : List Nat) : ∀ (p : List Nat) (i : Nat) (out : List Nat) (j : Nat), i + p.length + q.length ≤ out.length + 1 → i + p.length + q.length ≤ j + 1 → (mpA q p i out).getD j 0 = out.getD j 0
  | [], i, out, j, _, _ => rfl
  | a :: p, i, out, j, h, hj => by
    simp only [List.length_cons] at h hj
    unfold mpA
    rw [mpA_high q p (i + 1) _ j (by rw [mrow_length]; omega) (by omega), mrow_getD a q i out j (by omega)]
    rw [if_pos (by omega), getD_out (l := q) (by omega), gm_zero, Nat.xor_zero]
theorem mpA_top {q : List Nat} (hq : q ≠ []) : ∀ (p : List Nat) (i : Nat) (out : List Nat), p ≠ [] → i + p.length + q.length ≤ out.length + 1 →
    (mpA q p i out).getD (i + (p.length - 1) + (q.length - 1)) 0 = out.getD (i + (p.length - 1) + (q.length - 1)) 0 ^^^ gm (p.getD (p.length - 1) 0) (q.getD (q.length - 1) 0)
  | [], _, _, h, _ => absurd rfl h
  | [a], i, out, _, h => by
    have hl : 0 < q.length := List.length_pos_iff.2 hq
    simp only [List.length_cons, List.length_nil] at h ⊢
    unfold mpA
    show (mrow a q i out).getD _ 0 = _
    rw [mrow_getD a q i out _ (by omega), if_pos (by omega), show i + (0 + 1 - 1) + (q.length - 1) - i = q.length - 1 by omega]
    rfl
  | a :: b :: p, i, out, _, h => by
    have hl : 0 < q.length := List.length_pos_iff.2 hq
    simp only [List.length_cons] at h ⊢
    have e := mpA_top hq (b :: p) (i + 1) (mrow a q i out) (by simp) (by rw [mrow_length]; simp only [List.length_cons]; omega)
    simp only [List.length_cons] at e
    unfold mpA
    rw [show i + (p.length + 1 + 1 - 1) + (q.length - 1) = i + 1 + (p.length + 1 - 1) + (q.length - 1) by omega, e, mrow_getD a q i out _ (by omega), if_pos (by omega), getD_out (l := q) (by omega), gm_zero, Nat.xor_zero]
    rfl
/-- A product is as long as its factors together, less one, if they are polynomials that are not empty. -/
theorem mulP_length_eq {p q : List Nat} (hp : Bs p) (hq : Bs q) (hp0 : p ≠ []) (hq0 : q ≠ []) (hpl : p.getD (p.length - 1) 0 ≠ 0) (hql : q.getD (q.length - 1) 0 ≠ 0) : (mulP p q).length = p.length + q.length - 1 := by
  have h1 : 0 < p.length := List.length_pos_iff.2 hp0
  have h2 : 0 < q.length := List.length_pos_iff.2 hq0
  unfold mulP
  have ht := mpA_top hq0 p 0 (List.replicate (p.length + q.length) 0) hp0 (by simp)
  rw [getD_zeros, Nat.zero_xor] at ht
  rw [tr_length_eq (n := 0 + (p.length - 1) + (q.length - 1))]
  · omega
  · rw [ht]
    exact gm_ne (getD_lt hp _) (getD_lt hq _) hpl hql
  · intro j hj
    rw [mpA_high q p 0 _ j (by simp) (by omega), getD_zeros]

/-- The division's steps keep quotient times q plus rest. -/
theorem dvA_length (q : List Nat) (inv : Nat) : ∀ (i : Nat) (quo rest : List Nat), (dvA q inv i quo rest).1.length = quo.length ∧ (dvA q inv i quo rest).2.length = rest.length
  | 0, _, _ => ⟨rfl, rfl⟩
  | i + 1, quo, rest => by
    unfold dvA
    have := dvA_length q inv i (quo.set i (gm (rest.getD (i + q.length - 1) 0) inv)) (mrow (gm (rest.getD (i + q.length - 1) 0) inv) q i rest)
    rw [List.length_set, mrow_length] at this
    exact this
theorem dvA_bytes {q : List Nat} (inv : Nat) : ∀ (i : Nat) {quo rest : List Nat}, Bs quo → Bs rest → Bs (dvA q inv i quo rest).1 ∧ Bs (dvA q inv i quo rest).2
  | 0, _, _, h1, h2 => ⟨h1, h2⟩
  | i + 1, quo, rest, h1, h2 => by
    unfold dvA
    exact dvA_bytes inv i (AllB.set h1 i (gm_lt _ (getD_lt h2 _))) (mrow_bytes (gm_lt _ (getD_lt h2 _)) i h2)
theorem dvA_eval {x : Nat} (hx : x < 256) {q : List Nat} (hq : Bs q) (inv : Nat) : ∀ (i : Nat) {quo rest : List Nat}, Bs quo → Bs rest → i ≤ quo.length → i + q.length ≤ rest.length + 1 → q ≠ [] → (∀ j, j < i → quo.getD j 0 = 0) →
    gm (pe (dvA q inv i quo rest).1 x) (pe q x) ^^^ pe (dvA q inv i quo rest).2 x = gm (pe quo x) (pe q x) ^^^ pe rest x
  | 0, _, _, _, _, _, _, _, _ => rfl
  | i + 1, quo, rest, h1, h2, hl, hr, hq0, hz => by
    have hql : 0 < q.length := List.length_pos_iff.2 hq0
    unfold dvA
    have hf := gm_lt inv (getD_lt h2 (i + q.length - 1))
    generalize gm (rest.getD (i + q.length - 1) 0) inv = f at hf ⊢
    rw [dvA_eval hx hq inv i (AllB.set h1 i hf) (mrow_bytes hf i h2) (by rw [List.length_set]; omega) (by rw [mrow_length]; omega) hq0 (fun j hj => by rw [getD_set _ _ _ _ (by omega), if_neg (by omega)]; exact hz j (by omega))]
    have e : quo.set i f = quo.set i (quo.getD i 0 ^^^ f) := by rw [hz i (by omega), Nat.zero_xor]
    rw [e, set_eval hx h1 hf (by omega), mrow_eval hx hf i hq h2 (by omega), add_gm _ (pe_lt x h1) (gm_lt _ hf), Nat.xor_assoc, Nat.xor_comm (pe rest x), ← Nat.xor_assoc (gm (gm f (pw x i)) (pe q x)), Nat.xor_self, Nat.zero_xor]
theorem dvA_rest {q : List Nat} (hq : Bs q) (hq0 : q ≠ []) (ht : q.getD (q.length - 1) 0 ≠ 0) : ∀ (i : Nat) {quo rest : List Nat}, Bs rest → i + q.length ≤ rest.length + 1 → (∀ j, i + q.length ≤ j + 1 → rest.getD j 0 = 0) →
    ∀ j, q.length ≤ j + 1 → (dvA q (gi (q.getD (q.length - 1) 0)) i quo rest).2.getD j 0 = 0
  | 0, _, _, _, _, h, j, hj => h j (by omega)
  | i + 1, quo, rest, hb, hr, h, j, hj => by
    have hql : 0 < q.length := List.length_pos_iff.2 hq0
    have htb := getD_lt hq (q.length - 1)
    unfold dvA
    have hrb := getD_lt hb (i + q.length - 1)
    refine dvA_rest hq hq0 ht i (mrow_bytes (gm_lt _ hrb) i hb) (by rw [mrow_length]; omega) (fun k hk => ?_) j hj
    rw [mrow_getD _ q i rest k (by omega), if_pos (by omega)]
    by_cases e : k = i + q.length - 1
    · subst e
      rw [show i + q.length - 1 - i = q.length - 1 by omega, gm_assoc _ hrb (gi_lt _) htb, gi_gm htb ht, gm_one _ hrb, Nat.xor_self]
    · rw [h k (by omega), getD_out (l := q) (i := k - i) (by omega), gm_zero]; rfl
end Go.Proofs.Ytldlldfoaicjcaa.Pev
