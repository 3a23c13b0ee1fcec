/-
  Words of the code, no program in sight: the rest of a division alone, the word of a message, that its syndromes are 0, and that two words differ in more places than there are syndromes. Conditions are typed at each lemma.
-/
import Derived.Test.YtldlldfoaicjcaaBm
import Derived.Test.YtldlldfoaicjcaaGfx
set_option linter.unusedVariables false
namespace Go.Proofs.Ytldlldfoaicjcaa.Enc
open Go.Proofs.Ytldlldfoaicjcaa.Gf Go.Proofs.Ytldlldfoaicjcaa.Gfx Go.Proofs.Ytldlldfoaicjcaa.Lin Go.Proofs.Ytldlldfoaicjcaa.Root Go.Proofs.Ytldlldfoaicjcaa.Poly Go.Proofs.Ytldlldfoaicjcaa.Pev
attribute [local irreducible] gm gi

theorem mrow_zero : ∀ (q : List Nat) (i : Nat) (out : List Nat), mrow 0 q i out = out
  | [], _, _ => rfl
  | b :: q, i, out => by
    unfold mrow
    have e : out.set i (out.getD i 0 ^^^ gm 0 b) = out := by
      rw [zero_gm, Nat.xor_zero]
      by_cases h : i < out.length
      · rw [List.getD_eq_getElem?_getD, List.getElem?_eq_getElem h]; exact List.set_getElem_self h
      · exact List.set_eq_of_length_le (by omega)
    rw [e]; exact mrow_zero q (i + 1) out
theorem mrow_app (a : Nat) (z : List Nat) : ∀ (q : List Nat) (i : Nat) (out : List Nat), i + q.length ≤ out.length → mrow a q i (out ++ z) = mrow a q i out ++ z
  | [], _, _, _ => rfl
  | b :: q, i, out, h => by
    rw [List.length_cons] at h
    have h' : i < out.length := by omega
    unfold mrow
    rw [getD_app, if_pos h', List.set_append_left _ _ h', mrow_app a z q (i + 1) _ (by rw [List.length_set]; omega)]
/-- The rest alone. -/
def rs (q : List Nat) (inv : Nat) : Nat → List Nat → List Nat
  | 0, rest => rest
  | i + 1, rest => rs q inv i (mrow (gm (rest.getD (i + q.length - 1) 0) inv) q i rest)
theorem dvA_rs (q : List Nat) (inv : Nat) : ∀ (i : Nat) (quo rest : List Nat), (dvA q inv i quo rest).2 = rs q inv i rest
  | 0, _, _ => rfl
  | i + 1, quo, rest => by
    unfold dvA rs
    exact dvA_rs q inv i _ _
theorem rs_app {q : List Nat} (inv : Nat) (z : List Nat) (hq : 0 < q.length) : ∀ (i : Nat) (rest : List Nat), i = 0 ∨ i + q.length ≤ rest.length + 1 → rs q inv i (rest ++ z) = rs q inv i rest ++ z
  | 0, _, _ => rfl
  | i + 1, rest, h => by
    have h' : i + q.length ≤ rest.length := by omega
    unfold rs
    rw [getD_app, if_pos (by omega), mrow_app _ z q i rest h', rs_app inv z hq i _ (.inr (by rw [mrow_length]; omega))]
theorem rs_skip {q : List Nat} (inv : Nat) (hq : 0 < q.length) (n0 : Nat) : ∀ (d : Nat) (rest : List Nat), (∀ j, n0 + q.length ≤ j + 1 → rest.getD j 0 = 0) → rs q inv (n0 + d) rest = rs q inv n0 rest
  | 0, _, _ => rfl
  | d + 1, rest, h => by
    show rs q inv (n0 + d) (mrow (gm (rest.getD (n0 + d + q.length - 1) 0) inv) q (n0 + d) rest) = _
    rw [h _ (by omega), zero_gm, mrow_zero]
    exact rs_skip inv hq n0 d rest h
theorem trN_split (l : List Nat) : ∀ n, n ≤ l.length → l.take n = trN l n ++ List.replicate (n - (trN l n).length) 0
  | 0, _ => by simp [trN]
  | n + 1, h => by
    unfold trN
    by_cases e : l.getD n 0 = 0
    · rw [if_pos e]
      have h1 := trN_length l n
      have hn : l[n] = 0 := by rw [List.getD_eq_getElem?_getD, List.getElem?_eq_getElem (by omega)] at e; exact e
      rw [List.take_succ_eq_append_getElem (by omega), trN_split l n (by omega), hn, List.append_assoc, show n + 1 - (trN l n).length = (n - (trN l n).length) + 1 by omega, List.replicate_succ']
    · rw [if_neg e, List.length_take, show n + 1 - min (n + 1) l.length = 0 by omega]
      simp
theorem tr_split (l : List Nat) : l = tr l ++ List.replicate (l.length - (tr l).length) 0 := by
  have h := trN_split l l.length (Nat.le_refl _)
  rw [List.take_length] at h
  exact h
/-- The rest of a cut number is the number's. -/
theorem rs_cut (p : List Nat) {q : List Nat} (hq : 0 < q.length) (inv : Nat) : tr (rs q inv ((tr p).length + 1 - q.length) (tr p)) = tr (rs q inv (p.length + 1 - q.length) p) := by
  have hl := tr_length p
  obtain ⟨d, hd⟩ : ∃ d, p.length + 1 - q.length = ((tr p).length + 1 - q.length) + d := ⟨(p.length + 1 - q.length) - ((tr p).length + 1 - q.length), by omega⟩
  have h1 : rs q inv (p.length + 1 - q.length) p = rs q inv ((tr p).length + 1 - q.length) p := by
    rw [hd]
    refine rs_skip inv hq _ d p (fun j hj => ?_)
    rw [← tr_getD p j]
    exact getD_out (by omega)
  have h2 : rs q inv ((tr p).length + 1 - q.length) p = rs q inv ((tr p).length + 1 - q.length) (tr p ++ List.replicate (p.length - (tr p).length) 0) := congrArg _ (tr_split p)
  rw [h1, h2, rs_app inv _ hq _ _ (by omega), tr_zeros]

theorem pe_two (a x : Nat) (hx : x < 256) : pe [a, 1] x = x ^^^ a := by
  show gm (gm 0 x ^^^ 1) x ^^^ a = _
  rw [zero_gm, Nat.zero_xor, one_gm _ hx]
theorem two_Bs {a : Nat} (h : a < 256) : Bs [a, 1] := Bs.cons h (Bs.cons (by decide) Bs.nil)
theorem genA_root {x : Nat} (hx : x < 256) : ∀ (d k : Nat) (acc : List Nat), Bs acc → (pe acc x = 0 ∨ ∃ j, k ≤ j ∧ j < k + d ∧ x = pw 2 j) → pe (genA d k acc) x = 0
  | 0, _, _, _, h => by
    rcases h with h | ⟨j, h1, h2, _⟩
    · exact h
    · omega
  | d + 1, k, acc, hb, h => by
    unfold genA
    refine genA_root hx d (k + 1) _ (mulP_bytes _ hb) ?_
    rw [mulP_eval hx hb (two_Bs (pw_lt k)), pe_two _ _ hx]
    rcases h with h | ⟨j, h1, h2, h3⟩
    · rw [h, zero_gm]; exact .inl rfl
    · by_cases e : j = k
      · subst e
        rw [h3, Nat.xor_self, gm_zero]; exact .inl rfl
      · exact .inr ⟨j, by omega, by omega, h3⟩
theorem gen_root {w k : Nat} (hk : k < 2 * w) : pe (gen w) (pw 2 k) = 0 := genA_root (pw_lt k) _ _ _ (Bs.cons (by decide) Bs.nil) (.inr ⟨k, Nat.zero_le _, by omega, rfl⟩)
theorem genA_top : ∀ (d k : Nat) (acc : List Nat), Bs acc → acc ≠ [] → acc.getD (acc.length - 1) 0 ≠ 0 → (genA d k acc).length = acc.length + d ∧ (genA d k acc).getD ((genA d k acc).length - 1) 0 ≠ 0
  | 0, _, _, _, _, h => ⟨rfl, h⟩
  | d + 1, k, acc, hb, h0, h => by
    unfold genA
    have hl : (mulP acc [pw 2 k, 1]).length = acc.length + 1 := by
      rw [mulP_length_eq hb (two_Bs (pw_lt k)) h0 (by simp) h (by show (1 : Nat) ≠ 0; decide)]; rfl
    have hn : mulP acc [pw 2 k, 1] ≠ [] := fun e => by rw [e] at hl; simp at hl
    have := genA_top d (k + 1) (mulP acc [pw 2 k, 1]) (mulP_bytes _ hb) hn ((tr_last _).resolve_left hn)
    exact ⟨by rw [this.1, hl]; omega, this.2⟩
theorem gen_top (w : Nat) : (gen w).length = 2 * w + 1 ∧ (gen w).getD ((gen w).length - 1) 0 ≠ 0 := by
  have := genA_top (2 * w) 0 [1] (Bs.cons (by decide) Bs.nil) (by simp) (by show (1 : Nat) ≠ 0; decide)
  exact ⟨by rw [gen, this.1]; simp; omega, this.2⟩
/-- What is left of a message's word. -/
def rst (m : List Nat) (w : Nat) : List Nat := tr (rs (gen w) (gi ((gen w).getD ((gen w).length - 1) 0)) ((List.replicate (2 * w) 0 ++ m).length + 1 - (gen w).length) (List.replicate (2 * w) 0 ++ m))
def encL (m : List Nat) (w : Nat) : List Nat := rst m w ++ List.replicate (2 * w - (rst m w).length) 0 ++ m
theorem zm_Bs {m : List Nat} (hm : Bs m) (w : Nat) : Bs (List.replicate (2 * w) 0 ++ m) := AllB.append (AllB.zeros _) hm
theorem rs_Bs {q : List Nat} (inv i : Nat) {rest : List Nat} (h : Bs rest) : Bs (rs q inv i rest) := by
  rw [← dvA_rs q inv i [] rest]
  exact (dvA_bytes inv i Bs.nil h).2
theorem rst_Bs {m : List Nat} (hm : Bs m) (w : Nat) : Bs (rst m w) := tr_bytes (rs_Bs _ _ (zm_Bs hm w))
theorem rst_length {m : List Nat} (hm : Bs m) (w : Nat) : (rst m w).length ≤ 2 * w := by
  obtain ⟨h1, h2⟩ := gen_top w
  have hq0 : gen w ≠ [] := fun e => by rw [e] at h1; simp at h1
  refine tr_length_le fun j hj => ?_
  rw [← dvA_rs _ _ _ []]
  refine dvA_rest (gen_bytes w) hq0 h2 _ (zm_Bs hm w) ?_ (fun j hj => getD_out ?_) j (by omega)
  · rw [h1, List.length_append, List.length_replicate]; omega
  · rw [h1, List.length_append, List.length_replicate] at *; omega
theorem encL_length {m : List Nat} (hm : Bs m) (w : Nat) : (encL m w).length = 2 * w + m.length := by
  have := rst_length hm w
  unfold encL
  rw [List.length_append, List.length_append, List.length_replicate]; omega
theorem encL_Bs {m : List Nat} (hm : Bs m) (w : Nat) : Bs (encL m w) := AllB.append (AllB.append (rst_Bs hm w) (AllB.zeros _)) hm
theorem encL_drop {m : List Nat} (hm : Bs m) (w : Nat) : (encL m w).drop (2 * w) = m := by
  have h := rst_length hm w
  unfold encL
  rw [List.drop_append_of_le_length (by rw [List.length_append, List.length_replicate]; omega), List.drop_of_length_le (by rw [List.length_append, List.length_replicate]; omega), List.nil_append]
theorem padd_getD : ∀ (p q : List Nat) (j : Nat), (padd p q).getD j 0 = p.getD j 0 ^^^ q.getD j 0 := by
  intro p
  induction p with
  | nil => intro q j; simp [padd]
  | cons a p ih =>
    intro q j
    cases q with
    | nil => simp [padd]
    | cons b q =>
      cases j with
      | zero => rfl
      | succ j => exact ih q j
theorem rst_eval {m : List Nat} (hm : Bs m) {w k : Nat} (hk : k < 2 * w) : pe (rst m w) (pw 2 k) = pe (List.replicate (2 * w) 0 ++ m) (pw 2 k) := by
  obtain ⟨h1, h2⟩ := gen_top w
  have hq0 : gen w ≠ [] := fun e => by rw [e] at h1; simp at h1
  unfold rst
  rw [tr_eval (pw_lt k) (rs_Bs _ _ (zm_Bs hm w)), ← dvA_rs _ _ _ (List.replicate ((List.replicate (2 * w) 0 ++ m).length + 1 - (gen w).length) 0)]
  have h := dvA_eval (x := pw 2 k) (pw_lt k) (gen_bytes w) (gi ((gen w).getD ((gen w).length - 1) 0)) ((List.replicate (2 * w) 0 ++ m).length + 1 - (gen w).length) (quo := List.replicate ((List.replicate (2 * w) 0 ++ m).length + 1 - (gen w).length) 0) (AllB.zeros _) (zm_Bs hm w) (by rw [List.length_replicate]; exact Nat.le_refl _) (by rw [h1, List.length_append, List.length_replicate]; omega) hq0 (fun j _ => getD_zeros _ _)
  rw [gen_root hk, gm_zero, gm_zero, Nat.zero_xor, Nat.zero_xor] at h
  exact h
/-- A word's syndromes are 0. -/
theorem encL_eval {m : List Nat} (hm : Bs m) {w k : Nat} (hk : k < 2 * w) : pe (encL m w) (pw 2 k) = 0 := by
  have hl := rst_length hm w
  have e : pe (encL m w) (pw 2 k) = pe (padd (rst m w) (List.replicate (2 * w) 0 ++ m)) (pw 2 k) := by
    refine pe_ext (pw_lt k) (encL_Bs hm w) (padd_bytes (rst_Bs hm w) (zm_Bs hm w)) fun j => ?_
    unfold encL
    rw [padd_getD, List.append_assoc, getD_app, getD_app, getD_app, getD_zeros, getD_zeros, List.length_replicate, List.length_replicate]
    by_cases h1 : j < (rst m w).length
    · rw [if_pos h1, if_pos (by omega), Nat.xor_zero]
    · rw [if_neg h1, getD_out (l := rst m w) (by omega), Nat.zero_xor]
      by_cases h2 : j < 2 * w
      · rw [if_pos h2, if_pos (by omega)]
      · rw [if_neg h2, if_neg (by omega)]; congr 1; omega
  rw [e, padd_eval _ (rst_Bs hm w) (zm_Bs hm w), rst_eval hm hk, Nat.xor_self]

/-- The places where two lists differ. -/
def difs (a b : List Nat) : List Nat := (List.range a.length).filter fun i => a.getD i 0 != b.getD i 0
/-- What was added there, each with its point. -/
def errs (a b : List Nat) : List (Nat × Nat) := (difs a b).map fun i => (pw 2 i, a.getD i 0 ^^^ b.getD i 0)
theorem errs_length (a b : List Nat) : (errs a b).length = (difs a b).length := List.length_map _
theorem mem_difs {a b : List Nat} {i : Nat} : i ∈ difs a b ↔ i < a.length ∧ a.getD i 0 ≠ b.getD i 0 := by
  unfold difs
  rw [List.mem_filter, List.mem_range]
  simp [bne_iff_ne]
theorem errs_PB {a b : List Nat} (ha : Bs a) (hb : Bs b) : PB (errs a b) := fun x hx => by
  obtain ⟨i, _, rfl⟩ := List.mem_map.1 hx
  exact ⟨pw_lt i, xor_byte (getD_lt ha i) (getD_lt hb i)⟩
theorem xor_zero_eq {a b : Nat} (h : a ^^^ b = 0) : a = b := by
  have : a ^^^ b ^^^ b = b := by rw [h, Nat.zero_xor]
  rwa [Nat.xor_assoc, Nat.xor_self, Nat.xor_zero] at this
theorem errs_ne {a b : List Nat} : ∀ x ∈ errs a b, x.2 ≠ 0 := fun x hx => by
  obtain ⟨i, hi, rfl⟩ := List.mem_map.1 hx
  exact fun h => (mem_difs.1 hi).2 (xor_zero_eq h)
theorem errs_pt {a b : List Nat} : ∀ x ∈ errs a b, x.1 ≠ 0 := fun x hx => by
  obtain ⟨i, hi, rfl⟩ := List.mem_map.1 hx
  exact pw_ne (by decide) (by decide) i
theorem difs_nodup (a b : List Nat) : (difs a b).Nodup := List.Pairwise.filter _ List.nodup_range
theorem nodup_pw : ∀ (l : List Nat), l.Nodup → (∀ i ∈ l, i < 255) → (l.map fun i => pw 2 i).Nodup
  | [], _, _ => List.nodup_nil
  | i :: l, h, hb => by
    rw [List.nodup_cons] at h
    rw [List.map_cons, List.nodup_cons]
    refine ⟨fun hm => ?_, nodup_pw l h.2 (fun j hj => hb j (List.mem_cons_of_mem _ hj))⟩
    obtain ⟨j, hj, e⟩ := List.mem_map.1 hm
    rw [pw2_inj (hb j (List.mem_cons_of_mem _ hj)) (hb i List.mem_cons_self) e] at hj
    exact h.1 hj
theorem errs_nodup {a b : List Nat} (hl : a.length ≤ 255) : ((errs a b).map (·.1)).Nodup := by
  unfold errs
  rw [List.map_map]
  exact nodup_pw _ (difs_nodup a b) (fun i hi => by have := (mem_difs.1 hi).1; omega)
theorem xs_pe {a : List Nat} (ha : Bs a) (k : Nat) : xs a.length (fun i => gm (a.getD i 0) (pw (pw 2 i) k)) = pe a (pw 2 k) := by
  rw [pe_sum (pw_lt k) a.length ha (Nat.le_refl _)]
  refine xs_congr fun i _ => ?_
  rw [pw_mul (by decide), pw_mul (by decide), Nat.mul_comm]
/-- The syndromes of what was added. -/
theorem errs_syn {a b : List Nat} (ha : Bs a) (hb : Bs b) (hl : a.length = b.length) (k : Nat) : ls (fun x => gm x.2 (pw x.1 k)) (errs a b) = pe a (pw 2 k) ^^^ pe b (pw 2 k) := by
  unfold errs difs
  rw [ls_map, ls_filter (fun i hi hd => by
    have e : a.getD i 0 = b.getD i 0 := by simpa using hd
    show gm (a.getD i 0 ^^^ b.getD i 0) _ = 0
    rw [e, Nat.xor_self, zero_gm]), ls_range, ← xs_pe ha k, ← xs_pe hb k, ← hl, ← xs_xor]
  exact xs_congr fun i _ => add_gm _ (getD_lt ha i) (getD_lt hb i)
/-- Two words differ in more places than there are syndromes. -/
theorem far {a b : List Nat} {t : Nat} (ha : Bs a) (hb : Bs b) (hl : a.length = b.length) (hl2 : a.length ≤ 255) (h1 : ∀ k, k < t → pe a (pw 2 k) = 0) (h2 : ∀ k, k < t → pe b (pw 2 k) = 0) (hne : ∃ i, i < a.length ∧ a.getD i 0 ≠ b.getD i 0) : t < (difs a b).length := by
  apply Nat.lt_of_not_le
  intro hle
  obtain ⟨i, hi⟩ := hne
  have hv := vander (errs a b) (errs_PB ha hb) (errs_nodup hl2) (fun k hk => by
    rw [errs_length] at hk
    rw [errs_syn ha hb hl k, h1 k (by omega), h2 k (by omega)]; rfl)
  exact errs_ne _ (List.mem_map.2 ⟨i, mem_difs.2 hi, rfl⟩) (hv _ (List.mem_map.2 ⟨i, mem_difs.2 hi, rfl⟩))
/-- The first syndromes of a list. -/
def syl (w : List Nat) (n : Nat) : List Nat := (List.range n).map fun k => pe w (pw 2 k)
theorem syl_length (w : List Nat) (n : Nat) : (syl w n).length = n := by simp [syl]
theorem syl_Bs {w : List Nat} (h : Bs w) (n : Nat) : Bs (syl w n) := fun x hx => by
  obtain ⟨k, _, rfl⟩ := List.mem_map.1 hx
  exact pe_lt _ h
theorem syl_getD (w : List Nat) {n k : Nat} (hk : k < n) : (syl w n).getD k 0 = pe w (pw 2 k) := by
  unfold syl
  rw [List.getD_eq_getElem?_getD, List.getElem?_map, List.getElem?_range hk]; rfl
def zer (l : List Nat) : Bool := l.all (· == 0)
theorem zer_syl {w : List Nat} {n : Nat} : zer (syl w n) = true ↔ ∀ k, k < n → pe w (pw 2 k) = 0 := by
  unfold zer syl
  rw [List.all_eq_true]
  constructor
  · intro h k hk
    simpa using h _ (List.mem_map.2 ⟨k, List.mem_range.2 hk, rfl⟩)
  · intro h x hx
    obtain ⟨k, hk, rfl⟩ := List.mem_map.1 hx
    simpa using h k (List.mem_range.1 hk)
end Go.Proofs.Ytldlldfoaicjcaa.Enc
