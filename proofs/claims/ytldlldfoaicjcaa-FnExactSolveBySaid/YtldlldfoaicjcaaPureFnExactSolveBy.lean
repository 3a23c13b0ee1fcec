/- SolveBy answers as the reference's SolveBy does, turns nothing that it was handed, and answers in memory of its own: the walk of the law. No conditions beyond the row's own. -/
import Derived.Test.YtldlldfoaicjcaaMFnExactSolveByx4
import Derived.Test.YtldlldfoaicjcaaMFnExactSolveByx0
import Derived.Test.YtldlldfoaicjcaaMFnExactSolveByx1
import Derived.Test.YtldlldfoaicjcaaMFnExactSolveByx2
import Derived.Test.YtldlldfoaicjcaaMFnExactSolveByx3
import Derived.Test.YtldlldfoaicjcaaBit
import Derived.Test.YtldlldfoaicjcaaPoly
import Derived.Test.YtldlldfoaicjcaaMat
import Derived.Test.YtldlldfoaicjcaaMx
import Derived.Test.YtldlldfoaicjcaaEnv
import Derived.RegionTactic
import Derived.ChangeAlike
import Derived.BigRegion
import Derived.StillTailTactics
set_option linter.unusedVariables false
set_option linter.unusedSimpArgs false
namespace Go.Proofs.Ytldlldfoaicjcaa.Pure
open Go.RowKit Go.Proofs.Ytldlldfoaicjcaa Go.Proofs.Ytldlldfoaicjcaa.MFnExactSolveBy Go.Proofs.YtldlldfoaicjcaaW.PrintWords Go.Proofs.YtldlldfoaicjcaaW.PrintLast Go.Proofs.Ytldlldfoaicjcaa.Bit

theorem impl_within_eq (a b c : Int) : impl_within.f a b c = some (decide (b ≤ a ∧ a ≤ c)) := by
  unfold impl_within.f
  by_cases h : a ≥ b
  · rw [if_pos h]; congr 1; simp [show b ≤ a from h]
  · rw [if_neg h]; congr 1; simp; omega

/-- Is a number an element? -/
def isB (a : Int) : Bool := decide (0 ≤ a ∧ a ≤ 255)
theorem isB_nat {a : Int} (h : isB a = true) : ∃ n : Nat, a = (n : Int) ∧ n < 256 := by
  simp only [isB, decide_eq_true_eq] at h
  exact ⟨a.toNat, by omega, by omega⟩
theorem isB_cast {n : Nat} (h : n < 256) : isB (n : Int) = true := by simp only [isB, decide_eq_true_eq]; omega

theorem impl_isGf_eq (a : Int) : impl_isGf.f a = some (isB a) := by
  unfold impl_isGf.f; rw [impl_within_eq]; rfl

theorem nat_nn (n : Nat) : ((n : Int) < 0) = False := by simp
theorem one_nat : (1 : Int) = ((1 : Nat) : Int) := rfl
theorem one_nn (n : Nat) : (((n : Nat) : Int) = ((n : Nat) : Int)) = True := by simp

theorem laws_szIntS_eq (l : List Int) (a : Int) (h0 : 0 ≤ a) (h1 : a ≤ 1048576) (hl : l.length ≤ 9223372036854775807) : laws_szIntS.f l a = some (if a - l.length < 0 then -1 else a - l.length) := by
  unfold laws_szIntS.f
  rw [wrap_id (by omega) (by omega)]
  split <;> rfl

theorem rd_nat (l : List Int) (i : Nat) (h : i < l.length) : rd l (i : Int) = l[i] := by
  unfold rd
  simp [List.getD_eq_getElem?_getD, List.getElem?_eq_getElem h]
theorem wrap_succ (i : Nat) (h : i < 9223372036854775807) : wrap64 ((i : Int) + 1) = ((i + 1 : Nat) : Int) := by rw [wrap_id (by omega) (by omega)]; omega

/-- The numbers m, m + 1, .., n of them. -/
def marks (m n : Nat) : List Int := (List.range n).map fun j => ((m + j : Nat) : Int)
theorem marks_length (m n : Nat) : (marks m n).length = n := by simp [marks]
theorem marks_succ (m n : Nat) : marks m (n + 1) = marks m n ++ [((m + n : Nat) : Int)] := by simp [marks, List.range_succ]
theorem marks_get (m n i : Nat) (h : i < (marks m n).length) : (marks m n)[i] = ((m + i : Nat) : Int) := by simp [marks]

/-- All places numbered from a on. -/
def marksS : Nat → List (List Int) → List (List Int)
  | _, [] => []
  | a, r :: m => marks a r.length :: marksS (a + r.length) m
def tot : List (List Int) → Nat
  | [] => 0
  | r :: m => r.length + tot m
theorem marksS_length : ∀ (a : Nat) (m : List (List Int)), (marksS a m).length = m.length
  | _, [] => rfl
  | a, r :: m => by simp only [marksS, List.length_cons, marksS_length]
theorem tot_append : ∀ (l m : List (List Int)), tot (l ++ m) = tot l + tot m
  | [], m => by simp [tot]
  | r :: l, m => by simp only [List.cons_append, tot, tot_append l m]; omega
theorem tot_take (m : List (List Int)) (i : Nat) : tot (m.take i) ≤ tot m := by
  have := tot_append (m.take i) (m.drop i)
  rw [List.take_append_drop] at this; omega
theorem tot_succ (m : List (List Int)) (i : Nat) (h : i < m.length) : tot (m.take (i + 1)) = tot (m.take i) + m[i].length := by
  rw [List.take_succ_eq_append_getElem h, tot_append]
  simp [tot]
theorem marksS_append : ∀ (a : Nat) (l m : List (List Int)), marksS a (l ++ m) = marksS a l ++ marksS (a + tot l) m
  | a, [], m => by simp [marksS, tot]
  | a, r :: l, m => by simp only [List.cons_append, marksS, tot, marksS_append (a + r.length) l m, Nat.add_assoc]
theorem tot_marksS : ∀ (a : Nat) (m : List (List Int)), tot (marksS a m) = tot m
  | _, [] => rfl
  | a, r :: m => by simp only [marksS, tot, marks_length, tot_marksS]
theorem tot_le : ∀ {m : List (List Int)} {b : Nat}, (∀ r ∈ m, r.length ≤ b) → tot m ≤ m.length * b
  | [], _, _ => by simp [tot]
  | r :: m, b, h => by
    have h1 := h r List.mem_cons_self
    have h2 := tot_le (m := m) (fun x hx => h x (List.mem_cons_of_mem _ hx))
    simp only [tot, List.length_cons, Nat.succ_mul]; omega
theorem marksS_get : ∀ (a : Nat) (m : List (List Int)) (i : Nat) (h : i < m.length) (h' : i < (marksS a m).length), (marksS a m)[i] = marks (a + tot (m.take i)) m[i].length
  | a, r :: m, 0, _, _ => by simp [marksS, tot]
  | a, r :: m, i + 1, h, h' => by
    simp only [marksS, List.getElem_cons_succ, List.take_succ_cons, tot]
    rw [marksS_get (a + r.length) m i (by simpa using h)]
    rw [Nat.add_assoc]

theorem rdL_nat (l : List (List Int)) (i : Nat) (h : i < l.length) : rd_L1 l (i : Int) = l[i] := by
  unfold rd_L1
  simp [List.getD_eq_getElem?_getD, List.getElem?_eq_getElem h]

/-- What is left of a measure. -/
def szV (m : List (List Int)) (a : Int) : Int := if a - (m.length + tot m : Nat) < 0 then -1 else a - (m.length + tot m : Nat)
theorem laws_szIntSS_l0 (m : List (List Int)) (hm : m.length ≤ 9223372036854775807) (hr : ∀ r ∈ m, r.length ≤ 9223372036854775807) : ∀ (d i : Nat) (a : Int), i + d = m.length → 0 ≤ a → a ≤ 1048576 →
    Ev (fun k => laws_szIntSS.l0 k m a (i : Int)) (if a - (tot (m.drop i) : Nat) < 0 then -1 else a - (tot (m.drop i) : Nat)) := by
  intro d
  induction d with
  | zero =>
    intro i a hi h0 h1
    obtain rfl : i = m.length := by omega
    rw [List.drop_length, show tot [] = 0 from rfl, if_neg (by omega), show a - ((0 : Nat) : Int) = a by omega]
    exact Ev.step (f := fun _ => some a) (fun k => by rw [laws_szIntSS.l0.eq_2, if_neg (by omega)]) (Ev.now _)
  | succ d ih =>
    intro i a hi h0 h1
    have hlt : i < m.length := by omega
    have hx := hr _ (List.getElem_mem hlt)
    have et : tot (m.drop i) = m[i].length + tot (m.drop (i + 1)) := by rw [List.drop_eq_getElem_cons hlt]; rfl
    rw [et]
    by_cases hn : a - (m[i].length : Int) < 0
    · rw [if_pos (by omega)]
      refine Ev.step (f := fun _ => some (-1)) (fun k => ?_) (Ev.now _)
      rw [laws_szIntSS.l0.eq_2, if_pos (by omega), if_pos (by omega), rdL_nat m i hlt, laws_szIntS_eq _ a h0 h1 hx, if_pos hn, Option.bind_some, if_pos (by omega)]
    · have e := ih (i + 1) (a - (m[i].length : Int)) (by omega) (by omega) (by omega)
      rw [show a - (m[i].length : Int) - ((tot (m.drop (i + 1)) : Nat) : Int) = a - ((m[i].length + tot (m.drop (i + 1)) : Nat) : Int) by omega] at e
      refine Ev.step (f := fun k => laws_szIntSS.l0 k m (a - (m[i].length : Int)) ((i + 1 : Nat) : Int)) (fun k => ?_) e
      rw [laws_szIntSS.l0.eq_2, if_pos (by omega), if_pos (by omega), rdL_nat m i hlt, laws_szIntS_eq _ a h0 h1 hx, if_neg hn, Option.bind_some, if_neg hn, wrap_succ i (by omega)]
theorem laws_szIntSS_ev (m : List (List Int)) (hm : m.length ≤ 9223372036854775807) (hr : ∀ r ∈ m, r.length ≤ 9223372036854775807) (a : Int) (h0 : 0 ≤ a) (h1 : a ≤ 1048576) : Ev (fun k => laws_szIntSS.f k m a) (szV m a) := by
  unfold laws_szIntSS.f szV
  rw [wrap_id (by omega) (by omega)]
  by_cases hn : a - (m.length : Int) < 0
  · simp only [if_pos hn, if_pos (show a - ((m.length + tot m : Nat) : Int) < 0 by omega)]
    exact Ev.now _
  · simp only [if_neg hn]
    have := laws_szIntSS_l0 m hm hr m.length 0 (a - m.length) (by omega) (by omega) (by omega)
    rw [List.drop_zero, show a - (m.length : Int) - ((tot m : Nat) : Int) = a - ((m.length + tot m : Nat) : Int) by omega] at this
    exact this

theorem spec_l1In_eq (a b c : Int) : spec_l1In.f a b c = some (decide (b ≤ a ∧ a ≤ c)) := by
  unfold spec_l1In.f
  by_cases h : a ≥ b
  · rw [if_pos h]; congr 1; simp [show b ≤ a from h]
  · rw [if_neg h]; congr 1; simp; omega

theorem spec_l1Gf_eq (a : Int) : spec_l1Gf.f a = some (isB a) := by
  unfold spec_l1Gf.f; rw [spec_l1In_eq]; rfl

theorem rd_get (l : List Int) (i : Nat) (h : i < l.length) : rd l (i : Int) = l[i] := by
  unfold rd
  simp [List.getD_eq_getElem?_getD, List.getElem?_eq_getElem h]
theorem wrap_up (i : Nat) (h : i < 9223372036854775807) : wrap64 ((i : Int) + 1) = ((i + 1 : Nat) : Int) := by rw [wrap_id (by omega) (by omega)]; omega
theorem wrap_down (a : Nat) (h : a ≤ 9223372036854775807) : wrap64 ((a : Int) - 1) = (a : Int) - 1 := wrap_id (by omega) (by omega)
theorem allB_up {l : List Int} (h : l.all isB = true) : ∃ m : List Nat, l = Poly.up m ∧ Poly.AllB m := by
  refine Poly.up_of fun x hx => ?_
  have := List.all_eq_true.1 h x hx
  simpa [isB] using this
theorem up_allB {m : List Nat} (h : Poly.AllB m) : (Poly.up m).all isB = true := by
  rw [List.all_eq_true]
  intro x hx
  have := Poly.up_bytes h x hx
  simp only [isB, decide_eq_true_eq]; omega

theorem spec_l1All_l0 (l : List Int) (hl : l.length ≤ 140737488351232) : ∀ d i : Nat, i + d = l.length → Ev (fun k => spec_l1All.l0 k l (l.length : Int) (i : Int)) ((l.drop i).all isB) := by
  intro d
  induction d with
  | zero =>
    intro i hi
    obtain rfl : i = l.length := by omega
    rw [List.drop_length]
    exact Ev.step (f := fun _ => some true) (fun k => by simp only [spec_l1All.l0]; rw [if_neg (by omega)]) (Ev.now _)
  | succ d ih =>
    intro i hi
    have hlt : i < l.length := by omega
    rw [List.drop_eq_getElem_cons hlt, List.all_cons]
    cases hb : isB l[i] with
    | true =>
      refine Ev.step (f := fun k => spec_l1All.l0 k l (l.length : Int) ((i + 1 : Nat) : Int)) (fun k => ?_) (ih (i + 1) (by omega))
      simp only [spec_l1All.l0, rd_get l i hlt, wrap_up i (by omega), spec_l1Gf_eq, hb, Option.bind_some, if_true]
      rw [if_pos (by omega), if_pos (by omega), if_pos (by omega)]
    | false =>
      refine Ev.step (f := fun _ => some false) (fun k => ?_) (Ev.now _)
      simp only [spec_l1All.l0, rd_get l i hlt, wrap_up i (by omega), spec_l1Gf_eq, hb, Option.bind_some]
      rw [if_pos (by omega), if_pos (by omega), if_pos (by omega)]; rfl
theorem spec_l1All_ev (l : List Int) (hl : l.length ≤ 140737488351232) : Ev (fun k => spec_l1All.f k l) (l.all isB) := spec_l1All_l0 l hl l.length 0 (by omega)

theorem xor_up {a b : Nat} (ha : a < 256) (hb : b < 256) : Go.bits .xor .i64 (a : Int) (b : Int) = ((a ^^^ b : Nat) : Int) := xor_nat (by omega) (by omega)
theorem wrap_nat (n : Nat) (h : n ≤ 9223372036854775807) : wrap64 (n : Int) = (n : Int) := wrap_id (by omega) (by omega)
theorem wrap_add (a b : Nat) (h : a + b ≤ 9223372036854775807) : wrap64 ((a : Int) + (b : Int)) = ((a + b : Nat) : Int) := by rw [wrap_id (by omega) (by omega)]; omega
theorem wrap_pred (a : Nat) (h : a ≤ 9223372036854775807) (h0 : 0 < a) : wrap64 ((a : Int) - 1) = ((a - 1 : Nat) : Int) := by rw [wrap_id (by omega) (by omega)]; omega

/-- Lists of rows of natural numbers as Go's. -/
def upM (m : List (List Nat)) : List (List Int) := m.map Poly.up
def dnM (m : List (List Int)) : List (List Nat) := m.map fun r => r.map Int.toNat
theorem upM_length (m : List (List Nat)) : (upM m).length = m.length := by simp [upM]
theorem upM_snoc (m : List (List Nat)) (r : List Nat) : upM m ++ [Poly.up r] = upM (m ++ [r]) := by simp [upM]
theorem upM_append (l m : List (List Nat)) : upM l ++ upM m = upM (l ++ m) := by simp [upM]
theorem upM_set (m : List (List Nat)) (i : Nat) (r : List Nat) : (upM m).set i (Poly.up r) = upM (m.set i r) := by simp [upM, List.map_set]
theorem upM_nil : ([] : List (List Int)) = upM [] := rfl
theorem upM_getD (m : List (List Nat)) (i : Nat) : (upM m).getD i [] = Poly.up (m.getD i []) := by
  unfold upM
  rw [List.getD_eq_getElem?_getD, List.getElem?_map, List.getD_eq_getElem?_getD]
  cases m[i]? <;> rfl
theorem rdL_up (m : List (List Nat)) (i : Nat) : rd_L1 (upM m) (i : Int) = Poly.up (m.getD i []) := by
  unfold rd_L1
  rw [Int.toNat_natCast]
  exact upM_getD m i
theorem rdL_up0 (m : List (List Nat)) : rd_L1 (upM m) 0 = Poly.up (m.getD 0 []) := rdL_up m 0
theorem dn_up (l : List Nat) : (Poly.up l).map Int.toNat = l := by
  unfold Poly.up
  rw [List.map_map]
  exact (List.map_congr_left (fun x _ => Int.toNat_natCast x)).trans (List.map_id' l)
theorem dnM_upM (m : List (List Nat)) : dnM (upM m) = m := by
  unfold dnM upM
  rw [List.map_map]
  exact (List.map_congr_left (fun x _ => dn_up x)).trans (List.map_id' m)
theorem upM_inj {l m : List (List Nat)} (h : upM l = upM m) : l = m := by rw [← dnM_upM l, h, dnM_upM]
/-- Rows of c elements. -/
def areR (c : Nat) (m : List (List Int)) : Bool := m.all fun r => decide (r.length = c) && r.all isB
theorem areR_up {c : Nat} : ∀ {m : List (List Int)}, areR c m = true → ∃ n, m = upM n ∧ Mat.MB' c n
  | [], _ => ⟨[], rfl, fun r hr => by cases hr⟩
  | r :: m, h => by
    simp only [areR, List.all_cons, Bool.and_eq_true, decide_eq_true_eq] at h
    obtain ⟨n, rfl, hn⟩ := areR_up (m := m) (by simpa [areR] using h.2)
    obtain ⟨q, rfl, hq⟩ := allB_up h.1.2
    refine ⟨q :: n, rfl, fun x hx => ?_⟩
    rcases List.mem_cons.1 hx with rfl | hx
    · exact ⟨by simpa [Poly.up_length] using h.1.1, hq⟩
    · exact hn x hx
theorem up_areR {c : Nat} {n : List (List Nat)} (h : Mat.MB' c n) : areR c (upM n) = true := by
  unfold areR upM
  rw [List.all_eq_true]
  intro x hx
  obtain ⟨r, hr, rfl⟩ := List.mem_map.1 hx
  rw [Bool.and_eq_true, decide_eq_true_eq, Poly.up_length]
  exact ⟨(h r hr).1, up_allB (h r hr).2⟩
def goodM (m : List (List Int)) : Bool := decide (1 ≤ m.length ∧ m.length ≤ 8) && (decide (1 ≤ (m.getD 0 []).length ∧ (m.getD 0 []).length ≤ 8) && areR (m.getD 0 []).length m)
theorem goodM_up {m : List (List Int)} (h : goodM m = true) : ∃ c n, m = upM n ∧ Mat.MB' c n ∧ (m.getD 0 []).length = c ∧ m.length = n.length ∧ 1 ≤ n.length ∧ n.length ≤ 8 ∧ 1 ≤ c ∧ c ≤ 8 := by
  simp only [goodM, Bool.and_eq_true, decide_eq_true_eq] at h
  obtain ⟨n, hn, hB⟩ := areR_up h.2.2
  exact ⟨_, n, hn, hB, rfl, by rw [hn, upM_length], by rw [← upM_length, ← hn]; exact h.1.1, by rw [← upM_length, ← hn]; exact h.1.2, h.2.1.1, h.2.1.2⟩
theorem up_goodM {c : Nat} {n : List (List Nat)} (h : Mat.MB' c n) (h1 : 1 ≤ n.length) (h2 : n.length ≤ 8) (h3 : 1 ≤ c) (h4 : c ≤ 8) : goodM (upM n) = true := by
  have e : ((upM n).getD 0 []).length = c := by rw [upM_getD, Poly.up_length]; exact (h.get (by omega)).1
  unfold goodM
  rw [e, up_areR h, upM_length, decide_eq_true (by omega), decide_eq_true (by omega)]; rfl
theorem goodM_rows {m : List (List Int)} (h : goodM m = true) : m.length ≤ 8 ∧ ∀ r ∈ m, r.length ≤ 8 := by
  obtain ⟨c, n, rfl, hB, _, _, _, h2, _, h4⟩ := goodM_up h
  refine ⟨by rw [upM_length]; exact h2, fun r hr => ?_⟩
  obtain ⟨q, hq, rfl⟩ := List.mem_map.1 hr
  rw [Poly.up_length, (hB q hq).1]; exact h4
theorem upM_small {c k : Nat} {n : List (List Nat)} (h : Mat.MB' c n) (hl : n.length ≤ k) (hc : c ≤ k) : (upM n).length ≤ k ∧ ∀ r ∈ upM n, r.length ≤ k := by
  refine ⟨by rw [upM_length]; exact hl, fun r hr => ?_⟩
  obtain ⟨q, hq, rfl⟩ := List.mem_map.1 hr
  rw [Poly.up_length, (h q hq).1]; exact hc

theorem spec_GoodMatrix_l0 (m : List (List Int)) (hl : m.length ≤ 140737488351232) (hr : ∀ r ∈ m, r.length ≤ 140737488351232) : ∀ d i : Nat, i + d = m.length →
    Ev (fun k => spec_GoodMatrix.l0 k m m (m.length : Int) (i : Int)) (decide (1 ≤ m.length ∧ m.length ≤ 8) && (decide (1 ≤ (m.getD 0 []).length ∧ (m.getD 0 []).length ≤ 8) && areR (m.getD 0 []).length (m.drop i))) := by
  intro d
  induction d with
  | zero =>
    intro i hi
    obtain rfl : i = m.length := by omega
    have e0 : areR (m.getD 0 []).length (m.drop m.length) = true := by rw [List.drop_length]; rfl
    rw [e0, Bool.and_true]
    have hz : rd_L1 m 0 = m.getD 0 [] := rfl
    by_cases h1 : 1 ≤ m.length ∧ m.length ≤ 8
    · refine Ev.step (f := fun _ => some (decide (1 ≤ m.length ∧ m.length ≤ 8) && decide (1 ≤ (m.getD 0 []).length ∧ (m.getD 0 []).length ≤ 8))) (fun k => ?_) (Ev.now _)
      rw [spec_GoodMatrix.l0.eq_2, if_neg (by omega), spec_l1In_eq, Option.bind_some, decide_eq_true (by omega), if_pos rfl, if_pos (by omega), spec_l1In_eq, hz, decide_eq_true h1, Bool.true_and]
      exact congrArg some (decide_eq_decide.2 (by omega))
    · refine Ev.step (f := fun _ => some (decide (1 ≤ m.length ∧ m.length ≤ 8) && decide (1 ≤ (m.getD 0 []).length ∧ (m.getD 0 []).length ≤ 8))) (fun k => ?_) (Ev.now _)
      rw [spec_GoodMatrix.l0.eq_2, if_neg (by omega), spec_l1In_eq, Option.bind_some, decide_eq_false (by omega), if_neg (by decide), decide_eq_false h1, Bool.false_and]
  | succ d ih =>
    intro i hi
    have hlt : i < m.length := by omega
    have hz : rd_L1 m 0 = m.getD 0 [] := rfl
    have eR : areR (m.getD 0 []).length (m.drop i) = (decide (m[i].length = (m.getD 0 []).length) && m[i].all isB && areR (m.getD 0 []).length (m.drop (i + 1))) := by
      rw [List.drop_eq_getElem_cons hlt]; rfl
    rw [eR]
    have E := spec_l1All_ev m[i] (hr _ (List.getElem_mem hlt))
    by_cases h1 : m[i].length = (m.getD 0 []).length
    · refine Ev.step (f := fun k => (spec_l1All.f k m[i]).bind fun t => if t = true then spec_GoodMatrix.l0 k m m (m.length : Int) ((i + 1 : Nat) : Int) else some false) (fun k => ?_) (Ev.bind (f := fun k t => if t = true then spec_GoodMatrix.l0 k m m (m.length : Int) ((i + 1 : Nat) : Int) else some false) E ?_)
      · rw [spec_GoodMatrix.l0.eq_2, if_pos (by omega), if_pos (by omega), if_pos (by omega), if_pos (by omega), rdL_nat m i hlt, hz, if_pos (by omega), wrap_succ i (by omega)]
      · rw [decide_eq_true h1, Bool.true_and]
        cases m[i].all isB
        · rw [Bool.false_and, Bool.and_false, Bool.and_false]
          exact Ev.now _
        · rw [Bool.true_and]
          simp only [if_true]
          exact ih (i + 1) (by omega)
    · rw [decide_eq_false h1, Bool.false_and, Bool.false_and, Bool.and_false, Bool.and_false]
      refine Ev.step (f := fun _ => some false) (fun k => ?_) (Ev.now _)
      rw [spec_GoodMatrix.l0.eq_2, if_pos (by omega), if_pos (by omega), if_pos (by omega), if_pos (by omega), rdL_nat m i hlt, hz, if_neg (by omega)]
theorem spec_GoodMatrix_ev (m : List (List Int)) (hl : m.length ≤ 140737488351232) (hr : ∀ r ∈ m, r.length ≤ 140737488351232) : Ev (fun k => spec_GoodMatrix.f k m) (goodM m) := spec_GoodMatrix_l0 m hl hr m.length 0 (by omega)

theorem spec_l2Own_l0 (m : List (List Int)) (hm : m.length ≤ 1048576) (hr : ∀ r ∈ m, r.length ≤ 1048576) : ∀ (d i : Nat), i + d = m.length → Ev (fun k => spec_l2Own.l0 k (m.take i) m (m.length : Int) (i : Int)) m := by
  intro d
  induction d with
  | zero =>
    intro i hi
    obtain rfl : i = m.length := by omega
    rw [List.take_length]
    exact Ev.step (f := fun _ => some m) (fun k => by rw [spec_l2Own.l0.eq_2, if_neg (by omega)]) (Ev.now _)
  | succ d ih =>
    intro i hi
    have hlt : i < m.length := by omega
    have h1 := hr _ (List.getElem_mem hlt)
    have e : m.take i ++ [m[i]] = m.take (i + 1) := by rw [List.take_succ_eq_append_getElem hlt]
    refine Ev.step (f := fun k => spec_l2Own.l0 k (m.take (i + 1)) m (m.length : Int) ((i + 1 : Nat) : Int)) (fun k => ?_) (ih (i + 1) (by omega))
    rw [spec_l2Own.l0.eq_2, if_pos (by omega), if_pos (by omega), if_pos (by omega), Option.bind_some, rdL_nat m i hlt, List.nil_append, if_pos (by simp only [List.length_nil]; omega), if_pos (by rw [List.length_take]; omega), e, wrap_succ i (by omega)]
theorem spec_l2Own_ev (m : List (List Int)) (hm : m.length ≤ 1048576) (hr : ∀ r ∈ m, r.length ≤ 1048576) : Ev (fun k => spec_l2Own.f k m) m := spec_l2Own_l0 m hm hr m.length 0 (by omega)

theorem spec_l1Mul_l0 : ∀ (n a b o : Nat), a < 256 → o < 256 → b < 2 ^ n → b < 2 ^ 63 → Ev (fun k => spec_l1Mul.l0 k (a : Int) (b : Int) (o : Int)) ((Gf.gmA n a b o : Nat) : Int) := by
  have stop : ∀ a o : Nat, Ev (fun k => spec_l1Mul.l0 k (a : Int) ((0 : Nat) : Int) (o : Int)) ((o : Nat) : Int) := fun a o =>
    Ev.step (f := fun _ => some ((o : Nat) : Int)) (fun k => by simp only [spec_l1Mul.l0]; rw [if_neg (by omega)]) (Ev.now _)
  intro n
  induction n with
  | zero =>
    intro a b o ha ho hb _
    obtain rfl : b = 0 := by simpa using hb
    exact stop a o
  | succ n ih =>
    intro a b o ha ho hb hb63
    by_cases h0 : b = 0
    · subst h0
      rw [Gf.gmA_zero]
      exact stop a o
    · have e1 : wrap64 ((a : Int) * 2) = ((a * 2 : Nat) : Int) := by rw [wrap_id (by omega) (by omega)]; omega
      have e2 : Go.bits .xor .i64 ((a * 2 : Nat) : Int) 285 = (((a * 2) ^^^ 285 : Nat) : Int) := xor_nat (a := a * 2) (b := 285) (by omega) (by decide)
      have e3 : Go.bits .xor .i64 (o : Int) (a : Int) = ((o ^^^ a : Nat) : Int) := xor_nat (by omega) (by omega)
      have e4 := and_one (a := b) hb63
      refine Ev.step (f := fun k => spec_l1Mul.l0 k ((Gf.xt a : Nat) : Int) ((b / 2 : Nat) : Int) (((if b % 2 = 1 then o ^^^ a else o) : Nat) : Int)) (fun k => ?_) (ih _ _ _ (Gf.xt_lt a ha) ?_ (by rw [Nat.pow_succ] at hb; omega) (by omega))
      · simp only [spec_l1Mul.l0, e1, e2, e3, e4, half_nat, Gf.xt]
        rw [if_pos (show (b : Int) > 0 by omega)]
        by_cases h1 : b % 2 = 1 <;> by_cases h2 : 255 < a * 2
        · rw [if_pos (show ((b % 2 : Nat) : Int) = 1 by omega), if_pos h1, if_pos (by omega), if_pos h2]
        · rw [if_pos (show ((b % 2 : Nat) : Int) = 1 by omega), if_pos h1, if_neg (by omega), if_neg h2]
        · rw [if_neg (show ¬ ((b % 2 : Nat) : Int) = 1 by omega), if_neg h1, if_pos (by omega), if_pos h2]
        · rw [if_neg (show ¬ ((b % 2 : Nat) : Int) = 1 by omega), if_neg h1, if_neg (by omega), if_neg h2]
      · split
        · exact Gf.xor_byte ho ha
        · exact ho
theorem spec_l1Mul_ev (a b : Nat) (ha : a < 256) (hb : b < 256) : Ev (fun k => spec_l1Mul.f k (a : Int) (b : Int)) ((Gf.gm a b : Nat) : Int) :=
  spec_l1Mul_l0 8 a b 0 ha (by decide) hb (by omega)

theorem spec_l2Add_l0 (r q : List Nat) (f : Nat) (hf : f < 256) (hr : Poly.AllB r) (hq : Poly.AllB q) (hl : r.length = q.length) (hb : r.length ≤ 1000) : ∀ (d i : Nat), i + d = q.length →
    Ev (fun k => spec_l2Add.l0 k (Poly.up (Mat.raddTo f r q i)) (f : Int) (Poly.up q) (q.length : Int) (i : Int)) (Poly.up (Mat.radd f r q)) := by
  intro d
  induction d with
  | zero =>
    intro i hi
    obtain rfl : i = q.length := by omega
    rw [← hl, Mat.raddTo_all hl]
    exact Ev.step (f := fun _ => some (Poly.up (Mat.radd f r q))) (fun k => by rw [spec_l2Add.l0.eq_2, if_neg (by omega)]) (Ev.now _)
  | succ d ih =>
    intro i hi
    have hir : i < r.length := by omega
    have hqi : q.getD i 0 < 256 := Poly.AllB.get hq i
    have hx := xor_up (Poly.AllB.get hr i) (Gf.gm_lt (q.getD i 0) hf)
    have hc : Gf.gm (q.getD i 0) f = Gf.gm f (q.getD i 0) := Gf.gm_comm hqi hf
    refine Ev.step (f := fun k => (spec_l1Mul.f k ((q.getD i 0 : Nat) : Int) (f : Int)).bind fun t => spec_l2Add.l0 k ((Poly.up (Mat.raddTo f r q i)).set i (Go.bits .xor .i64 ((r.getD i 0 : Nat) : Int) t)) (f : Int) (Poly.up q) (q.length : Int) ((i + 1 : Nat) : Int)) (fun k => ?_) ?_
    · rw [spec_l2Add.l0.eq_2, if_pos (by omega), if_pos (by omega), if_pos (by rw [Poly.up_length]; omega), if_pos (by rw [Poly.up_length, Mat.raddTo_length hl]; omega), Poly.rd_up, Poly.rd_up, Mat.raddTo_at hl hir, wrap_succ i (by omega), Int.toNat_natCast]
    · refine Ev.bind (f := fun k t => spec_l2Add.l0 k ((Poly.up (Mat.raddTo f r q i)).set i (Go.bits .xor .i64 ((r.getD i 0 : Nat) : Int) t)) (f : Int) (Poly.up q) (q.length : Int) ((i + 1 : Nat) : Int)) (spec_l1Mul_ev _ _ hqi hf) ?_
      simp only [hc, hx, Poly.up_set, Mat.raddTo_succ hl hir]
      exact ih (i + 1) (by omega)
theorem spec_l2Add_ev (r q : List Nat) (f : Nat) (hf : f < 256) (hr : Poly.AllB r) (hq : Poly.AllB q) (hl : r.length = q.length) (hb : r.length ≤ 1000) : Ev (fun k => spec_l2Add.f k (Poly.up r) (Poly.up q) (f : Int)) (Poly.up (Mat.radd f r q)) := by
  unfold spec_l2Add.f
  have := spec_l2Add_l0 r q f hf hr hq hl hb q.length 0 (by omega)
  rw [Mat.raddTo_zero] at this
  rw [Poly.up_length]
  exact this

theorem spec_l1Pow_l0 : ∀ (f a n o : Nat), a < 256 → o < 256 → n < 2 ^ f → n < 2 ^ 63 → Ev (fun k => spec_l1Pow.l0 k (a : Int) (n : Int) (o : Int)) ((Gf.pwA f a n o : Nat) : Int) := by
  have stop : ∀ a o : Nat, Ev (fun k => spec_l1Pow.l0 k (a : Int) ((0 : Nat) : Int) (o : Int)) ((o : Nat) : Int) := fun a o =>
    Ev.step (f := fun _ => some ((o : Nat) : Int)) (fun k => by simp only [spec_l1Pow.l0]; rw [if_neg (by omega)]) (Ev.now _)
  have z : ∀ f a o, Gf.pwA f a 0 o = o := by
    intro f
    induction f with
    | zero => intro a o; rfl
    | succ f ih => intro a o; exact ih _ _
  intro f
  induction f with
  | zero =>
    intro a n o ha ho hn _
    obtain rfl : n = 0 := by simpa using hn
    exact stop a o
  | succ f ih =>
    intro a n o ha ho hn hn63
    by_cases h0 : n = 0
    · subst h0
      rw [z]
      exact stop a o
    · have e4 := and_one (a := n) hn63
      have hsq := Gf.gm_lt a ha
      by_cases h1 : n % 2 = 1
      · refine Ev.step (f := fun k => (spec_l1Mul.f k (o : Int) (a : Int)).bind fun t => (spec_l1Mul.f k (a : Int) (a : Int)).bind fun u => spec_l1Pow.l0 k u ((n / 2 : Nat) : Int) t) (fun k => ?_) ?_
        · simp only [spec_l1Pow.l0, e4, half_nat]
          rw [if_pos (show (n : Int) > 0 by omega), if_pos (show ((n % 2 : Nat) : Int) = 1 by omega)]
        · have := ih (Gf.gm a a) (n / 2) (Gf.gm o a) hsq (Gf.gm_lt a ho) (by rw [Nat.pow_succ] at hn; omega) (by omega)
          show Ev _ ((Gf.pwA f (Gf.gm a a) (n / 2) (if n % 2 = 1 then Gf.gm o a else o) : Nat) : Int)
          rw [if_pos h1]
          exact Ev.bind (f := fun k t => (spec_l1Mul.f k (a : Int) (a : Int)).bind fun u => spec_l1Pow.l0 k u ((n / 2 : Nat) : Int) t) (spec_l1Mul_ev o a ho ha) (Ev.bind (f := fun k u => spec_l1Pow.l0 k u ((n / 2 : Nat) : Int) ((Gf.gm o a : Nat) : Int)) (spec_l1Mul_ev a a ha ha) this)
      · refine Ev.step (f := fun k => (spec_l1Mul.f k (a : Int) (a : Int)).bind fun u => spec_l1Pow.l0 k u ((n / 2 : Nat) : Int) (o : Int)) (fun k => ?_) ?_
        · simp only [spec_l1Pow.l0, e4, half_nat]
          rw [if_pos (show (n : Int) > 0 by omega), if_neg (show ¬ ((n % 2 : Nat) : Int) = 1 by omega)]
        · have := ih (Gf.gm a a) (n / 2) o hsq ho (by rw [Nat.pow_succ] at hn; omega) (by omega)
          show Ev _ ((Gf.pwA f (Gf.gm a a) (n / 2) (if n % 2 = 1 then Gf.gm o a else o) : Nat) : Int)
          rw [if_neg h1]
          exact Ev.bind (f := fun k u => spec_l1Pow.l0 k u ((n / 2 : Nat) : Int) (o : Int)) (spec_l1Mul_ev a a ha ha) this
theorem spec_l1Pow_ev (a n : Nat) (ha : a < 256) (hn : n < 2 ^ 62) : Ev (fun k => spec_l1Pow.f k (a : Int) (n : Int)) ((Gf.pw a n : Nat) : Int) := by
  have := spec_l1Pow_l0 62 a n 1 ha (by decide) hn (by omega)
  rw [Gf.pwA_eq 62 a n 1 ha (by decide) hn, Gf.one_gm _ (Gf.pw_lt n)] at this
  exact this

theorem spec_l1Div_ev (a b : Nat) (ha : a < 256) (hb : b < 256) : Ev (fun k => spec_l1Div.f k (a : Int) (b : Int)) ((Gf.gm a (Gf.gi b) : Nat) : Int) := by
  unfold spec_l1Div.f
  refine Ev.bind (f := fun k t => (spec_l1Mul.f k (a : Int) t).bind fun u => some u) (spec_l1Pow_ev b 254 hb (by decide)) ?_
  exact Ev.bind (f := fun _ u => some u) (spec_l1Mul_ev a (Gf.gi b) ha (Gf.gi_lt b)) (Ev.now _)

/-- The first i rows of the unit matrix of n columns. -/
def idR (n i : Nat) : List Int := (List.replicate n (0 : Int)).set i 1
def idL (n i : Nat) : List (List Int) := (List.range i).map (idR n)
theorem idL_length (n i : Nat) : (idL n i).length = i := by simp [idL]
theorem idL_succ (n i : Nat) : idL n (i + 1) = idL n i ++ [idR n i] := by simp [idL, List.range_succ]
theorem idR_length (n i : Nat) : (idR n i).length = n := by simp [idR]
theorem idL_rows {n i : Nat} : ∀ r ∈ idL n i, r.length = n := fun r h => by
  obtain ⟨j, _, rfl⟩ := List.mem_map.1 h
  exact idR_length n j
def identV (a : Int) : List (List Int) × Bool := if 1 ≤ a ∧ a ≤ 8 then (idL a.toNat a.toNat, true) else ([], false)

theorem spec_l2Identity_l0 (n : Nat) (hn : n ≤ 1000) : ∀ d i : Nat, i + d = n → Ev (fun k => spec_l2Identity.l0 k (n : Int) (idL n i) (i : Int)) (idL n n) := by
  intro d
  induction d with
  | zero =>
    intro i hi
    obtain rfl : i = n := by omega
    exact Ev.step (f := fun _ => some (idL i i)) (fun k => by rw [spec_l2Identity.l0.eq_2, if_neg (by omega)]) (Ev.now _)
  | succ d ih =>
    intro i hi
    refine Ev.step (f := fun k => spec_l2Identity.l0 k (n : Int) (idL n (i + 1)) ((i + 1 : Nat) : Int)) (fun k => ?_) (ih (i + 1) (by omega))
    rw [spec_l2Identity.l0.eq_2, if_pos (by omega), if_pos (by omega), if_pos (by omega)]
    simp only [Option.bind_some, Int.toNat_natCast]
    rw [if_pos (by omega), if_pos (by rw [List.length_replicate]; omega), if_pos (by rw [idL_length]; omega), wrap_succ i (by omega), idL_succ]
    rfl
theorem spec_l2Identity_ev (n : Nat) (hn : n ≤ 1000) : Ev (fun k => spec_l2Identity.f k (n : Int)) (idL n n) := spec_l2Identity_l0 n hn n 0 (by omega)

theorem dotL_take : ∀ (fs v : List Nat) (j : Nat), fs.length = v.length → j < fs.length → Mat.dotL (fs.take (j + 1)) (v.take (j + 1)) = Mat.dotL (fs.take j) (v.take j) ^^^ Gf.gm (fs.getD j 0) (v.getD j 0)
  | [], _, _, _, h => by cases h
  | _ :: _, [], _, h, _ => by cases h
  | f :: fs, x :: v, 0, _, _ => by simp [Mat.dotL]
  | f :: fs, x :: v, j + 1, h, hj => by
    have ih := dotL_take fs v j (by simpa using h) (by simpa using hj)
    simp only [List.take_succ_cons, Mat.dotL, List.getD_cons_succ] at ih ⊢
    rw [ih, Nat.xor_assoc]
theorem dotL_take_lt (fs v : List Nat) (h : Poly.AllB fs) (j : Nat) : Mat.dotL (fs.take j) (v.take j) < 256 := Mat.dotL_lt _ _ (fun x hx => h x (List.mem_of_mem_take hx))
theorem colM_snoc (m : List (List Nat)) (v : List Nat) {i : Nat} (hi : i < m.length) : Poly.up (Mat.colM (m.take i) v) ++ [((Mat.dotL (m.getD i []) v : Nat) : Int)] = Poly.up (Mat.colM (m.take (i + 1)) v) := by
  unfold Mat.colM Poly.up
  rw [List.take_succ_eq_append_getElem hi, List.map_append, List.map_append, List.getD_eq_getElem?_getD, List.getElem?_eq_getElem hi]; rfl

theorem spec_l2Column_l1 (n : Nat) (m : List (List Nat)) (v : List Nat) (hm : Mat.MB' n m) (hv : Poly.AllB v) (hvl : v.length = n) (hn : n ≤ 1000) (hml : m.length ≤ 1000) (i : Nat) (hi : i < m.length) (hnext : Ev (fun k => spec_l2Column.l0 k (Poly.up v) (Poly.up (Mat.colM (m.take (i + 1)) v)) (upM m) ((upM m).length : Int) ((i + 1 : Nat) : Int)) (Poly.up (Mat.colM m v))) :
    ∀ d j : Nat, j + d = n → Ev (fun k => spec_l2Column.l1 k (Poly.up v) (Poly.up (Mat.colM (m.take i) v)) ((Mat.dotL ((m.getD i []).take j) (v.take j) : Nat) : Int) (upM m) ((upM m).length : Int) (i : Int) (Poly.up (m.getD i [])) ((Poly.up (m.getD i [])).length : Int) (j : Int)) (Poly.up (Mat.colM m v)) := by
  obtain ⟨hr, hrb⟩ := hm.get hi
  intro d
  induction d with
  | zero =>
    intro j hj
    obtain rfl : j = n := by omega
    refine Ev.step (f := fun k => spec_l2Column.l0 k (Poly.up v) (Poly.up (Mat.colM (m.take (i + 1)) v)) (upM m) ((upM m).length : Int) ((i + 1 : Nat) : Int)) (fun k => ?_) hnext
    rw [spec_l2Column.l1.eq_2, if_neg (by rw [Poly.up_length]; omega), if_pos (by rw [Poly.up_length]; unfold Mat.colM; rw [List.length_map, List.length_take]; omega), show (m.getD i []).take j = m.getD i [] from by rw [← hr, List.take_length], show v.take j = v from by rw [← hvl, List.take_length], colM_snoc m v hi, wrap_succ i (by omega)]
  | succ d ih =>
    intro j hj
    have hjr : j < (m.getD i []).length := by omega
    have hx := xor_up (dotL_take_lt (m.getD i []) v hrb j) (Gf.gm_lt (v.getD j 0) (Poly.AllB.get hrb j))
    refine Ev.step (f := fun k => (spec_l1Mul.f k (((m.getD i []).getD j 0 : Nat) : Int) ((v.getD j 0 : Nat) : Int)).bind fun t => spec_l2Column.l1 k (Poly.up v) (Poly.up (Mat.colM (m.take i) v)) (Go.bits .xor .i64 ((Mat.dotL ((m.getD i []).take j) (v.take j) : Nat) : Int) t) (upM m) ((upM m).length : Int) (i : Int) (Poly.up (m.getD i [])) ((Poly.up (m.getD i [])).length : Int) ((j + 1 : Nat) : Int)) (fun k => ?_) ?_
    · rw [spec_l2Column.l1.eq_2, if_pos (by rw [Poly.up_length]; omega), if_pos (by omega), if_pos (by rw [Poly.up_length]; omega), if_pos (by rw [Poly.up_length]; omega), Poly.rd_up, Poly.rd_up, wrap_succ j (by omega)]
    · refine Ev.bind (f := fun k t => spec_l2Column.l1 k (Poly.up v) (Poly.up (Mat.colM (m.take i) v)) (Go.bits .xor .i64 ((Mat.dotL ((m.getD i []).take j) (v.take j) : Nat) : Int) t) (upM m) ((upM m).length : Int) (i : Int) (Poly.up (m.getD i [])) ((Poly.up (m.getD i [])).length : Int) ((j + 1 : Nat) : Int)) (spec_l1Mul_ev _ _ (Poly.AllB.get hrb j) (Poly.AllB.get hv j)) ?_
      have h9 := ih (j + 1) (by omega)
      rw [dotL_take _ _ j (by omega) hjr] at h9
      show Ev (fun k => spec_l2Column.l1 k (Poly.up v) (Poly.up (Mat.colM (m.take i) v)) (Go.bits .xor .i64 ((Mat.dotL ((m.getD i []).take j) (v.take j) : Nat) : Int) ((Gf.gm ((m.getD i []).getD j 0) (v.getD j 0) : Nat) : Int)) (upM m) ((upM m).length : Int) (i : Int) (Poly.up (m.getD i [])) ((Poly.up (m.getD i [])).length : Int) ((j + 1 : Nat) : Int)) _
      rw [hx]
      exact h9
theorem spec_l2Column_l0 (n : Nat) (m : List (List Nat)) (v : List Nat) (hm : Mat.MB' n m) (hv : Poly.AllB v) (hvl : v.length = n) (hn : n ≤ 1000) (hml : m.length ≤ 1000) : ∀ d i : Nat, i + d = m.length → Ev (fun k => spec_l2Column.l0 k (Poly.up v) (Poly.up (Mat.colM (m.take i) v)) (upM m) ((upM m).length : Int) (i : Int)) (Poly.up (Mat.colM m v)) := by
  intro d
  induction d with
  | zero =>
    intro i hi
    obtain rfl : i = m.length := by omega
    rw [List.take_length]
    exact Ev.step (f := fun _ => some (Poly.up (Mat.colM m v))) (fun k => by rw [spec_l2Column.l0.eq_2, if_neg (by rw [upM_length]; omega)]) (Ev.now _)
  | succ d ih =>
    intro i hi
    have h9 := spec_l2Column_l1 n m v hm hv hvl hn hml i (by omega) (ih (i + 1) (by omega)) n 0 (by omega)
    refine Ev.step (f := fun k => spec_l2Column.l1 k (Poly.up v) (Poly.up (Mat.colM (m.take i) v)) 0 (upM m) ((upM m).length : Int) (i : Int) (Poly.up (m.getD i [])) ((Poly.up (m.getD i [])).length : Int) 0) (fun k => ?_) h9
    rw [spec_l2Column.l0.eq_2, if_pos (by rw [upM_length]; omega), if_pos (by omega), if_pos (by rw [upM_length]; omega), rdL_up]
theorem spec_l2Column_ev (n : Nat) (m : List (List Nat)) (v : List Nat) (hm : Mat.MB' n m) (hv : Poly.AllB v) (hvl : v.length = n) (hn : n ≤ 1000) (hml : m.length ≤ 1000) : Ev (fun k => spec_l2Column.f k (upM m) (Poly.up v)) (Poly.up (Mat.colM m v)) := spec_l2Column_l0 n m v hm hv hvl hn hml m.length 0 (by omega)

theorem laws_toIntS_l0 (l : List Int) (hl : l.length ≤ 1048576) : ∀ d i : Nat, i + d = l.length → Ev (fun k => laws_toIntS.l0 k l (l.take i ++ List.replicate d 0) (i : Int)) l := by
  intro d
  induction d with
  | zero =>
    intro i hi
    obtain rfl : i = l.length := by omega
    exact Ev.step (f := fun _ => some l) (fun k => by simp only [laws_toIntS.l0]; rw [if_neg (by omega)]; simp) (Ev.now _)
  | succ d ih =>
    intro i hi
    have hlt : i < l.length := by omega
    refine Ev.step (f := fun k => laws_toIntS.l0 k l (l.take (i + 1) ++ List.replicate d 0) ((i + 1 : Nat) : Int)) (fun k => ?_) (ih (i + 1) (by omega))
    have e : ((l.take i ++ List.replicate (d + 1) 0).set i l[i]) = l.take (i + 1) ++ List.replicate d 0 := by
      rw [List.set_append_right _ _ (by simp; omega)]
      simp only [List.length_take, Nat.min_eq_left (Nat.le_of_lt hlt), Nat.sub_self, List.replicate_succ, List.set_cons_zero]
      rw [List.take_succ_eq_append_getElem hlt, List.append_assoc]; rfl
    have z : (i : Int) < ((l.take i ++ List.replicate (d + 1) (0 : Int)).length : Int) := by simp only [List.length_append, List.length_take, List.length_replicate]; omega
    simp only [laws_toIntS.l0, rd_nat l i hlt, wrap_succ i (by omega), Int.toNat_natCast]
    rw [if_pos (by omega), if_pos (by omega), if_pos z, e]
theorem laws_toIntS_ev (l : List Int) (hl : l.length ≤ 1048576) : Ev (fun k => laws_toIntS.f k l) l := by
  unfold laws_toIntS.f
  have z1 : (0 : Int) ≤ (l.length : Int) := by omega
  have z2 : (l.length : Int).toNat ≤ 35184372088832 := by omega
  simp only [if_pos z1, if_pos z2]
  have := laws_toIntS_l0 l hl l.length 0 (by omega)
  simpa using this

theorem impl_areGf_eq (l : List Int) : impl_areGf.f l = some (l.all isB) := by
  unfold impl_areGf.f
  have e : impl_areGf.bad = fun n => !isB n := by
    funext n
    simp only [impl_areGf.bad, isB]
  rw [e, List.all_eq_not_any_not]

theorem impl_GoodMatrix_eq (m : List (List Int)) : impl_GoodMatrix.f m = some (goodM m) := by
  unfold impl_GoodMatrix.f goodM areR
  have e : impl_areGf.bad = fun n => !isB n := by
    funext n
    simp only [impl_areGf.bad, isB]
  have e2 : impl_GoodMatrix.bad m = fun r => !(decide (r.length = (m.getD 0 []).length) && r.all isB) := by
    funext r
    unfold impl_GoodMatrix.bad
    rw [e, List.all_eq_not_any_not]
  rw [e2, List.all_eq_not_any_not]



theorem impl_mul_l0 : ∀ (n a b o : Nat), a < 256 → o < 256 → b < 2 ^ n → b < 2 ^ 63 → Ev (fun k => impl_mul.l0 k (a : Int) (b : Int) (o : Int)) ((Gf.gmA n a b o : Nat) : Int) := by
  have stop : ∀ a o : Nat, Ev (fun k => impl_mul.l0 k (a : Int) ((0 : Nat) : Int) (o : Int)) ((o : Nat) : Int) := fun a o =>
    Ev.step (f := fun _ => some ((o : Nat) : Int)) (fun k => by simp only [impl_mul.l0]; rw [if_neg (by omega)]) (Ev.now _)
  intro n
  induction n with
  | zero =>
    intro a b o ha ho hb _
    obtain rfl : b = 0 := by simpa using hb
    exact stop a o
  | succ n ih =>
    intro a b o ha ho hb hb63
    by_cases h0 : b = 0
    · subst h0
      rw [Gf.gmA_zero]
      exact stop a o
    · have e1 : wrap64 ((a : Int) * 2) = ((a * 2 : Nat) : Int) := by rw [wrap_id (by omega) (by omega)]; omega
      have e2 : Go.bits .xor .i64 ((a * 2 : Nat) : Int) 285 = (((a * 2) ^^^ 285 : Nat) : Int) := xor_nat (a := a * 2) (b := 285) (by omega) (by decide)
      have e3 : Go.bits .xor .i64 (o : Int) (a : Int) = ((o ^^^ a : Nat) : Int) := xor_nat (by omega) (by omega)
      have e4 := and_one (a := b) hb63
      refine Ev.step (f := fun k => impl_mul.l0 k ((Gf.xt a : Nat) : Int) ((b / 2 : Nat) : Int) (((if b % 2 = 1 then o ^^^ a else o) : Nat) : Int)) (fun k => ?_) (ih _ _ _ (Gf.xt_lt a ha) ?_ (by rw [Nat.pow_succ] at hb; omega) (by omega))
      · simp only [impl_mul.l0, e1, e2, e3, e4, half_nat, Gf.xt]
        rw [if_pos (show (b : Int) > 0 by omega)]
        by_cases h1 : b % 2 = 1 <;> by_cases h2 : 255 < a * 2
        · rw [if_pos (show ((b % 2 : Nat) : Int) = 1 by omega), if_pos h1, if_pos (by omega), if_pos h2]
        · rw [if_pos (show ((b % 2 : Nat) : Int) = 1 by omega), if_pos h1, if_neg (by omega), if_neg h2]
        · rw [if_neg (show ¬ ((b % 2 : Nat) : Int) = 1 by omega), if_neg h1, if_pos (by omega), if_pos h2]
        · rw [if_neg (show ¬ ((b % 2 : Nat) : Int) = 1 by omega), if_neg h1, if_neg (by omega), if_neg h2]
      · split
        · exact Gf.xor_byte ho ha
        · exact ho
theorem impl_mul_ev (a b : Nat) (ha : a < 256) (hb : b < 256) : Ev (fun k => impl_mul.f k (a : Int) (b : Int)) ((Gf.gm a b : Nat) : Int) :=
  impl_mul_l0 8 a b 0 ha (by decide) hb (by omega)

theorem impl_pow_l0 : ∀ (f a n o : Nat), a < 256 → o < 256 → n < 2 ^ f → n < 2 ^ 63 → Ev (fun k => impl_pow.l0 k (a : Int) (n : Int) (o : Int)) ((Gf.pwA f a n o : Nat) : Int) := by
  have stop : ∀ a o : Nat, Ev (fun k => impl_pow.l0 k (a : Int) ((0 : Nat) : Int) (o : Int)) ((o : Nat) : Int) := fun a o =>
    Ev.step (f := fun _ => some ((o : Nat) : Int)) (fun k => by simp only [impl_pow.l0]; rw [if_neg (by omega)]) (Ev.now _)
  have z : ∀ f a o, Gf.pwA f a 0 o = o := by
    intro f
    induction f with
    | zero => intro a o; rfl
    | succ f ih => intro a o; exact ih _ _
  intro f
  induction f with
  | zero =>
    intro a n o ha ho hn _
    obtain rfl : n = 0 := by simpa using hn
    exact stop a o
  | succ f ih =>
    intro a n o ha ho hn hn63
    by_cases h0 : n = 0
    · subst h0
      rw [z]
      exact stop a o
    · have e4 := and_one (a := n) hn63
      have hsq := Gf.gm_lt a ha
      by_cases h1 : n % 2 = 1
      · refine Ev.step (f := fun k => (impl_mul.f k (o : Int) (a : Int)).bind fun t => (impl_mul.f k (a : Int) (a : Int)).bind fun u => impl_pow.l0 k u ((n / 2 : Nat) : Int) t) (fun k => ?_) ?_
        · simp only [impl_pow.l0, e4, half_nat]
          rw [if_pos (show (n : Int) > 0 by omega), if_pos (show ((n % 2 : Nat) : Int) = 1 by omega)]
        · have := ih (Gf.gm a a) (n / 2) (Gf.gm o a) hsq (Gf.gm_lt a ho) (by rw [Nat.pow_succ] at hn; omega) (by omega)
          show Ev _ ((Gf.pwA f (Gf.gm a a) (n / 2) (if n % 2 = 1 then Gf.gm o a else o) : Nat) : Int)
          rw [if_pos h1]
          exact Ev.bind (f := fun k t => (impl_mul.f k (a : Int) (a : Int)).bind fun u => impl_pow.l0 k u ((n / 2 : Nat) : Int) t) (impl_mul_ev o a ho ha) (Ev.bind (f := fun k u => impl_pow.l0 k u ((n / 2 : Nat) : Int) ((Gf.gm o a : Nat) : Int)) (impl_mul_ev a a ha ha) this)
      · refine Ev.step (f := fun k => (impl_mul.f k (a : Int) (a : Int)).bind fun u => impl_pow.l0 k u ((n / 2 : Nat) : Int) (o : Int)) (fun k => ?_) ?_
        · simp only [impl_pow.l0, e4, half_nat]
          rw [if_pos (show (n : Int) > 0 by omega), if_neg (show ¬ ((n % 2 : Nat) : Int) = 1 by omega)]
        · have := ih (Gf.gm a a) (n / 2) o hsq ho (by rw [Nat.pow_succ] at hn; omega) (by omega)
          show Ev _ ((Gf.pwA f (Gf.gm a a) (n / 2) (if n % 2 = 1 then Gf.gm o a else o) : Nat) : Int)
          rw [if_neg h1]
          exact Ev.bind (f := fun k u => impl_pow.l0 k u ((n / 2 : Nat) : Int) (o : Int)) (impl_mul_ev a a ha ha) this
theorem impl_pow_ev (a n : Nat) (ha : a < 256) (hn : n < 2 ^ 62) : Ev (fun k => impl_pow.f k (a : Int) (n : Int)) ((Gf.pw a n : Nat) : Int) := by
  have := impl_pow_l0 62 a n 1 ha (by decide) hn (by omega)
  rw [Gf.pwA_eq 62 a n 1 ha (by decide) hn, Gf.one_gm _ (Gf.pw_lt n)] at this
  exact this

theorem impl_inverse_ev (b : Nat) (hb : b < 256) : Ev (fun k => impl_inverse.f k (b : Int)) ((Gf.gi b : Nat) : Int) := by
  unfold impl_inverse.f
  exact Ev.bind (f := fun _ u => some u) (impl_pow_ev b 254 hb (by decide)) (Ev.now _)

theorem impl_identity_l0 (n : Nat) (hn : n ≤ 1000) : ∀ d i : Nat, i + d = n → Ev (fun k => impl_identity.l0 k (n : Int) (idL n i) (n : Int) (i : Int)) (idL n n) := by
  intro d
  induction d with
  | zero =>
    intro i hi
    obtain rfl : i = n := by omega
    exact Ev.step (f := fun _ => some (idL i i)) (fun k => by rw [impl_identity.l0.eq_2, if_neg (by omega)]) (Ev.now _)
  | succ d ih =>
    intro i hi
    refine Ev.step (f := fun k => impl_identity.l0 k (n : Int) (idL n (i + 1)) (n : Int) ((i + 1 : Nat) : Int)) (fun k => ?_) (ih (i + 1) (by omega))
    rw [impl_identity.l0.eq_2, if_pos (by omega), if_pos (by omega), if_pos (by omega)]
    simp only [Option.bind_some, Int.toNat_natCast]
    rw [if_pos (by omega), if_pos (by rw [List.length_replicate]; omega), if_pos (by rw [idL_length]; omega), wrap_succ i (by omega), idL_succ]
    rfl
theorem impl_identity_ev (n : Nat) (hn : n ≤ 1000) : Ev (fun k => impl_identity.f k (n : Int)) (idL n n) := impl_identity_l0 n hn n 0 (by omega)

theorem bes_snoc {m s : List (List Nat)} (h : m.length = s.length) {i : Nat} (hi : i < m.length) : upM ((Mat.bes m s).take i) ++ [Poly.up (m.getD i []) ++ Poly.up (s.getD i [])] = upM ((Mat.bes m s).take (i + 1)) := by
  have hb := Mat.bes_at h i
  have hlt : i < (Mat.bes m s).length := by rw [Mat.bes_length h]; exact hi
  rw [List.getD_eq_getElem?_getD, List.getElem?_eq_getElem hlt, Option.getD_some] at hb
  rw [List.take_succ_eq_append_getElem hlt, hb, ← upM_snoc]
  congr 2
  unfold Poly.up
  rw [List.map_append]
theorem impl_beside_l0 (m s : List (List Nat)) (hl : m.length = s.length) (hm : m.length ≤ 1000) (hr : ∀ i, (m.getD i []).length ≤ 1000) (hs : ∀ i, (s.getD i []).length ≤ 1000) : ∀ d i : Nat, i + d = m.length → Ev (fun k => impl_beside.l0 k (upM s) (upM ((Mat.bes m s).take i)) (upM m) ((upM m).length : Int) (i : Int)) (upM (Mat.bes m s)) := by
  intro d
  induction d with
  | zero =>
    intro i hi
    obtain rfl : i = m.length := by omega
    have e : (Mat.bes m s).take m.length = Mat.bes m s := by rw [← Mat.bes_length hl, List.take_length]
    rw [e]
    exact Ev.step (f := fun _ => some (upM (Mat.bes m s))) (fun k => by rw [impl_beside.l0.eq_2, if_neg (by rw [upM_length]; omega)]) (Ev.now _)
  | succ d ih =>
    intro i hi
    have h1 := hr i
    have h2 := hs i
    have hc : slices_Clone_int_int.f (Poly.up (m.getD i [])) = some (Poly.up (m.getD i [])) := by unfold slices_Clone_int_int.f; rw [if_pos (by rw [Poly.up_length]; omega)]
    refine Ev.step (f := fun k => impl_beside.l0 k (upM s) (upM ((Mat.bes m s).take (i + 1))) (upM m) ((upM m).length : Int) ((i + 1 : Nat) : Int)) (fun k => ?_) (ih (i + 1) (by omega))
    rw [impl_beside.l0.eq_2, if_pos (by rw [upM_length]; omega), if_pos (by omega), if_pos (by rw [upM_length]; omega), rdL_up, rdL_up, hc, Option.bind_some, if_pos (by rw [upM_length]; omega), if_pos (by rw [Poly.up_length, Poly.up_length]; omega), if_pos (by rw [upM_length, List.length_take]; omega), bes_snoc hl (by omega), wrap_succ i (by omega)]
theorem impl_beside_ev (m s : List (List Nat)) (hl : m.length = s.length) (hm : m.length ≤ 1000) (hr : ∀ i, (m.getD i []).length ≤ 1000) (hs : ∀ i, (s.getD i []).length ≤ 1000) : Ev (fun k => impl_beside.f k (upM m) (upM s)) (upM (Mat.bes m s)) := impl_beside_l0 m s hl hm hr hs m.length 0 (by omega)

theorem laws_eqIntS_l0 (l m : List Int) (hlm : l.length = m.length) (hl : l.length ≤ 140737488351232) : ∀ d i : Nat, i + d = l.length → Ev (fun k => laws_eqIntS.l0 k l m (i : Int)) (decide (l.drop i = m.drop i)) := by
  intro d
  induction d with
  | zero =>
    intro i hi
    obtain rfl : i = l.length := by omega
    have e : decide (l.drop l.length = m.drop l.length) = true := by
      have e2 : m.drop l.length = [] := by rw [hlm, List.drop_length]
      rw [e2, List.drop_length]; rfl
    rw [e]
    exact Ev.step (f := fun _ => some true) (fun k => by simp only [laws_eqIntS.l0]; rw [if_neg (by omega)]) (Ev.now _)
  | succ d ih =>
    intro i hi
    have hlt : i < l.length := by omega
    have hlt2 : i < m.length := by omega
    rw [List.drop_eq_getElem_cons hlt, List.drop_eq_getElem_cons hlt2]
    by_cases e : l[i] = m[i]
    · have : decide (l[i] :: l.drop (i + 1) = m[i] :: m.drop (i + 1)) = decide (l.drop (i + 1) = m.drop (i + 1)) := by simp only [List.cons.injEq, e, true_and]
      rw [this]
      refine Ev.step (f := fun k => laws_eqIntS.l0 k l m ((i + 1 : Nat) : Int)) (fun k => ?_) (ih (i + 1) (by omega))
      simp only [laws_eqIntS.l0, rd_nat l i hlt, rd_nat m i hlt2, wrap_succ i (by omega)]
      rw [if_pos (by omega), if_pos (by omega), if_pos (by omega), if_pos e]
    · have : decide (l[i] :: l.drop (i + 1) = m[i] :: m.drop (i + 1)) = false := by simp only [List.cons.injEq, e, false_and, decide_false]
      rw [this]
      refine Ev.step (f := fun k => some false) (fun k => ?_) (Ev.now _)
      simp only [laws_eqIntS.l0, rd_nat l i hlt, rd_nat m i hlt2, wrap_succ i (by omega)]
      rw [if_pos (by omega), if_pos (by omega), if_pos (by omega), if_neg e]
theorem laws_eqIntS_ev (l m : List Int) (hl : l.length ≤ 140737488351232) : Ev (fun k => laws_eqIntS.f k l m) (decide (l = m)) := by
  unfold laws_eqIntS.f
  by_cases h : l.length = m.length
  · simp only [if_pos (show (l.length : Int) = (m.length : Int) by omega)]
    exact laws_eqIntS_l0 l m h hl l.length 0 (by omega)
  · simp only [if_neg (show ¬ (l.length : Int) = (m.length : Int) by omega)]
    have : decide (l = m) = false := by simp only [decide_eq_false_iff_not]; rintro rfl; exact h rfl
    rw [this]
    exact Ev.now _

theorem laws_eqIntSS_l0 (l m : List (List Int)) (hlm : l.length = m.length) (hl : l.length ≤ 140737488351232) (hr : ∀ r ∈ l, r.length ≤ 140737488351232) : ∀ d i : Nat, i + d = l.length → Ev (fun k => laws_eqIntSS.l0 k l m (i : Int)) (decide (l.drop i = m.drop i)) := by
  intro d
  induction d with
  | zero =>
    intro i hi
    obtain rfl : i = l.length := by omega
    have e : decide (l.drop l.length = m.drop l.length) = true := by
      have e2 : m.drop l.length = [] := by rw [hlm, List.drop_length]
      rw [e2, List.drop_length]; rfl
    rw [e]
    exact Ev.step (f := fun _ => some true) (fun k => by rw [laws_eqIntSS.l0.eq_2, if_neg (by omega)]) (Ev.now _)
  | succ d ih =>
    intro i hi
    have hlt : i < l.length := by omega
    have hlt2 : i < m.length := by omega
    rw [List.drop_eq_getElem_cons hlt, List.drop_eq_getElem_cons hlt2]
    have E := laws_eqIntS_ev l[i] m[i] (hr _ (List.getElem_mem hlt))
    refine Ev.step (f := fun k => (laws_eqIntS.f k l[i] m[i]).bind fun t => if t = true then laws_eqIntSS.l0 k l m ((i + 1 : Nat) : Int) else some false) (fun k => ?_) (Ev.bind (f := fun k t => if t = true then laws_eqIntSS.l0 k l m ((i + 1 : Nat) : Int) else some false) E ?_)
    · rw [laws_eqIntSS.l0.eq_2, if_pos (by omega), if_pos (by omega), if_pos (by omega), rdL_nat l i hlt, rdL_nat m i hlt2, wrap_succ i (by omega)]
    · by_cases e : l[i] = m[i]
      · have e2 : decide (l[i] :: l.drop (i + 1) = m[i] :: m.drop (i + 1)) = decide (l.drop (i + 1) = m.drop (i + 1)) := by simp only [List.cons.injEq, e, true_and]
        rw [e2, decide_eq_true e]
        simp only [if_true]
        exact ih (i + 1) (by omega)
      · have e2 : decide (l[i] :: l.drop (i + 1) = m[i] :: m.drop (i + 1)) = false := by simp only [List.cons.injEq, e, false_and, decide_false]
        rw [e2, decide_eq_false e]
        simp only [Bool.false_eq_true, if_false]
        exact Ev.now _
theorem laws_eqIntSS_ev (l m : List (List Int)) (hl : l.length ≤ 140737488351232) (hr : ∀ r ∈ l, r.length ≤ 140737488351232) : Ev (fun k => laws_eqIntSS.f k l m) (decide (l = m)) := by
  unfold laws_eqIntSS.f
  by_cases h : l.length = m.length
  · simp only [if_pos (show (l.length : Int) = (m.length : Int) by omega)]
    exact laws_eqIntSS_l0 l m h hl hr l.length 0 (by omega)
  · simp only [if_neg (show ¬ (l.length : Int) = (m.length : Int) by omega)]
    have : decide (l = m) = false := by simp only [decide_eq_false_iff_not]; rintro rfl; exact h rfl
    rw [this]
    exact Ev.now _
theorem laws_eqIntSS_same (l : List (List Int)) (hl : l.length ≤ 1048576) (hr : ∀ r ∈ l, r.length ≤ 1048576) : ∃ K, laws_eqIntSS.f K l l = some true := by
  have := laws_eqIntSS_ev l l (by omega) (fun r h => by have := hr r h; omega)
  rw [decide_eq_true rfl] at this
  exact this.rounds

theorem laws_markIntS_l0 (l : List Int) (m : Nat) (hl : l.length ≤ 1048576) (hm : m ≤ 1000000000) : ∀ d i : Nat, i + d = l.length → Ev (fun k => laws_markIntS.l0 k (marks m i ++ l.drop i) ((m + i : Nat) : Int) (i : Int)) (((m + l.length : Nat) : Int), marks m l.length) := by
  intro d
  induction d with
  | zero =>
    intro i hi
    obtain rfl : i = l.length := by omega
    refine Ev.step (f := fun _ => some (((m + l.length : Nat) : Int), marks m l.length)) (fun k => ?_) (Ev.now _)
    simp only [laws_markIntS.l0, List.drop_length, List.append_nil, marks_length]
    rw [if_neg (by omega)]
  | succ d ih =>
    intro i hi
    have hlt : i < l.length := by omega
    refine Ev.step (f := fun k => laws_markIntS.l0 k (marks m (i + 1) ++ l.drop (i + 1)) ((m + (i + 1) : Nat) : Int) ((i + 1 : Nat) : Int)) (fun k => ?_) (ih (i + 1) (by omega))
    have e : (marks m i ++ l.drop i).set i ((m + i : Nat) : Int) = marks m (i + 1) ++ l.drop (i + 1) := by
      rw [List.set_append_right _ _ (by rw [marks_length]; omega), marks_length, Nat.sub_self, List.drop_eq_getElem_cons hlt, List.set_cons_zero, marks_succ, List.append_assoc]
      rfl
    have hlen : (marks m i ++ l.drop i).length = l.length := by rw [List.length_append, marks_length, List.length_drop]; omega
    have e2 : wrap64 (((m + i : Nat) : Int) + 1) = ((m + (i + 1) : Nat) : Int) := by rw [wrap_id (by omega) (by omega)]; omega
    simp only [laws_markIntS.l0, hlen, Int.toNat_natCast, e, e2, wrap_succ i (by omega)]
    rw [if_pos (by omega), if_pos (by omega)]
theorem laws_markIntS_ev (l : List Int) (m : Nat) (hl : l.length ≤ 1048576) (hm : m ≤ 1000000000) : Ev (fun k => laws_markIntS.f k l (m : Int)) (((m + l.length : Nat) : Int), marks m l.length) := by
  have := laws_markIntS_l0 l m hl hm l.length 0 (by omega)
  simp only [marks, List.range_zero, List.map_nil, List.nil_append, List.drop_zero, Nat.add_zero] at this
  exact this

theorem laws_heldIntS_l0 (m n : Nat) (h : m + n ≤ 2000000000) : ∀ d i : Nat, i + d = n → Ev (fun k => laws_heldIntS.l0 k (marks m n) ((m + i : Nat) : Int) (i : Int)) ((m + n : Nat) : Int) := by
  intro d
  induction d with
  | zero =>
    intro i hi
    obtain rfl : i = n := by omega
    refine Ev.step (f := fun _ => some ((m + i : Nat) : Int)) (fun k => ?_) (Ev.now _)
    simp only [laws_heldIntS.l0, marks_length]
    rw [if_neg (by omega)]
  | succ d ih =>
    intro i hi
    refine Ev.step (f := fun k => laws_heldIntS.l0 k (marks m n) ((m + (i + 1) : Nat) : Int) ((i + 1 : Nat) : Int)) (fun k => ?_) (ih (i + 1) (by omega))
    have hlt : i < (marks m n).length := by rw [marks_length]; omega
    have e2 : wrap64 (((m + i : Nat) : Int) + 1) = ((m + (i + 1) : Nat) : Int) := by rw [wrap_id (by omega) (by omega)]; omega
    simp only [laws_heldIntS.l0, rd_nat _ i hlt, marks_get, marks_length, e2, wrap_succ i (by omega)]
    rw [if_pos (by omega), if_pos (by omega)]
    simp
theorem laws_heldIntS_ev (m n : Nat) (h : m + n ≤ 2000000000) : Ev (fun k => laws_heldIntS.f k (marks m n) (m : Int)) ((m + n : Nat) : Int) := laws_heldIntS_l0 m n h n 0 (by omega)

theorem mk_rows {P : Program} (e : TypeId) (bytes : Nat) (t : TypeId) (ht : P.underlying t = some (.slice e)) (hinfo : (P.info? e).map (fun i => (i.zero, i.size, i.bytes)) = some (some (.slice none 0 0), 1, bytes)) (hb0 : 0 < bytes) (m : Nat) (hn : m * bytes ≤ 281474976710656) :
    ∀ W : World, (Instr.makeSlice t (.int .i64 (m : Int)) (.int .i64 (m : Int))).run P W = .ok (.slice (some ⟨W.heap.size, 0, none⟩) m m) (W.alloc (.cells (madeCells #[.slice none 0 0] m) e)) := by
  intro W
  have hm : m ≤ 281474976710656 := Nat.le_trans (Nat.le_mul_of_pos_right _ hb0) hn
  exact run_make_row' t e (.slice none 0 0) bytes ht hinfo rfl .i64 .i64 m (by rw [Nat.mul_comm]; exact hn) (by omega) W
/-- A row of m nils is made. -/
theorem mk_event {P : Program} {ops : Array Oper} {rest : List Oper} {o : Oper} {a : Act} {Q : Exit → Act → World → Prop} {W : World} (q : TypeId) (hgd : o.guard = none) {N : Tmp} (hd : o.dst = some N) (t e : TypeId) (x y : Operand) (ho : o.op = .makeSlice t x y) (m : Nat) (hx : a.eval x = .int .i64 (m : Int)) (hy : a.eval y = .int .i64 (m : Int)) (bytes : Nat)
    (ht : P.underlying t = some (.slice e)) (hinfo : (P.info? e).map (fun i => (i.zero, i.size, i.bytes)) = some (some (.slice none 0 0), 1, bytes)) (hb0 : 0 < bytes) (hn : m * bytes ≤ 281474976710656)
    (h : ∀ g w1, Mx.Mx e q w1 W.heap.size w1.heap.size (.slice (some ⟨g, 0, none⟩) m m) (List.replicate m []) (List.replicate m (.slice none 0 0)) → Below W.heap.size W w1 → wpList P ops Q rest (a.put o.dst (.slice (some ⟨g, 0, none⟩) m m)) w1) : wpList P ops Q (o :: rest) a W := by
  have hm : m ≤ 281474976710656 := Nat.le_trans (Nat.le_mul_of_pos_right _ hb0) hn
  have h1 : W.heap.size + 1 = (W.alloc (.cells (madeCells #[Value.slice none 0 0] m) e)).heap.size := by simp
  have hM := Mx.Mx.nils (e := e) (t := q) W W.heap.size m (Nat.le_refl _) (by omega)
  rw [h1] at hM
  exact Kd.event_run hgd (by simp [execOp, ho, hx, hy, mk_rows e bytes t ht hinfo hb0 m hn]) (h _ _ hM (below_alloc (Below.refl _ _) _))

theorem infoR : (Try.prog.info? 23).map (fun i => (i.zero, i.size, i.bytes)) = some (some (.slice none 0 0), 1, 24) := by kernel_rfl

set_option maxHeartbeats 4000000 in
set_option maxRecDepth 100000 in
/-- A copy of a list of rows, rows and all. -/
theorem toSS_calls (A : Option Addr) (c : Nat) (m : List (List Int)) (w : World) (hr0 : Kd.C (Kd.slice 3 (Kd.int .i64)) w A m.length m) (hc0 : m.length ≤ c) (hml : m.length ≤ 1048576) (hrow : ∀ r ∈ m, r.length ≤ 1048576) :
    Calls Try.prog 13 #[.slice A m.length c] w fun e w' => ∃ v vs, e = .returned v ∧ Mx.Mx 23 3 w' w.heap.size w'.heap.size v m vs ∧ Below w.heap.size w w' := by
  have HR := Aside0.mk hr0
  have HC := Aside0.mk hc0
  have HW := Aside0.mk hrow
  have HM := Aside0.mk hml
  clear hr0 hc0 hrow
  go_enter Try.func13, Try.ntmps13
  go_wp2_with (first | ((with_reducible refine gate_dst (N := 7) rfl ?_); refine mk_event 3 rfl rfl 22 23 _ _ rfl m.length rfl rfl 24 Try.underlying22 infoR (by decide) (by have := HM.out; omega) ?_; intro g w1 hM hb; have HX0 := Aside0.mk hM; have HB0 := Aside0.mk hb; clear hM hb))
  go_loopg [4] m.length (fun gg s4 wr => ∃ (i : Nat) (vs : List Value), i ≤ m.length ∧ m.length - i ≤ gg ∧ s4 = .int .i64 i ∧ Aside0 (Mx.Mx 23 3 wr w.heap.size wr.heap.size (.slice (some ⟨g, 0, none⟩) m.length m.length) (m.take i ++ List.replicate (m.length - i) []) vs) ∧ Aside0 (Below w.heap.size w wr))
  case atStart => exact ⟨0, _, Nat.zero_le _, by omega, rfl, ⟨by simpa using HX0.out⟩, HB0⟩
  case round =>
    clear HX0 HB0
    obtain ⟨i, vs, hi', hg, rfl, HX, HB⟩ := hrel
    by_cases hlt : i < m.length
    · have hM := HX.out
      have hlen : (m.take i ++ List.replicate (m.length - i) []).length = m.length := by rw [List.length_append, List.length_take, List.length_replicate]; omega
      obtain ⟨u, hu⟩ := hM.at_ (i := i) (by rw [hlen]; exact hlt)
      obtain ⟨g', cap, hv, hg0, hg1, _, _, hcell⟩ := hM.cells (by rw [hlen]; omega)
      have hc := (hcell i u hu).1
      have hf := (hcell i u hu).2
      clear hcell
      obtain ⟨ad, A1, c1, rfl, hx, hl1, hr1⟩ := Mx.rows_at HR.out i hlt hlt
      have hx' := pw_cell_below HB.out hx
      obtain ⟨K, hK⟩ := (laws_toIntS_ev m[i] (HW.out _ (List.getElem_mem hlt))).rounds
      have hcall := laws_toIntS.calls K A1 c1 m[i] m[i] wr (Kd.C_below hr1 HB.out) hl1 hK
      have hset : (m.take i ++ List.replicate (m.length - i) []).set i m[i] = m.take (i + 1) ++ List.replicate (m.length - (i + 1)) [] := by
        rw [List.set_append_right _ _ (by rw [List.length_take]; omega), List.length_take, Nat.min_eq_left hi', Nat.sub_self, show m.length - i = (m.length - (i + 1)) + 1 by omega, List.replicate_succ, List.set_cons_zero, List.take_succ_eq_append_getElem hlt, List.append_assoc]
        rfl
      have HU := Aside0.mk hu
      have HC2 := Aside0.mk hc
      have HF2 := Aside0.mk hf
      have HS := Aside0.mk hset
      have HL := Aside0.mk hlen
      clear hM hlen hu hset hx hc hf hr1 hK
      injection hv with hv1 hv2 hv3
      injection hv1 with hv1
      injection hv1 with hv1 _ _
      subst hv1
      clear hv2 hv3
      go_wp2_with (first
        | (go_at_call 14; refine hcall.mono ?_; rintro e w1 ⟨v1, rfl, hR1, hb1⟩; obtain ⟨A9, c9, rfl⟩ := Kd.R_slice hR1; have hc2 := pw_cell_below hb1 HC2.out; have hf2 := (hb1.frozen (World.block_lt_of_cell? _ _ HC2.out)).trans HF2.out; have HB1 := Aside0.mk hb1; have HR1 := Aside0.mk hR1; clear hb1 hR1)
        | ((with_reducible refine gate_store (t := 23) (p := 21) rfl ?_); refine store_event (t := 23) (p := 21) (v := ?vo) (w1 := (w1.setCell ⟨g, i, none⟩ (.slice A9 m[i].length c9))) ?hg ?ho ?hn ?hr ?_; (case ho => rfl); (case hg => rfl); (case hn => rfl); (case hr => first | (go_simp; done) | (go_simp; rfl)); intro w2 hw; have HW2 := Aside0.mk hw; clear hw hc2 hf2))
      have hlo := HB.out.size
      have hX1 := (HX.out.below HB1.out).widen (Nat.le_refl _) HB1.out.size
      have hR2 := Mx.row_made HR1.out hlo
      have hp := Mx.Mx.place (by rw [HL.out]; exact hX1) (by decide) (i := i) (by rw [HL.out]; exact hlt) hR2 (fun j u hu => HX.out.new HR1.out j u hu)
      rw [HL.out, HS.out, ← HW2.out] at hp
      have hb2 := hp.2.below (HB.out.trans (HB1.out.mono hlo)) (Nat.le_trans hlo HB1.out.size) hg0
      have hp1 := hp.1
      rw [show w1.heap.size = w2.heap.size by rw [HW2.out]; simp [World.setCell]] at hp1
      have HX2 := Aside0.mk hp1
      have HB2 := Aside0.mk hb2
      clear hX1 hR2 hp hp1 hb2 hlo
      go_roundg (m.length - (i + 1))
      case measure => omega
      case rel => exact ⟨i + 1, _, by omega, by omega, by go_num, HX2, HB2⟩
    · obtain rfl : i = m.length := by omega
      go_wp2
      go_ret
      have hx := HX.out
      rw [List.take_length, Nat.sub_self, List.replicate_zero, List.append_nil] at hx
      exact ⟨_, _, rfl, hx, HB.out⟩

theorem rows_len {w : World} {A : Option Addr} {n : Nat} {E : TypeId} {xs : List (List Int)} (h : Kd.C (Kd.slice E (Kd.int .i64)) w A n xs) : xs.length ≤ 9223372036854775807 ∧ ∀ r ∈ xs, r.length ≤ 9223372036854775807 := by
  have hn := h.1
  have hm := h.2.1
  refine ⟨by omega, fun r hr => ?_⟩
  obtain ⟨i, hi, rfl⟩ := List.getElem_of_mem hr
  obtain ⟨_, _, _, _, _, _, hC⟩ := Mx.rows_at h i (by omega) hi
  have := hC.2.1
  have := hC.1
  omega
theorem small_rows {m : List (List Int)} (h : m.length + tot m ≤ 1048576) : m.length ≤ 1048576 ∧ (∀ r ∈ m, r.length ≤ 1048576) ∧ tot m ≤ 1048576 := by
  have ht : ∀ (l : List (List Int)), ∀ r ∈ l, r.length ≤ tot l := by
    intro l
    induction l with
    | nil => intro r hr; cases hr
    | cons x l ih =>
      intro r hr
      rcases List.mem_cons.1 hr with rfl | hr
      · simp only [tot]; omega
      · have := ih r hr; simp only [tot]; omega
  exact ⟨by omega, fun r hr => by have := ht m r hr; omega, by omega⟩
theorem le_small {m : List (List Int)} {k : Nat} (h : m.length ≤ k ∧ ∀ r ∈ m, r.length ≤ k) (hk : k ≤ 1000 := by decide) : m.length ≤ 1000 ∧ ∀ r ∈ m, r.length ≤ 1000 := ⟨by omega, fun r hr => by have := h.2 r hr; omega⟩

theorem toSS_e {w0 w : World} {L : List (Value × Env.It)} (E : Env.Env 23 3 w0 w L) (A : Option Addr) (c : Nat) (m : List (List Int)) (hr0 : Kd.C (Kd.slice 3 (Kd.int .i64)) w0 A m.length m) (hc0 : m.length ≤ c) (hml : m.length ≤ 1048576) (hrow : ∀ r ∈ m, r.length ≤ 1048576) :
    Calls Try.prog 13 #[.slice A m.length c] w fun e w' => ∃ A1 c1, e = .returned (.slice A1 m.length c1) ∧ Env.Env 23 3 w0 w' ((.slice A1 m.length c1, .mat m) :: L) :=
  (toSS_calls A c m w (E.came hr0) hc0 hml hrow).mono fun e w' ⟨v, vs, he, hM, hb⟩ => by
    obtain ⟨A1, c1, hv, _, _⟩ := hM.C (by decide)
    subst hv
    exact ⟨A1, c1, he, E.mx hM hb⟩

theorem toS_e {w0 w : World} {L : List (Value × Env.It)} (E : Env.Env 23 3 w0 w L) (A : Option Addr) (c : Nat) (x : List Int) (hr0 : Kd.C (Kd.int .i64) w0 A x.length x) (hc0 : x.length ≤ c) (hxl : x.length ≤ 1048576) :
    Calls Try.prog 14 #[.slice A x.length c] w fun e w' => ∃ A1 c1, e = .returned (.slice A1 x.length c1) ∧ Env.Env 23 3 w0 w' ((.slice A1 x.length c1, .row x) :: L) := by
  obtain ⟨K, hK⟩ := (laws_toIntS_ev x hxl).rounds
  exact (laws_toIntS.calls K A c x x w (E.camer hr0) hc0 hK).mono fun e w' ⟨v, he, hR, hb⟩ => by
    obtain ⟨A1, c1, hv, hE⟩ := E.madeR hR hb
    subst hv
    exact ⟨A1, c1, he, hE⟩

theorem sz_c (A : Option Addr) (c : Nat) (m : List (List Int)) (a : Int) (w : World) (hr0 : Kd.C (Kd.slice 3 (Kd.int .i64)) w A m.length m) (hc0 : m.length ≤ c) (h0 : 0 ≤ a) (h1 : a ≤ 1048576) :
    Calls Try.prog 11 #[.slice A m.length c, .int .i64 a] w fun e w' => e = .returned (.int .i64 (szV m a)) ∧ Below w.heap.size w w' := by
  have hb := rows_len hr0
  obtain ⟨K, hK⟩ := (laws_szIntSS_ev m hb.1 hb.2 a h0 h1).rounds
  exact (laws_szIntSS.calls K A c m a _ w hr0 hc0 hK).mono fun e w' ⟨he, hd⟩ => ⟨he, hd.below⟩
theorem szV_big {m : List (List Int)} {a : Int} (h : a < (m.length + tot m : Nat)) : szV m a = -1 := by unfold szV; rw [if_pos (by omega)]
theorem szV_ok {m : List (List Int)} {a : Int} (h : ¬ a < (m.length + tot m : Nat)) : szV m a = a - (m.length + tot m : Nat) := by unfold szV; rw [if_neg (by omega)]

theorem eqSS_e {w0 w : World} {L : List (Value × Env.It)} (E : Env.Env 23 3 w0 w L) (i j : Nat) {A1 A2 : Option Addr} {c1 c2 : Nat} {it1 it2 : Env.It} {m : List (List Int)} (hi : L[i]? = some (.slice A1 m.length c1, it1)) (hj : L[j]? = some (.slice A2 m.length c2, it2)) (hm1 : it1.rows = some m) (hm2 : it2.rows = some m) (hl : m.length ≤ 1048576) (hr : ∀ r ∈ m, r.length ≤ 1048576) :
    Calls Try.prog 17 #[.slice A1 m.length c1, .slice A2 m.length c2] w fun e w' => e = .returned (.bool true) ∧ Env.Env 23 3 w0 w' L := by
  obtain ⟨K, hK⟩ := laws_eqIntSS_same m hl hr
  have h1 := E.Cq (by decide) i hi hm1
  have h2 := E.Cq (by decide) j hj hm2
  exact (laws_eqIntSS.calls K A1 c1 m A2 c2 m true w h1.2 h1.1 h2.2 h2.1 hK).mono fun e w' ⟨he, hd⟩ => ⟨he, E.below hd.below⟩

theorem eqS_e {w0 w : World} {L : List (Value × Env.It)} (E : Env.Env 23 3 w0 w L) (i j : Nat) {A1 A2 : Option Addr} {c1 c2 : Nat} {x : List Int} (hi : L[i]? = some (.slice A1 x.length c1, .row x)) (hj : L[j]? = some (.slice A2 x.length c2, .row x)) (hl : x.length ≤ 1048576) :
    Calls Try.prog 16 #[.slice A1 x.length c1, .slice A2 x.length c2] w fun e w' => e = .returned (.bool true) ∧ Env.Env 23 3 w0 w' L := by
  obtain ⟨K, hK⟩ := (laws_eqIntS_ev x x (by omega)).rounds
  rw [decide_eq_true rfl] at hK
  exact (laws_eqIntS.calls K A1 c1 x A2 c2 x true w (E.Cr i hi) (E.capr i hi) (E.Cr j hj) (E.capr j hj) hK).mono fun e w' ⟨he, hd⟩ => ⟨he, E.below hd.below⟩

set_option maxHeartbeats 4000000 in
set_option maxRecDepth 100000 in
/-- All places of rows of one's own are numbered: they are apart, so each keeps its number. -/
theorem markSS_calls (lo hi : Nat) (A : Option Addr) (c : Nat) (m : List (List Int)) (vs : List Value) (a : Nat) (w0 w : World) (hB : Below w0.heap.size w0 w) (hlo : w0.heap.size ≤ lo) (hc0 : m.length ≤ c)
    (hM : Mx.Mx 23 3 w lo hi (.slice A m.length c) m vs) (hs : a + tot m ≤ 1000000000) (hr : ∀ r ∈ m, r.length ≤ 1048576) (hml : m.length ≤ 1048576) :
    Calls Try.prog 18 #[.slice A m.length c, .int .i64 (a : Int)] w fun e w' => e = .returned (.int .i64 ((a + tot m : Nat) : Int)) ∧ Mx.Mx 23 3 w' lo hi (.slice A m.length c) (marksS a m) vs ∧ Mx.Only lo hi w w' := by
  have HB := Aside0.mk hB
  have HM := Aside0.mk hM
  have HC := Aside0.mk hc0
  clear hB hM hc0
  go_enter Try.func18, Try.ntmps18
  go_wp2
  go_loopg [1, 5] m.length (fun gg s1 s5 wr => ∃ i : Nat, i ≤ m.length ∧ m.length - i ≤ gg ∧ s5 = .int .i64 i ∧ s1 = .int .i64 ((a + tot (m.take i) : Nat) : Int) ∧ Aside0 (Mx.Mx 23 3 wr lo hi (.slice A m.length c) (marksS a (m.take i) ++ m.drop i) vs) ∧ Aside0 (Mx.Only lo hi w wr))
  case atStart => exact ⟨0, Nat.zero_le _, by omega, rfl, by simp [tot], ⟨by simpa [marksS] using HM.out⟩, ⟨Mx.Only.refl _ _ _⟩⟩
  case round =>
    obtain ⟨i, hi', hg, rfl, rfl, HX, HO⟩ := hrel
    by_cases hlt : i < m.length
    · have hM := HX.out
      have hlen : (marksS a (m.take i) ++ m.drop i).length = m.length := by rw [List.length_append, marksS_length, ← List.length_append, List.take_append_drop]
      have hat : (marksS a (m.take i) ++ m.drop i)[i]? = some m[i] := by
        rw [List.getElem?_append_right (by rw [marksS_length, List.length_take]; omega), marksS_length, List.length_take, Nat.min_eq_left hi', Nat.sub_self, List.drop_eq_getElem_cons hlt]; rfl
      obtain ⟨u, hu⟩ := hM.at_ (i := i) (by rw [hlen]; exact hlt)
      have hrow := hM.row i m[i] u hat hu
      obtain ⟨g, cap, hv, hg0, hg1, _, _, hcell⟩ := hM.cells (by rw [hlen]; omega)
      have hc := (hcell i u hu).1
      clear hcell
      obtain ⟨K, hK⟩ := (laws_markIntS_ev m[i] (a + tot (m.take i)) (hr _ (List.getElem_mem hlt)) (by have := tot_take m i; omega)).rounds
      have hcall := laws_markIntS.calls K (fun k => some k = u.ownBlock) u m[i] _ _ _ w0 wr (HO.out.below HB.out HB.out.size hlo) (Kd.R_lower (Kd.R_tight rfl hrow) hlo) hK
      have hset : (marksS a (m.take i) ++ m.drop i).set i (marks (a + tot (m.take i)) m[i].length) = marksS a (m.take (i + 1)) ++ m.drop (i + 1) := by
        rw [List.set_append_right _ _ (by rw [marksS_length, List.length_take]; omega), marksS_length, List.length_take, Nat.min_eq_left hi', Nat.sub_self, List.drop_eq_getElem_cons hlt, List.set_cons_zero, List.take_succ_eq_append_getElem hlt, marksS_append, List.append_assoc]
        rfl
      have ht := tot_succ m i hlt
      obtain ⟨Au, cu, hus⟩ := Kd.R_slice hrow
      have HU := Aside0.mk hu
      have HR := Aside0.mk hrow
      have HA := Aside0.mk hat
      have HS := Aside0.mk hset
      have HT := Aside0.mk ht
      clear hM hlen hat hu hrow hK hset ht
      injection hv with hv1 hv2 hv3
      subst hv1
      clear hv2 hv3
      subst hus
      go_wp2_with (go_at_call 19; refine hcall.mono ?_; rintro e w1 ⟨rfl, hR1, hb1, hk1⟩)
      go_roundg (m.length - (i + 1))
      case measure => omega
      case rel =>
        refine ⟨i + 1, by omega, by omega, by go_num, by rw [HT.out]; congr 1; omega, ⟨?_⟩, ⟨HO.out.trans ?_⟩⟩
        · rw [← HS.out]
          exact HX.out.put (by decide) HU.out (fun k hk hne => hk1.2 k hk (fun he => hne he)) (Mx.row_base hR1 (fun k hk => ⟨(Mx.row_lo HR.out k hk).1, (Mx.row_lo HR.out k hk).2.1⟩))
        · exact Mx.Only.of_kept (HO.out.below HB.out HB.out.size hlo) hb1 hk1 (fun k hk => ⟨(Mx.row_lo HR.out k hk.symm).1, (Mx.row_lo HR.out k hk.symm).2.1⟩)
    · obtain rfl : i = m.length := by omega
      go_wp2
      go_ret
      have hx := HX.out
      rw [List.take_length, List.drop_length, List.append_nil] at hx
      exact ⟨by first | rfl | simp, hx, HO.out⟩
theorem markSS_one (lo hi : Nat) (A : Option Addr) (c : Nat) (m : List (List Int)) (vs : List Value) (w0 w : World) (hB : Below w0.heap.size w0 w) (hlo : w0.heap.size ≤ lo)
    (hM : Mx.Mx 23 3 w lo hi (.slice A m.length c) m vs) (hl : m.length ≤ 100) (hr : ∀ r ∈ m, r.length ≤ 1048576) (hs : tot m ≤ 100000000) :
    Calls Try.prog 18 #[.slice A m.length c, .int .i64 1] w fun e w' => e = .returned (.int .i64 ((1 + tot m : Nat) : Int)) ∧ Mx.Mx 23 3 w' lo hi (.slice A m.length c) (marksS 1 m) vs ∧ Mx.Only lo hi w w' := by
  have := markSS_calls lo hi A c m vs 1 w0 w hB hlo (hM.C' (by decide)).2.1 hM (by omega) hr (by omega)
  rwa [show ((1 : Nat) : Int) = 1 from rfl] at this

theorem markSS_e {w0 w : World} {L : List (Value × Env.It)} (E : Env.Env 23 3 w0 w L) (i : Nat) {A : Option Addr} {c : Nat} {m : List (List Int)} (hi : L[i]? = some (.slice A m.length c, .mat m)) (a : Nat) (z : Int) (hz : z = (a : Int)) (n : Nat) (hn : n = a + tot m) (hml : m.length ≤ 1048576) (hr : ∀ r ∈ m, r.length ≤ 1048576) (hs : n ≤ 1000000000) :
    Calls Try.prog 18 #[.slice A m.length c, .int .i64 z] w fun e w' => e = .returned (.int .i64 (n : Int)) ∧ Env.Env 23 3 w0 w' (L.set i (.slice A m.length c, .mat (marksS a m))) := by
  subst hz hn
  obtain ⟨lo, hi', h1, h2, ⟨vs, hM⟩, h4⟩ := E.turn i hi
  exact (markSS_calls lo hi' A c m vs a w0 w E.1 h1 (hM.C' (by decide)).2.1 hM hs hr hml).mono fun e w' ⟨he, hM', ho⟩ => ⟨he, h4 w' (.mat (marksS a m)) ho ⟨vs, hM'⟩⟩

theorem markS_e {w0 w : World} {L : List (Value × Env.It)} (E : Env.Env 23 3 w0 w L) (i : Nat) {A : Option Addr} {c : Nat} {x : List Int} (hi : L[i]? = some (.slice A x.length c, .row x)) (a : Nat) (z : Int) (hz : z = (a : Int)) (n : Nat) (hn : n = a + x.length) (hl : x.length ≤ 1048576) (hs : n ≤ 500000000) :
    Calls Try.prog 19 #[.slice A x.length c, .int .i64 z] w fun e w' => e = .returned (.int .i64 (n : Int)) ∧ Env.Env 23 3 w0 w' (L.set i (.slice A x.length c, .row (marks a x.length))) := by
  subst hz hn
  obtain ⟨lo, hi', h1, h2, hR, h4⟩ := E.turn i hi
  obtain ⟨K, hK⟩ := (laws_markIntS_ev x a hl (by omega)).rounds
  have hcall := laws_markIntS.calls K (fun k => some k = (Value.slice A x.length c).ownBlock) (.slice A x.length c) x _ _ _ w0 w E.1 (Kd.R_lower (Kd.R_tight rfl hR) h1) hK
  refine hcall.mono fun e w' => ?_
  rintro ⟨he, hR1, hb1, hk1⟩
  refine ⟨he, h4 w' (.row (marks a x.length)) (Mx.Only.of_kept E.1 hb1 hk1 (fun k hk => ?_)) (Mx.row_base hR1 (fun k hk => ?_))⟩
  · exact ⟨(Mx.row_lo hR k hk.symm).1, (Mx.row_lo hR k hk.symm).2.1⟩
  · exact ⟨(Mx.row_lo hR k hk).1, (Mx.row_lo hR k hk).2.1⟩

theorem heldS_e {w0 w : World} {L : List (Value × Env.It)} (E : Env.Env 23 3 w0 w L) (i : Nat) {A : Option Addr} {c : Nat} {x : Nat} (a : Nat) (hi : L[i]? = some (.slice A x c, .row (marks a x))) (z : Int) (hz : z = (a : Int)) (n : Nat) (hn : n = a + x) (hs : n ≤ 1000000000) :
    Calls Try.prog 20 #[.slice A x c, .int .i64 z] w fun e w' => e = .returned (.int .i64 (n : Int)) ∧ Env.Env 23 3 w0 w' L := by
  subst hz hn
  obtain ⟨K, hK⟩ := (laws_heldIntS_ev a x (by omega)).rounds
  have hC := E.Cr i hi
  have := laws_heldIntS.calls K A c (marks a x) (a : Int) _ w hC (by rw [marks_length]; exact E.capr i hi) hK
  rw [marks_length] at this
  exact this.mono fun e w' ⟨he, hd⟩ => ⟨he, E.below hd.below⟩

def invV (l : List (List Int)) : List (List Int) × Bool := if goodM l && decide (l.length = (l.getD 0 []).length) then (match Mat.inv (dnM l) with
  | none => ([], false)
  | some s => (upM s, true)) else ([], false)
theorem inv_MB {n : Nat} {m t : List (List Nat)} (h : Mat.MB' n m) (hn : m.length = n) (ht : Mat.inv m = some t) : Mat.MB' n t ∧ t.length = n := by
  subst hn
  unfold Mat.inv at ht
  split at ht
  · cases ht
  · injection ht with ht
    subst ht
    exact ⟨Mat.sv2_MB _ _ _ h (Mat.idM_MB m.length) (Mat.idM_length _), Mat.sv2_length _ _ _ (Mat.idM_length _)⟩
theorem invV_small (l : List (List Int)) : (invV l).1.length ≤ 8 ∧ ∀ r ∈ (invV l).1, r.length ≤ 8 := by
  unfold invV
  split
  · rename_i h
    rw [Bool.and_eq_true, decide_eq_true_eq] at h
    obtain ⟨c, m, rfl, hm, e1, e2, h1, h2, h3, h4⟩ := goodM_up h.1
    rw [dnM_upM]
    have hc : m.length = c := by have := h.2; rw [e1, upM_length] at this; exact this
    split
    · exact ⟨by simp, fun r hr => by cases hr⟩
    · rename_i t ht
      have h9 := inv_MB hm hc ht
      exact upM_small h9.1 (by omega) (by omega)
  · exact ⟨by simp, fun r hr => by cases hr⟩

theorem set_same {α : Type} {l : List α} {j : Nat} {x : α} (h : l[j]? = some x) : l.set j x = l := by
  apply List.ext_getElem?
  intro i
  by_cases e : j = i
  · subst e; rw [Env.set_at h, h]
  · rw [List.getElem?_set_ne e]
set_option maxHeartbeats 4000000 in
theorem l2swap_e {w0 w : World} {L : List (Value × Env.It)} (E : Env.Env 23 3 w0 w L) (j : Nat) {A : Option Addr} {c : Nat} {m : List (List Nat)} (hj : L[j]? = some (.slice A m.length c, .mat (upM m))) {a b : Nat} (ha : a < m.length) (hb : b < m.length) :
    Calls Try.prog 172 #[.slice A m.length c, .int .i64 (a : Int), .int .i64 (b : Int)] w fun e w' => e = .returned (.tuple #[]) ∧ Env.Env 23 3 w0 w' (L.set j (.slice A m.length c, .mat (upM (Mat.swp m a b)))) := by
  obtain ⟨g, Aa, ca, Ab, cb, hA', hca, hfa, hcb, hfb, hsw⟩ := E.mswap (by decide) hj (a := a) (b := b) (by rw [upM_length]; exact ha) (by rw [upM_length]; exact hb)
  subst hA'
  rw [upM_getD] at hca
  rw [upM_getD] at hcb
  rw [upM_getD, upM_getD, upM_set, upM_set] at hsw
  have HSW := Aside0.mk (show Env.Env 23 3 w0 _ (L.set j (.slice (some ⟨g, 0, none⟩) m.length c, .mat (upM (Mat.swp m a b)))) from hsw)
  generalize m.getD a [] = ra at hca HSW
  generalize m.getD b [] = rb at hcb HSW
  have i1 : ((a : Int) < (m.length : Int)) = True := eq_true (by omega)
  have i2 : ((b : Int) < (m.length : Int)) = True := eq_true (by omega)
  have i3 : (0 ≤ (a : Int)) = True := eq_true (by omega)
  have i4 : (0 ≤ (b : Int)) = True := eq_true (by omega)
  have i5 : (a < m.length) = True := eq_true ha
  have i6 : (b < m.length) = True := eq_true hb
  have hcb2 : (w.setCell ⟨g, a, none⟩ (.slice Ab (Poly.up rb).length cb)).cell? ⟨g, b, none⟩ = some (.slice Ab (Poly.up rb).length cb) := Env.cell_both hcb
  clear hsw
  go_enter Try.func172, Try.ntmps172
  go_wp2
  refine bodyPost_end (results_none rfl _ _ _) rfl ?_
  exact ⟨rfl, HSW.out⟩
set_option maxHeartbeats 8000000 in
theorem l2scale_e {w0 w : World} {L : List (Value × Env.It)} (E : Env.Env 23 3 w0 w L) (j : Nat) {g c : Nat} {m : List (List Nat)} (hj : L[j]? = some (.slice (some ⟨g, 0, none⟩) m.length c, .mat (upM m))) {cc : Nat} (hm : Mat.MB' cc m) (hc : cc ≤ 100) {i : Nat} (hi : i < m.length) {gu cu : Nat} (hh : w.cell? ⟨g, i, none⟩ = some (.slice (some ⟨gu, 0, none⟩) cc cu)) (x : Nat) (hx : x < 256) :
    Calls Try.prog 173 #[.slice (some ⟨gu, 0, none⟩) cc cu, .int .i64 (x : Int)] w fun e w' => e = .returned (.tuple #[]) ∧ Env.Env 23 3 w0 w' (L.set j (.slice (some ⟨g, 0, none⟩) m.length c, .mat (upM (m.set i (Mat.rscale (Gf.gi x) (m.getD i [])))))) := by
  obtain ⟨R, hR⟩ : ∃ R, R = m.getD i [] := ⟨_, rfl⟩
  rw [← hR]
  have HRB := Aside0.mk (show R.length = cc ∧ Poly.AllB R from by rw [hR]; exact hm.get hi)
  have HSZ := Aside0.mk (show cc ≤ 100 ∧ x < 256 from ⟨hc, hx⟩)
  have HJ := Aside0.mk (show ∀ Z, (L.set j (.slice (some ⟨g, 0, none⟩) m.length c, .mat (upM Z)))[j]? = some (.slice (some ⟨g, 0, none⟩) m.length c, Env.It.mat (upM Z)) from fun Z => Env.set_at hj)
  have HE := Aside0.mk (show Env.Env 23 3 w0 w (L.set j (.slice (some ⟨g, 0, none⟩) m.length c, .mat (upM (m.set i (Mat.rscaleTo (Gf.gi x) R 0))))) from by rw [Mat.rscaleTo_zero, hR, Mat.set_self, set_same hj]; exact E)
  have HH := Aside0.mk hh
  have HIL := Aside0.mk hi
  clear E hR hm hc hx hj hh hi
  go_enter Try.func173, Try.ntmps173
  go_wp2
  go_loopg [8] cc (fun gg s8 wq => ∃ q : Nat, q ≤ cc ∧ cc - q ≤ gg ∧ s8 = .int .i64 q ∧ Aside0 (Env.Env 23 3 w0 wq (L.set j (.slice (some ⟨g, 0, none⟩) m.length c, .mat (upM (m.set i (Mat.rscaleTo (Gf.gi x) R q)))))) ∧ Aside0 (wq.cell? ⟨g, i, none⟩ = some (.slice (some ⟨gu, 0, none⟩) cc cu)))
  case atStart => exact ⟨0, Nat.zero_le _, by omega, rfl, HE, HH⟩
  case round =>
    clear HE HH
    obtain ⟨q, hq', hgq, rfl, HSQ, HHK⟩ := hrel
    have x0 : (0 : Int) ≤ (q : Int) := by omega
    have x1 : (q : Int) ≤ 100 := by have := HSZ.out; omega
    by_cases hqc : q < cc
    · have hqR : q < R.length := by rw [HRB.out.1]; exact hqc
      have hYl : (m.set i (Mat.rscaleTo (Gf.gi x) R q)).length = m.length := List.length_set
      have hYi : (m.set i (Mat.rscaleTo (Gf.gi x) R q)).getD i [] = Mat.rscaleTo (Gf.gi x) R q := by rw [Mat.getD_setL _ _ _ _ HIL.out, if_pos rfl]
      have hrl2 : (Poly.up (Mat.rscaleTo (Gf.gi x) R q)).length = cc := by rw [Poly.up_length, Mat.rscaleTo_length, HRB.out.1]
      obtain ⟨g', gu', cu', hA', hh, _, hx, _, hput⟩ := HSQ.out.mput2 (by decide) (HJ.out _) (i := i) (q := q) (by rw [upM_length, hYl]; exact HIL.out) (by rw [upM_getD, hYi, hrl2]; exact hqc)
      injection hA' with hA'
      injection hA' with hA'
      subst hA'
      rw [upM_getD, hYi, hrl2] at hh
      have hne := HSQ.out.mne (by decide) (HJ.out _) (i := i) (by rw [upM_length, hYl]; exact HIL.out) hh
      have hk2 := hh.symm.trans HHK.out
      injection hk2 with hk2
      injection hk2 with hk3 _ hk4
      injection hk3 with hk3
      injection hk3 with hk3
      subst hk3 hk4
      rw [upM_getD, hYi, Poly.rd_up, Mat.rscaleTo_at _ hqR] at hx
      have hyb : R.getD q 0 < 256 := Poly.AllB.get HRB.out.2 q
      have hset : (upM (m.set i (Mat.rscaleTo (Gf.gi x) R q))).set i ((Poly.up (Mat.rscaleTo (Gf.gi x) R q)).set q ((Gf.gm (R.getD q 0) (Gf.gi x) : Nat) : Int)) = upM (m.set i (Mat.rscaleTo (Gf.gi x) R (q + 1))) := by rw [Poly.up_set, Mat.rscaleTo_succ _ hqR, upM_set, List.set_set]
      have hput2 : ∀ W, Below wr.heap.size wr W → (∃ v, W.cell? ⟨gu', q, none⟩ = some v) ∧ W.frozen? ⟨gu', q, none⟩ = false ∧ Env.Env 23 3 w0 (W.setCell ⟨gu', q, none⟩ (.int .i64 ((Gf.gm (R.getD q 0) (Gf.gi x) : Nat) : Int))) (L.set j (.slice (some ⟨g, 0, none⟩) m.length c, .mat (upM (m.set i (Mat.rscaleTo (Gf.gi x) R (q + 1)))))) ∧ (W.setCell ⟨gu', q, none⟩ (.int .i64 ((Gf.gm (R.getD q 0) (Gf.gi x) : Nat) : Int))).cell? ⟨g, i, none⟩ = some (.slice (some ⟨gu', 0, none⟩) cc cu') := fun W hW => by
        have h8 := hput W hW
        have h9 := h8.2.2 ((Gf.gm (R.getD q 0) (Gf.gi x) : Nat) : Int)
        rw [upM_getD, hYi, hset, List.set_set] at h9
        exact ⟨⟨_, h8.1⟩, h8.2.1, h9, Env.cell_far (pw_cell_below hW hh) hne⟩
      have HPW := Aside0.mk hput2
      obtain ⟨K2, h2⟩ := (spec_l1Div_ev (R.getD q 0) x hyb HSZ.out.2).rounds
      have HK2 := Aside0.mk h2
      have j1 : ((q : Int) < (cc : Int)) = True := eq_true (by omega)
      have j2 : (q < cc) = True := eq_true hqc
      generalize R.getD q 0 = y at hx HPW HK2
      clear hput hput2 hset hyb h2 hh hne hqR hrl2 hYl hYi HHK HSQ
      go_wp2_with (go_at_call 197; refine (spec_l1Div.calls K2 (y : Int) (x : Int) _ _ HK2.out).mono ?_; rintro e w4 ⟨rfl, hd4⟩; obtain ⟨⟨v4, hv4⟩, hf4, hE4, hC4⟩ := HPW.out w4 hd4.below; have HE4 := Aside0.mk hE4; have HC4 := Aside0.mk hC4; clear hE4 hC4 hd4)
      go_roundg (cc - (q + 1))
      case measure => omega
      case rel => exact ⟨q + 1, by omega, by omega, by go_num, HE4, HC4⟩
    · have j1 : ((q : Int) < (cc : Int)) = False := eq_false (by omega)
      have hqe : q = R.length := by rw [HRB.out.1]; omega
      have HE6 := Aside0.mk (show Env.Env 23 3 w0 wr (L.set j (.slice (some ⟨g, 0, none⟩) m.length c, .mat (upM (m.set i (Mat.rscale (Gf.gi x) R))))) from by
        have h9 := HSQ.out
        rw [hqe, Mat.rscaleTo_all] at h9
        exact h9)
      clear hqe HSQ HHK
      go_wp2
      refine bodyPost_end (results_none rfl _ _ _) rfl ?_
      exact ⟨rfl, HE6.out⟩
def T_sa3 : Bool × List (List Nat × List Nat) := (true, [([], []), ([], []), ([0, 1], [0, 1]), ([2], [2]), ([], []), ([], []), ([4, 5], [4, 5]), ([3, 6], [3, 6]), ([0, 1, 0, 1, 2, 3, 4, 5, 6, 7], [0, 1]), ([8, 7, 6, 0, 1, 2, 3, 4, 5, 6, 7], [7, 8])])
def B_sa3 : List Nat := [0, 0, 3, 7, 0, 0, 48, 127, 255, 511]
theorem tab_sa3 : rtab .any (opsOf Try.f131 3) = T_sa3 := by kernel_rfl
theorem bits_sa3 : waitsOk T_sa3.2 B_sa3 = true := by kernel_rfl
set_option maxHeartbeats 8000000 in
set_option maxRecDepth 100000 in
theorem l2addM_e {w0 w : World} {L : List (Value × Env.It)} (E : Env.Env 23 3 w0 w L) (j : Nat) {g c : Nat} {m : List (List Nat)} (hj : L[j]? = some (.slice (some ⟨g, 0, none⟩) m.length c, .mat (upM m))) {cc : Nat} (hm : Mat.MB' cc m) (hc : cc ≤ 100) {i r : Nat} (hi : i < m.length) (hr : r < m.length) (hir : ¬ i = r) {gu cu gt ct : Nat} (hh : w.cell? ⟨g, i, none⟩ = some (.slice (some ⟨gu, 0, none⟩) cc cu)) (ht : w.cell? ⟨g, r, none⟩ = some (.slice (some ⟨gt, 0, none⟩) cc ct)) (x : Nat) (hx : x < 256) :
    Calls Try.prog 131 #[.slice (some ⟨gu, 0, none⟩) cc cu, .slice (some ⟨gt, 0, none⟩) cc ct, .int .i64 (x : Int)] w fun e w' => e = .returned (.tuple #[]) ∧ Env.Env 23 3 w0 w' (L.set j (.slice (some ⟨g, 0, none⟩) m.length c, .mat (upM (m.set i (Mat.radd x (m.getD i []) (m.getD r [])))))) := by
  obtain ⟨R, hR⟩ : ∃ R, R = m.getD i [] := ⟨_, rfl⟩
  obtain ⟨T, hT⟩ : ∃ T, T = m.getD r [] := ⟨_, rfl⟩
  rw [← hR, ← hT]
  have HRB := Aside0.mk (show R.length = cc ∧ Poly.AllB R from by rw [hR]; exact hm.get hi)
  have HTB := Aside0.mk (show T.length = cc ∧ Poly.AllB T from by rw [hT]; exact hm.get hr)
  have HSZ := Aside0.mk (show cc ≤ 100 ∧ x < 256 from ⟨hc, hx⟩)
  have HJ := Aside0.mk (show ∀ Z, (L.set j (.slice (some ⟨g, 0, none⟩) m.length c, .mat (upM Z)))[j]? = some (.slice (some ⟨g, 0, none⟩) m.length c, Env.It.mat (upM Z)) from fun Z => Env.set_at hj)
  have HE := Aside0.mk (show Env.Env 23 3 w0 w (L.set j (.slice (some ⟨g, 0, none⟩) m.length c, .mat (upM (m.set i (Mat.raddTo x R T 0))))) from by rw [Mat.raddTo_zero, hR, Mat.set_self, set_same hj]; exact E)
  have HH := Aside0.mk hh
  have HT := Aside0.mk ht
  have HIL := Aside0.mk hi
  have HRL := Aside0.mk hr
  have HYR := Aside0.mk (show ∀ X, (m.set i X).getD r [] = T from fun X => by rw [Mat.getD_setL _ _ _ _ hi, if_neg (fun h => hir h.symm), hT])
  clear E hR hT hm hc hx hj hh ht hi hr hir
  go_enter Try.func131, Try.ntmps131
  go_wp2
  go_loopg [10] cc (fun gg s10 wq => ∃ q : Nat, q ≤ cc ∧ cc - q ≤ gg ∧ s10 = .int .i64 q ∧ Aside0 (Env.Env 23 3 w0 wq (L.set j (.slice (some ⟨g, 0, none⟩) m.length c, .mat (upM (m.set i (Mat.raddTo x R T q)))))) ∧ Aside0 (wq.cell? ⟨g, i, none⟩ = some (.slice (some ⟨gu, 0, none⟩) cc cu)) ∧ Aside0 (wq.cell? ⟨g, r, none⟩ = some (.slice (some ⟨gt, 0, none⟩) cc ct)))
  case atStart => exact ⟨0, Nat.zero_le _, by omega, rfl, HE, HH, HT⟩
  case round =>
    clear HE HH HT
    obtain ⟨q, hq', hgq, rfl, HSQ, HHK, HTK⟩ := hrel
    have x0 : (0 : Int) ≤ (q : Int) := by omega
    have x1 : (q : Int) ≤ 100 := by have := HSZ.out; omega
    have hRT : R.length = T.length := by rw [HRB.out.1, HTB.out.1]
    by_cases hqc : q < cc
    · have hqR : q < R.length := by rw [HRB.out.1]; exact hqc
      have hYl : (m.set i (Mat.raddTo x R T q)).length = m.length := List.length_set
      have hYi : (m.set i (Mat.raddTo x R T q)).getD i [] = Mat.raddTo x R T q := by rw [Mat.getD_setL _ _ _ _ HIL.out, if_pos rfl]
      have hrl2 : (Poly.up (Mat.raddTo x R T q)).length = cc := by rw [Poly.up_length, Mat.raddTo_length hRT, HRB.out.1]
      have HQ := HSQ.out.drewN 1
      obtain ⟨g', gu', cu', hA', hh, _, hx, _, hput⟩ := HQ.mput2 (by decide) (HJ.out _) (i := i) (q := q) (by rw [upM_length, hYl]; exact HIL.out) (by rw [upM_getD, hYi, hrl2]; exact hqc)
      injection hA' with hA'
      injection hA' with hA'
      subst hA'
      rw [upM_getD, hYi, hrl2] at hh
      have hne := HQ.mne (by decide) (HJ.out _) (i := i) (by rw [upM_length, hYl]; exact HIL.out) hh
      have hk2 := hh.symm.trans HHK.out
      injection hk2 with hk2
      injection hk2 with hk3 _ hk4
      injection hk3 with hk3
      injection hk3 with hk3
      subst hk3 hk4
      rw [upM_getD, hYi, Poly.rd_up, Mat.raddTo_at hRT hqR] at hx
      obtain ⟨g', gt', ct', hA', ht, _, htx, _, _⟩ := HQ.mput2 (by decide) (HJ.out _) (i := r) (q := q) (by rw [upM_length, hYl]; exact HRL.out) (by rw [upM_getD, HYR.out, Poly.up_length, HTB.out.1]; exact hqc)
      injection hA' with hA'
      injection hA' with hA'
      subst hA'
      rw [upM_getD, HYR.out, Poly.up_length, HTB.out.1] at ht
      have hk2 := ht.symm.trans HTK.out
      injection hk2 with hk2
      injection hk2 with hk3 _ hk4
      injection hk3 with hk3
      injection hk3 with hk3
      subst hk3 hk4
      rw [upM_getD, HYR.out, Poly.rd_up] at htx
      have hyb : R.getD q 0 < 256 := Poly.AllB.get HRB.out.2 q
      have htb : T.getD q 0 < 256 := Poly.AllB.get HTB.out.2 q
      have hxr := xor_up hyb (Gf.gm_lt (T.getD q 0) HSZ.out.2)
      have hset : (upM (m.set i (Mat.raddTo x R T q))).set i ((Poly.up (Mat.raddTo x R T q)).set q (Go.bits .xor .i64 ((R.getD q 0 : Nat) : Int) ((Gf.gm x (T.getD q 0) : Nat) : Int))) = upM (m.set i (Mat.raddTo x R T (q + 1))) := by rw [hxr, Poly.up_set, Mat.raddTo_succ hRT hqR, upM_set, List.set_set]
      have hput2 : ∀ W, Below wr.drew.heap.size wr.drew W → (∃ v, W.cell? ⟨gu', q, none⟩ = some v) ∧ W.frozen? ⟨gu', q, none⟩ = false ∧ Env.Env 23 3 w0 (W.setCell ⟨gu', q, none⟩ (.int .i64 (Go.bits .xor .i64 ((R.getD q 0 : Nat) : Int) ((Gf.gm x (T.getD q 0) : Nat) : Int)))) (L.set j (.slice (some ⟨g, 0, none⟩) m.length c, .mat (upM (m.set i (Mat.raddTo x R T (q + 1)))))) ∧ (W.setCell ⟨gu', q, none⟩ (.int .i64 (Go.bits .xor .i64 ((R.getD q 0 : Nat) : Int) ((Gf.gm x (T.getD q 0) : Nat) : Int)))).cell? ⟨g, i, none⟩ = some (.slice (some ⟨gu', 0, none⟩) cc cu') ∧ (W.setCell ⟨gu', q, none⟩ (.int .i64 (Go.bits .xor .i64 ((R.getD q 0 : Nat) : Int) ((Gf.gm x (T.getD q 0) : Nat) : Int)))).cell? ⟨g, r, none⟩ = some (.slice (some ⟨gt', 0, none⟩) cc ct') := fun W hW => by
        have h8 := hput W hW
        have h9 := h8.2.2 (Go.bits .xor .i64 ((R.getD q 0 : Nat) : Int) ((Gf.gm x (T.getD q 0) : Nat) : Int))
        rw [upM_getD, hYi, hset, List.set_set] at h9
        exact ⟨⟨_, h8.1⟩, h8.2.1, h9, Env.cell_far (pw_cell_below hW hh) hne, Env.cell_far (pw_cell_below hW ht) hne⟩
      have HPW := Aside0.mk hput2
      obtain ⟨K2, h2⟩ := (spec_l1Mul_ev (T.getD q 0) x htb HSZ.out.2).rounds
      rw [Gf.gm_comm htb HSZ.out.2] at h2
      have HK2 := Aside0.mk h2
      have j1 : ((q : Int) < (cc : Int)) = True := eq_true (by omega)
      have j2 : (q < cc) = True := eq_true hqc
      have hx0 : wr.drew.cell? ⟨gu', q, none⟩ = some (.int .i64 ((R.getD q 0 : Nat) : Int)) := hx
      have htw : wr.cell? ⟨gt', q, none⟩ = some (.int .i64 ((T.getD q 0 : Nat) : Int)) := htx
      generalize R.getD q 0 = y at hx0 HPW
      generalize T.getD q 0 = z at htw HPW HK2
      clear hput hput2 hset hxr hyb htb h2 hh hx ht htx hne HQ hqR hrl2 hRT hYl hYi HHK HTK HSQ
      go_wp2_with fail
      refine start_ (n := 10) (S := fun w' => w'.cell? ⟨gu', q, none⟩ = some (.int .i64 (y : Int))) (ds := [9]) #[false, false, false, false, false, false, false, false, false, false] (by kernel_rfl) rfl rfl (hx0) (fun hHeld => ?_); refine with_tabW tab_sa3 bits_sa3 (fun HT_ HW_ => ?_)
      generalize wr.drew = w5 at HPW hx0 hHeld ⊢
      refine pure_ (i := 0) (N := some 15) (v := ?_) (a' := ?_) #[true, false, false, false, false, false, false, false, false, false] rfl rfl (any_of HT_.out (by kernel_rfl)) (fun _ _ _ h => h) (Or.inl ⟨by rfl, ?_⟩) ?_ ?_
      rotate_left
      · intro w'
        go_simp
        with_reducible rfl
      rotate_left
      · simp only [Act.put, List.setIfInBounds_toArray, List.set_cons_zero, List.set_cons_succ, i64_w, i32_w]
        rfl
      refine pure_ (i := 1) (N := some 16) (v := ?_) (a' := ?_) #[true, true, false, false, false, false, false, false, false, false] rfl rfl (any_of HT_.out (by kernel_rfl)) (fun _ _ _ h => h) (Or.inl ⟨by rfl, ?_⟩) ?_ ?_
      rotate_left
      · intro w'
        go_simp
        with_reducible rfl
      rotate_left
      · simp only [Act.put, List.setIfInBounds_toArray, List.set_cons_zero, List.set_cons_succ, i64_w, i32_w]
        rfl
      refine pure_ (i := 2) (N := some 17) (v := ?_) (a' := ?_) #[true, true, true, false, false, false, false, false, false, false] rfl rfl (any_of HT_.out (by kernel_rfl)) (fun _ _ _ h => h) (Or.inl ⟨by rfl, ?_⟩) ?_ ?_
      rotate_left
      · intro w'
        go_simp
        with_reducible rfl
      rotate_left
      · simp only [Act.put, List.setIfInBounds_toArray, List.set_cons_zero, List.set_cons_succ, i64_w, i32_w]
        rfl
      refine pure_ (i := 4) (N := some 19) (v := ?_) (a' := ?_) #[true, true, true, false, true, false, false, false, false, false] rfl rfl (any_of HT_.out (by kernel_rfl)) (fun _ _ _ h => h) (Or.inl ⟨by rfl, ?_⟩) ?_ ?_
      rotate_left
      · intro w'
        go_simp
        with_reducible rfl
      rotate_left
      · simp only [Act.put, List.setIfInBounds_toArray, List.set_cons_zero, List.set_cons_succ, i64_w, i32_w]
        rfl
      refine pure_ (i := 5) (N := some 20) (v := ?_) (a' := ?_) #[true, true, true, false, true, true, false, false, false, false] rfl rfl (any_of HT_.out (by kernel_rfl)) (fun _ _ _ h => h) (Or.inl ⟨by rfl, ?_⟩) ?_ ?_
      rotate_left
      · intro w'
        go_simp
        with_reducible rfl
      rotate_left
      · simp only [Act.put, List.setIfInBounds_toArray, List.set_cons_zero, List.set_cons_succ, i64_w, i32_w]
        rfl
      refine take_ (i := 3) (N := some 18) (v := ?_) (a' := ?_) #[true, true, true, true, true, true, false, false, false, false] rfl rfl (take_ofW HT_.out HW_.out (by kernel_rfl)) (fun _ _ _ h => h) (Or.inl ⟨by rfl, ?_⟩) hHeld ?_ ?_
      rotate_left
      · intro w' s0
        go_simp
        with_reducible rfl
      rotate_left
      · simp only [Act.put, List.setIfInBounds_toArray, List.set_cons_zero, List.set_cons_succ, i64_w, i32_w]
        rfl
      refine one_ (i := 6) (N := some 21) #[true, true, true, true, true, true, true, false, false, false] rfl rfl (one_of HT_.out (by kernel_rfl)) (by decide) (fun K hK => ?_)
      refine goes_ Try.func163 (by kernel_rfl) rfl #[.int .i64 (z : Int), .int .i64 (x : Int)] (by rfl) rfl rfl (by (try simp only [List.map_toArray, List.map_cons, List.map_nil]); first | done | rfl | (simp only [List.length_drop, List.length_take]; rfl)) ?_
      refine (spec_l1Mul.calls K2 (z : Int) (x : Int) _ _ HK2.out).mono ?_
      rintro e w4 ⟨rfl, hd4⟩
      refine ⟨_, rfl, ?_⟩
      obtain ⟨⟨v4, hv4⟩, hf4, hE4, hC4, hD4⟩ := HPW.out w4 hd4.below
      have HE4 := Aside0.mk hE4
      have HC4 := Aside0.mk hC4
      have HD4 := Aside0.mk hD4
      have hS4 := pw_cell_below hd4.below hx0
      clear hE4 hC4 hD4 hd4 HPW HK2 hx0 htw
      refine hK.out _ _ hS4 (fun hHeld => ?_)
      clear hK K hS4
      refine norm_ (a' := ?_) ?_ ?_
      rotate_left
      · show Act.put _ (some 21) _ = _
        simp only [Act.put, List.setIfInBounds_toArray, List.set_cons_zero, List.set_cons_succ, i64_w, i32_w]
        rfl
      refine pure_ (i := 7) (N := some 22) (v := ?_) (a' := ?_) #[true, true, true, true, true, true, true, true, false, false] rfl rfl (any_of HT_.out (by kernel_rfl)) (fun _ _ _ h => h) (Or.inl ⟨by rfl, ?_⟩) ?_ ?_
      rotate_left
      · intro w'
        go_simp
        with_reducible rfl
      rotate_left
      · simp only [Act.put, List.setIfInBounds_toArray, List.set_cons_zero, List.set_cons_succ, i64_w, i32_w]
        rfl
      refine pure_ (i := 8) (N := some 23) (v := ?_) (a' := ?_) #[true, true, true, true, true, true, true, true, true, false] rfl rfl (any_of HT_.out (by kernel_rfl)) (fun _ _ _ h => h) (Or.inl ⟨by rfl, ?_⟩) ?_ ?_
      rotate_left
      · intro w'
        go_simp
        with_reducible rfl
      rotate_left
      · simp only [Act.put, List.setIfInBounds_toArray, List.set_cons_zero, List.set_cons_succ, i64_w, i32_w]
        rfl
      refine last_ (i := 9) (N := none) #[true, true, true, true, true, true, true, true, true, true] rfl rfl (one_of HT_.out (by kernel_rfl)) (by decide) (fun K hK => ?_)
      refine skip_ (w1 := ?_) (by rfl) rfl ?_ ?_
      rotate_left
      · go_simp
        rfl
      refine hK.out _ _ ?_
      clear hK K
      refine done_ (done_of HT_.out (by kernel_rfl)) ?_
      go_wp2
      go_roundg (cc - (q + 1))
      case measure => omega
      case rel => exact ⟨q + 1, by omega, by omega, by go_num, HE4, HC4, HD4⟩
    · have j1 : ((q : Int) < (cc : Int)) = False := eq_false (by omega)
      have hqe : q = R.length := by rw [HRB.out.1]; omega
      have HE6 := Aside0.mk (show Env.Env 23 3 w0 wr (L.set j (.slice (some ⟨g, 0, none⟩) m.length c, .mat (upM (m.set i (Mat.radd x R T))))) from by
        have h9 := HSQ.out
        rw [hqe, Mat.raddTo_all hRT] at h9
        exact h9)
      clear hqe hRT HSQ HHK HTK
      go_wp2
      refine bodyPost_end (results_none rfl _ _ _) rfl ?_
      exact ⟨rfl, HE6.out⟩

def pvz (k i : Nat) (m : List (List Nat)) : Int := match Mat.pv k (m.drop i) with
  | none => -1
  | some p => (i : Int) + (p : Int)
theorem pvz_end {k n : Nat} {m : List (List Nat)} (h : m.length = n) : pvz k n m = -1 := by
  unfold pvz
  rw [List.drop_eq_nil_of_le (by omega)]; rfl
theorem pvz_step {k i : Nat} {m : List (List Nat)} (h : i < m.length) : pvz k i m = if (m.getD i []).getD k 0 ≠ 0 then (i : Int) else pvz k (i + 1) m := by
  have e : m.getD i [] = m[i] := by rw [List.getD_eq_getElem?_getD, List.getElem?_eq_getElem h]; rfl
  have e2 : Mat.pv k (m[i] :: m.drop (i + 1)) = if m[i].getD k 0 ≠ 0 then some 0 else (Mat.pv k (m.drop (i + 1))).map (· + 1) := rfl
  unfold pvz
  rw [List.drop_eq_getElem_cons h, e, e2]
  by_cases h0 : m[i].getD k 0 ≠ 0
  · rw [if_pos h0, if_pos h0]; show (i : Int) + ((0 : Nat) : Int) = _; omega
  · rw [if_neg h0, if_neg h0]
    cases Mat.pv k (m.drop (i + 1)) with
    | none => rfl
    | some p => show (i : Int) + ((p + 1 : Nat) : Int) = ((i + 1 : Nat) : Int) + (p : Int); omega
def clr1 (m : List (List Nat)) (r k : Nat) : List (List Nat) := match Mat.pv k (m.drop r) with
  | none => m
  | some p => Mat.est m r (r + p) k
def clr2 (m s : List (List Nat)) (r k : Nat) : List (List Nat) := match Mat.pv k (m.drop r) with
  | none => s
  | some p => Mat.est2 m s r (r + p) k
set_option maxHeartbeats 16000000 in
set_option maxRecDepth 100000 in
theorem l2clear_e {w0 w : World} {L : List (Value × Env.It)} (E : Env.Env 23 3 w0 w L) (j1 j2 : Nat) (hj : j1 ≠ j2) {g1 c1 g2 c2 n : Nat} {m s : List (List Nat)} (h1 : L[j1]? = some (.slice (some ⟨g1, 0, none⟩) n c1, .mat (upM m))) (h2 : L[j2]? = some (.slice (some ⟨g2, 0, none⟩) n c2, .mat (upM s)))
    {a b : Nat} (hm : Mat.MB' a m) (hs : Mat.MB' b s) (hmn : m.length = n) (hsn : s.length = n) (ha : a ≤ 100) (hb : b ≤ 100) (hn : n ≤ 100) {r k : Nat} (hr : r < n) (hk : k < a) (hb0 : 0 < b) :
    Calls Try.prog 98 #[.slice (some ⟨g1, 0, none⟩) n c1, .slice (some ⟨g2, 0, none⟩) n c2, .int .i64 (r : Int), .int .i64 (k : Int)] w fun e w' => e = .returned (.bool (Mat.pv k (m.drop r)).isSome) ∧ Env.Env 23 3 w0 w' ((L.set j1 (.slice (some ⟨g1, 0, none⟩) n c1, .mat (upM (clr1 m r k)))).set j2 (.slice (some ⟨g2, 0, none⟩) n c2, .mat (upM (clr2 m s r k)))) := by
  obtain ⟨LX, hLX⟩ : ∃ LX : List (List Nat) → List (List Nat) → List (Value × Env.It), LX = fun Y Z => (L.set j1 (.slice (some ⟨g1, 0, none⟩) n c1, .mat (upM Y))).set j2 (.slice (some ⟨g2, 0, none⟩) n c2, .mat (upM Z)) := ⟨_, rfl⟩
  have eL : LX m s = L := by rw [hLX]; show (L.set j1 _).set j2 _ = L; rw [set_same h1, set_same h2]
  have HL1 := Aside0.mk (show ∀ Y Z, (LX Y Z)[j1]? = some (.slice (some ⟨g1, 0, none⟩) n c1, Env.It.mat (upM Y)) from fun Y Z => by rw [hLX]; show ((L.set j1 _).set j2 _)[j1]? = _; rw [List.getElem?_set_ne (Ne.symm hj)]; exact Env.set_at h1)
  have HL2 := Aside0.mk (show ∀ Y Z, (LX Y Z)[j2]? = some (.slice (some ⟨g2, 0, none⟩) n c2, Env.It.mat (upM Z)) from fun Y Z => by rw [hLX]; exact Env.set_at (x := (.slice (some ⟨g2, 0, none⟩) n c2, .mat (upM s))) (by rw [List.getElem?_set_ne hj]; exact h2))
  have HS1 := Aside0.mk (show ∀ Y Z Y', (LX Y Z).set j1 (.slice (some ⟨g1, 0, none⟩) n c1, .mat (upM Y')) = LX Y' Z from fun Y Z Y' => by rw [hLX]; show ((L.set j1 _).set j2 _).set j1 _ = (L.set j1 _).set j2 _; rw [List.set_comm _ _ hj.symm, List.set_set])
  have HS2 := Aside0.mk (show ∀ Y Z Z', (LX Y Z).set j2 (.slice (some ⟨g2, 0, none⟩) n c2, .mat (upM Z')) = LX Y Z' from fun Y Z Z' => by rw [hLX]; show ((L.set j1 _).set j2 _).set j2 _ = (L.set j1 _).set j2 _; rw [List.set_set])
  have HG := Aside0.mk (show ∀ Y Z, LX Y Z = (L.set j1 (.slice (some ⟨g1, 0, none⟩) n c1, .mat (upM Y))).set j2 (.slice (some ⟨g2, 0, none⟩) n c2, .mat (upM Z)) from fun Y Z => by rw [hLX])
  have HE := Aside0.mk (show Env.Env 23 3 w0 w (LX m s) from by rw [eL]; exact E)
  have HLE := Aside0.mk eL
  have HM := Aside0.mk (show Mat.MB' a m ∧ m.length = n from ⟨hm, hmn⟩)
  have HS := Aside0.mk (show Mat.MB' b s ∧ s.length = n from ⟨hs, hsn⟩)
  have HZ := Aside0.mk (show a ≤ 100 ∧ b ≤ 100 ∧ n ≤ 100 ∧ 0 < b from ⟨ha, hb, hn, hb0⟩)
  have r0 : (0 : Int) ≤ (r : Int) := by omega
  have r1 : (r : Int) ≤ 100 := by omega
  have n1 : (n : Int) ≤ 100 := by omega
  clear E hLX eL h1 h2 hm hs hmn hsn ha hb hn hb0 hj
  go_enter Try.func98, Try.ntmps98
  go_wp2
  go_loopg [9, 10] n (fun gg s9 s10 wr => ∃ (i : Nat) (z : Int), r ≤ i ∧ i ≤ n ∧ i - r ≤ gg ∧ z = (i : Int) - 1 ∧ s10 = .int .i64 z ∧ s9 = .int .i64 (pvz k i m) ∧ wr = w)
  case atStart => exact ⟨n, _, by omega, Nat.le_refl _, by omega, rfl, by go_num, by rw [pvz_end HM.out.2], rfl⟩
  case round =>
    obtain ⟨i, z, hri, hin, hgi, hz, rfl, rfl, rfl⟩ := hrel
    by_cases hlt : r < i
    · obtain ⟨i, rfl⟩ : ∃ i', i = i' + 1 := ⟨i - 1, by omega⟩
      obtain rfl : z = (i : Int) := by omega
      clear hz
      have i0 : (0 : Int) ≤ (i : Int) := by omega
      have i1 : (i : Int) ≤ 100 := by omega
      have q2 : ((r : Int) ≤ (i : Int)) = True := eq_true (by omega)
      have q3 : (r ≤ i) = True := eq_true (by omega)
      have q4 : ((i : Int) < (n : Int)) = True := eq_true (by omega)
      have q5 : (i < n) = True := eq_true (by omega)
      have q6 : ((k : Int) < (a : Int)) = True := eq_true (by omega)
      have q7 : (k < a) = True := eq_true (by omega)
      obtain ⟨g', gi, ci, hA', hh, _, hx, _, _⟩ := HE.out.mput2 (by decide) (HL1.out _ _) (i := i) (q := k) (by rw [upM_length, HM.out.2]; omega) (by rw [upM_getD, Poly.up_length, (HM.out.1.get (i := i) (by rw [HM.out.2]; omega)).1]; exact hk)
      injection hA' with hA'
      injection hA' with hA'
      subst hA'
      rw [upM_getD, Poly.up_length, (HM.out.1.get (i := i) (by rw [HM.out.2]; omega)).1] at hh
      rw [upM_getD, Poly.rd_up] at hx
      have hst := pvz_step (k := k) (m := m) (i := i) (by rw [HM.out.2]; omega)
      have HST := Aside0.mk hst
      clear hst
      generalize (m.getD i []).getD k 0 = x at hx HST
      by_cases hx0 : x = 0
      · have e1 : ((x : Int) != 0) = false := by rw [hx0]; rfl
        have e2 : ((x : Int) == 0) = true := by rw [hx0]; rfl
        have hst := HST.out
        rw [if_neg (by omega)] at hst
        replace HST := Aside0.mk hst
        clear hst hx0
        go_wp2
        go_roundg (i - r)
        case measure => omega
        case rel => exact ⟨i, _, by omega, by omega, by omega, rfl, by go_num, by rw [HST.out], rfl⟩
      · have e1 : ((x : Int) != 0) = true := by rw [bne_iff_ne]; omega
        have e2 : ((x : Int) == 0) = false := by rw [beq_eq_false_iff_ne]; omega
        have hst := HST.out
        rw [if_pos hx0] at hst
        replace HST := Aside0.mk hst
        clear hst hx0
        go_wp2
        go_roundg (i - r)
        case measure => omega
        case rel => exact ⟨i, _, by omega, by omega, by omega, rfl, by go_num, by rw [HST.out], rfl⟩
    · obtain rfl : i = r := by omega
      subst hz
      have q1 : ((i : Int) ≤ (i : Int) - 1) = False := eq_false (by omega)
      have i0 : (0 : Int) ≤ (i : Int) := by omega
      have i1 : (i : Int) ≤ 100 := by omega
      have epz : pvz k i m = match Mat.pv k (m.drop i) with | none => -1 | some p => (i : Int) + (p : Int) := rfl
      cases hpv : Mat.pv k (m.drop i) with
      | none =>
        rw [hpv] at epz
        replace epz : pvz k i m = -1 := epz
        rw [epz]
        have HPV := Aside0.mk hpv
        clear epz hpv
        go_wp2
        go_ret
        refine ⟨by rw [HPV.out]; rfl, ?_⟩
        unfold clr1 clr2
        rw [HPV.out, ← HG.out]
        exact HE.out
      | some p =>
        rw [hpv] at epz
        replace epz : pvz k i m = (i : Int) + (p : Int) := epz
        rw [epz]
        have HPV := Aside0.mk hpv
        have hps := Mat.pv_some hpv
        rw [List.length_drop, HM.out.2] at hps
        have hpn : i + p < n := by omega
        have q2 : ((i : Int) + (p : Int) < 0) = False := eq_false (by omega)
        have q3 : ((i + p : Nat) : Int) = (i : Int) + (p : Int) := by omega
        have hml := HM.out.2
        have hsl := HS.out.2
        have hsw1 := l2swap_e (HE.out) j1 (m := m) (c := c1) (A := some ⟨g1, 0, none⟩) (by rw [hml]; exact HL1.out _ _) (a := i) (b := i + p) (by omega) (by omega)
        rw [hml, HS1.out, q3] at hsw1
        have HSW1 := Aside0.mk hsw1
        have HPP := Aside0.mk (show i + p < n ∧ (0 ≤ (i : Int) + (p : Int)) from ⟨hpn, by omega⟩)
        clear hsw1 hps hpn hpv epz q3 hml hsl
        go_wp2_with fail
        refine HSW1.out.mono ?_
        rintro e w1 ⟨rfl, hE1⟩
        have HE1 := Aside0.mk hE1
        have hsl := HS.out.2
        have hsw2 := l2swap_e (HE1.out) j2 (m := s) (c := c2) (A := some ⟨g2, 0, none⟩) (by rw [hsl]; exact HL2.out _ _) (a := i) (b := i + p) (by rw [hsl]; omega) (by rw [hsl]; exact HPP.out.1)
        rw [hsl, HS2.out, show ((i + p : Nat) : Int) = (i : Int) + (p : Int) by omega] at hsw2
        have HSW2 := Aside0.mk hsw2
        clear hsw2 hsl hE1 HSW1
        go_wp2_with fail
        refine HSW2.out.mono ?_
        rintro e w2 ⟨rfl, hE2⟩
        obtain ⟨M1, hM1⟩ : ∃ M1, M1 = Mat.swp m i (i + p) := ⟨_, rfl⟩
        obtain ⟨S1, hS1⟩ : ∃ S1, S1 = Mat.swp s i (i + p) := ⟨_, rfl⟩
        rw [← hM1, ← hS1] at hE2
        have HM1 := Aside0.mk (show Mat.MB' a M1 ∧ M1.length = n from by rw [hM1]; exact ⟨Mat.swp_MB HM.out.1 (by rw [HM.out.2]; exact hr) (by rw [HM.out.2]; exact HPP.out.1), by rw [Mat.swp_length]; exact HM.out.2⟩)
        have HS1' := Aside0.mk (show Mat.MB' b S1 ∧ S1.length = n from by rw [hS1]; exact ⟨Mat.swp_MB HS.out.1 (by rw [HS.out.2]; exact hr) (by rw [HS.out.2]; exact HPP.out.1), by rw [Mat.swp_length]; exact HS.out.2⟩)
        have HME := Aside0.mk hM1
        have HSE := Aside0.mk hS1
        have HE2 := Aside0.mk hE2
        clear HE HE1 HSW2 hE2 hM1 hS1 q1 q2
        -- the row at i is divided by what it holds at k
        obtain ⟨x, hx⟩ : ∃ x, x = (M1.getD i []).getD k 0 := ⟨_, rfl⟩
        have HXE := Aside0.mk hx
        have hil : i < M1.length := by rw [HM1.out.2]; exact hr
        have hrw := HM1.out.1.get hil
        have HXB := Aside0.mk (show x < 256 from by rw [hx]; exact Poly.AllB.get hrw.2 k)
        obtain ⟨g', gu, cu, hA', hh1, _, hx1, _, _⟩ := HE2.out.mput2 (by decide) (HL1.out M1 S1) (i := i) (q := k) (by rw [upM_length]; exact hil) (by rw [upM_getD, Poly.up_length, hrw.1]; exact hk)
        injection hA' with hA'
        injection hA' with hA'
        subst hA'
        rw [upM_getD, Poly.up_length, hrw.1] at hh1
        rw [upM_getD, Poly.rd_up, ← hx] at hx1
        have hsc := l2scale_e (HE2.out) j1 (m := M1) (c := c1) (g := g1) (by rw [HM1.out.2]; exact HL1.out _ _) HM1.out.1 HZ.out.1 hil hh1 x HXB.out
        rw [HM1.out.2, HS1.out] at hsc
        have HSC := Aside0.mk hsc
        have q4 : ((i : Int) < (n : Int)) = True := eq_true (by omega)
        have q5 : (i < n) = True := eq_true hr
        have q6 : ((k : Int) < (a : Int)) = True := eq_true (by omega)
        have q7 : (k < a) = True := eq_true hk
        have k0 : (0 : Int) ≤ (k : Int) := by omega
        clear hsc hrw hil hx
        go_wp2_with fail
        refine HSC.out.mono ?_
        rintro e w3 ⟨rfl, hE3⟩
        obtain ⟨T, hT⟩ : ∃ T, T = Mat.rscale (Gf.gi x) (M1.getD i []) := ⟨_, rfl⟩
        rw [← hT] at hE3
        have HE3 := Aside0.mk hE3
        have HTE := Aside0.mk hT
        clear HSC hE3 hT HE2 hh1 hx1
        have hil : i < S1.length := by rw [HS1'.out.2]; exact hr
        have hrw := HS1'.out.1.get hil
        obtain ⟨g', gv, cv, hA', hh1, _, hx1, _, _⟩ := HE3.out.mput2 (by decide) (HL2.out _ S1) (i := i) (q := 0) (by rw [upM_length]; exact hil) (by rw [upM_getD, Poly.up_length, hrw.1]; exact HZ.out.2.2.2)
        injection hA' with hA'
        injection hA' with hA'
        subst hA'
        rw [upM_getD, Poly.up_length, hrw.1] at hh1
        have hsc := l2scale_e (HE3.out) j2 (m := S1) (c := c2) (g := g2) (by rw [HS1'.out.2]; exact HL2.out _ _) HS1'.out.1 HZ.out.2.1 hil hh1 x HXB.out
        rw [HS1'.out.2, HS2.out] at hsc
        have HSC := Aside0.mk hsc
        clear hsc hrw hil hx1
        go_wp2_with fail
        refine HSC.out.mono ?_
        rintro e w4 ⟨rfl, hE4⟩
        obtain ⟨U, hU⟩ : ∃ U, U = Mat.rscale (Gf.gi x) (S1.getD i []) := ⟨_, rfl⟩
        rw [← hU] at hE4
        have HE4 := Aside0.mk hE4
        have HUE := Aside0.mk hU
        clear HSC hE4 hU HE3 hh1
        -- the others are lessened
        obtain ⟨C, hC⟩ : ∃ C, C = Mat.col k M1 := ⟨_, rfl⟩
        have HCE := Aside0.mk hC
        have HCB := Aside0.mk (show Poly.AllB C from by rw [hC]; exact Mat.col_bytes HM1.out.1 k)
        have HCA := Aside0.mk (show ∀ q, C.getD q 0 = (M1.getD q []).getD k 0 from fun q => by rw [hC]; exact Mat.col_at k M1 q)
        have HCL := Aside0.mk (show C.length = (M1.set i T).length from by rw [hC, Mat.col_length, List.length_set])
        have HCL2 := Aside0.mk (show C.length = (S1.set i U).length from by rw [hC, Mat.col_length, List.length_set, HM1.out.2, HS1'.out.2])
        have HNL := Aside0.mk (show (M1.set i T).length = n from by rw [List.length_set]; exact HM1.out.2)
        have HNL2 := Aside0.mk (show (S1.set i U).length = n from by rw [List.length_set]; exact HS1'.out.2)
        have HTL := Aside0.mk (show T.length = a ∧ Poly.AllB T from by rw [HTE.out]; have h9 := HM1.out.1.get (i := i) (by rw [HM1.out.2]; exact hr); exact ⟨by rw [Mat.rscale_length]; exact h9.1, Mat.rscale_bytes _ h9.2⟩)
        have HUL := Aside0.mk (show U.length = b ∧ Poly.AllB U from by rw [HUE.out]; have h9 := HS1'.out.1.get (i := i) (by rw [HS1'.out.2]; exact hr); exact ⟨by rw [Mat.rscale_length]; exact h9.1, Mat.rscale_bytes _ h9.2⟩)
        have HB2 := Aside0.mk (show Mat.MB' a (M1.set i T) ∧ Mat.MB' b (S1.set i U) from ⟨HM1.out.1.set i HTL.out, HS1'.out.1.set i HUL.out⟩)
        have HMR := Aside0.mk (show (M1.set i T).getD i [] = T ∧ (S1.set i U).getD i [] = U from ⟨by rw [Mat.getD_setL _ _ _ _ (by rw [HM1.out.2]; exact hr), if_pos rfl], by rw [Mat.getD_setL _ _ _ _ (by rw [HS1'.out.2]; exact hr), if_pos rfl]⟩)
        have HMO := Aside0.mk (show ∀ q, ¬ q = i → (M1.set i T).getD q [] = M1.getD q [] from fun q hq => by rw [Mat.getD_setL _ _ _ _ (by rw [HM1.out.2]; exact hr), if_neg hq])
        have HEZ := Aside0.mk (show Env.Env 23 3 w0 w4 (LX (Mat.erT T i C (M1.set i T) 0) (Mat.erT U i C (S1.set i U) 0)) from by rw [Mat.erT_zero, Mat.erT_zero]; exact HE4.out)
        clear hC HE4
        go_wp2
        go_loopg [62] n (fun gg s62 wq => ∃ q : Nat, q ≤ n ∧ n - q ≤ gg ∧ s62 = .int .i64 q ∧ Aside0 (Env.Env 23 3 w0 wq (LX (Mat.erT T i C (M1.set i T) q) (Mat.erT U i C (S1.set i U) q))))
        case atStart => exact ⟨0, Nat.zero_le _, by omega, rfl, HEZ⟩
        case round =>
          clear HEZ
          obtain ⟨q, hq', hgq, rfl, HSI⟩ := hrel
          have z0 : (0 : Int) ≤ (q : Int) := by omega
          have z1 : (q : Int) ≤ 100 := by omega
          by_cases hqn : q < n
          · have hYl : (Mat.erT T i C (M1.set i T) q).length = n := by rw [Mat.erT_length HCL.out]; exact HNL.out
            have hYi : (Mat.erT T i C (M1.set i T) q).getD q [] = (M1.set i T).getD q [] := by
              rw [List.getD_eq_getElem?_getD, Mat.erT_at HCL.out (Nat.le_refl _) (by rw [HNL.out]; exact hqn)]; rfl
            have hYr : (Mat.erT T i C (M1.set i T) q).getD i [] = T := by rw [Mat.erT_top HCL.out q (by rw [HNL.out]; exact hr)]; exact HMR.out.1
            have hY2l : (Mat.erT U i C (S1.set i U) q).length = n := by rw [Mat.erT_length HCL2.out]; exact HNL2.out
            have hY2i : (Mat.erT U i C (S1.set i U) q).getD q [] = (S1.set i U).getD q [] := by
              rw [List.getD_eq_getElem?_getD, Mat.erT_at HCL2.out (Nat.le_refl _) (by rw [HNL2.out]; exact hqn)]; rfl
            have hY2r : (Mat.erT U i C (S1.set i U) q).getD i [] = U := by rw [Mat.erT_top HCL2.out q (by rw [HNL2.out]; exact hr)]; exact HMR.out.2
            have hstep := Mat.erT_succ (top := T) (a := i) HCL.out (i := q) (by rw [HNL.out]; exact hqn)
            have hstep2 := Mat.erT_succ (top := U) (a := i) HCL2.out (i := q) (by rw [HNL2.out]; exact hqn)
            have hMB : Mat.MB' a (Mat.erT T i C (M1.set i T) q) := fun y hy => by
              unfold Mat.erT at hy
              rcases List.mem_append.1 hy with h9 | h9
              · exact Mat.er_MB HTL.out.1 0 (fun z hz => HCB.out z (List.mem_of_mem_take hz)) (fun z hz => HB2.out.1 z (List.mem_of_mem_take hz)) y h9
              · exact HB2.out.1 y (List.mem_of_mem_drop h9)
            have hMB2 : Mat.MB' b (Mat.erT U i C (S1.set i U) q) := fun y hy => by
              unfold Mat.erT at hy
              rcases List.mem_append.1 hy with h9 | h9
              · exact Mat.er_MB HUL.out.1 0 (fun z hz => HCB.out z (List.mem_of_mem_take hz)) (fun z hz => HB2.out.2 z (List.mem_of_mem_take hz)) y h9
              · exact HB2.out.2 y (List.mem_of_mem_drop h9)
            have hra := HB2.out.1.get (i := q) (by rw [HNL.out]; exact hqn)
            have hrb := HB2.out.2.get (i := q) (by rw [HNL2.out]; exact hqn)
            obtain ⟨Z, hZ⟩ : ∃ Z, Z = Mat.erT T i C (M1.set i T) q := ⟨_, rfl⟩
            obtain ⟨V, hV⟩ : ∃ V, V = Mat.erT U i C (S1.set i U) q := ⟨_, rfl⟩
            rw [← hZ] at hYl hYi hYr hstep HSI hMB
            rw [← hV] at hY2l hY2i hY2r hstep2 HSI hMB2
            obtain ⟨y, hy⟩ : ∃ y, y = (Z.getD q []).getD k 0 := ⟨_, rfl⟩
            have hyc : ¬ q = i → y = C.getD q 0 := fun h => by rw [hy, hYi, HMO.out q h, HCA.out]
            have HYB := Aside0.mk (show y < 256 from by rw [hy, hYi]; exact Poly.AllB.get hra.2 k)
            obtain ⟨g', gi, ci, hA', hh, _, hx, _, _⟩ := HSI.out.mput2 (by decide) (HL1.out Z V) (i := q) (q := k) (by rw [upM_length, hYl]; exact hqn) (by rw [upM_getD, hYi, Poly.up_length, hra.1]; exact hk)
            injection hA' with hA'
            injection hA' with hA'
            subst hA'
            rw [upM_getD, hYi, Poly.up_length, hra.1] at hh
            rw [upM_getD, Poly.rd_up, ← hy] at hx
            have p3 : ((q : Int) < (n : Int)) = True := eq_true (by omega)
            have p4 : (q < n) = True := eq_true hqn
            by_cases hwk : q = i ∨ y = 0
            · have hst : Mat.erT T i C (M1.set i T) (q + 1) = Z ∧ Mat.erT U i C (S1.set i U) (q + 1) = V := by
                rw [← hstep, ← hstep2]
                unfold Mat.erow
                by_cases hqi : q = i
                · rw [if_pos hqi, if_pos hqi, ← hYi, ← hY2i]; exact ⟨Mat.set_self _ _, Mat.set_self _ _⟩
                · have hy0 : C.getD q 0 = 0 := by rw [← hyc hqi]; exact hwk.resolve_left hqi
                  rw [if_neg hqi, if_neg hqi, hy0, Mat.radd_nul (by rw [hra.1, HTL.out.1]), Mat.radd_nul (by rw [hrb.1, HUL.out.1]), ← hYi, ← hY2i]; exact ⟨Mat.set_self _ _, Mat.set_self _ _⟩
              have HST := Aside0.mk hst
              clear hst hstep hstep2 hYl hYi hYr hY2l hY2i hY2r hMB hMB2 hra hrb hyc hZ hV hy
              by_cases hqi : q = i
              · have e1 : ((q : Int) != (i : Int)) = false := by rw [hqi]; simp
                have e2 : ((q : Int) == (i : Int)) = true := by rw [hqi]; simp
                clear hwk hqi
                go_wp2
                go_roundg (n - (q + 1))
                case measure => omega
                case rel => exact ⟨q + 1, by omega, by omega, by go_num, ⟨by rw [HST.out.1, HST.out.2]; exact HSI.out⟩⟩
              · have hy0 : y = 0 := hwk.resolve_left hqi
                subst hy0
                have e1 : ((q : Int) != (i : Int)) = true := by rw [bne_iff_ne]; omega
                have e2 : ((q : Int) == (i : Int)) = false := by rw [beq_eq_false_iff_ne]; omega
                clear hwk hqi
                go_wp2
                go_roundg (n - (q + 1))
                case measure => omega
                case rel => exact ⟨q + 1, by omega, by omega, by go_num, ⟨by rw [HST.out.1, HST.out.2]; exact HSI.out⟩⟩
            · have hqi : ¬ q = i := fun h => hwk (.inl h)
              have hy0 : ¬ y = 0 := fun h => hwk (.inr h)
              have e1 : ((q : Int) != (i : Int)) = true := by rw [bne_iff_ne]; omega
              have e2 : ((q : Int) == (i : Int)) = false := by rw [beq_eq_false_iff_ne]; omega
              have e3 : ((y : Int) != 0) = true := by rw [bne_iff_ne]; omega
              have e4 : ((y : Int) == 0) = false := by rw [beq_eq_false_iff_ne]; omega
              have hst1 : Z.set q (Mat.radd y (Z.getD q []) (Z.getD i [])) = Mat.erT T i C (M1.set i T) (q + 1) := by
                rw [← hstep]; unfold Mat.erow; rw [if_neg hqi, ← hyc hqi, hYi, hYr]
              have hst2 : V.set q (Mat.radd y (V.getD q []) (V.getD i [])) = Mat.erT U i C (S1.set i U) (q + 1) := by
                rw [← hstep2]; unfold Mat.erow; rw [if_neg hqi, ← hyc hqi, hY2i, hY2r]
              have HQ := HSI.out.drewN 1
              obtain ⟨g', gt, ct, hA', ht, _, _, _, _⟩ := HQ.mput2 (by decide) (HL1.out Z V) (i := i) (q := k) (by rw [upM_length, hYl]; exact hr) (by rw [upM_getD, hYr, Poly.up_length, HTL.out.1]; exact hk)
              injection hA' with hA'
              injection hA' with hA'
              subst hA'
              rw [upM_getD, hYr, Poly.up_length, HTL.out.1] at ht
              have hadd := l2addM_e HQ j1 (m := Z) (c := c1) (g := g1) (by rw [hYl]; exact HL1.out _ _) hMB HZ.out.1 (i := q) (r := i) (by rw [hYl]; exact hqn) (by rw [hYl]; exact hr) hqi hh ht y HYB.out
              rw [hYl, hst1, HS1.out] at hadd
              have HAD := Aside0.mk hadd
              have hh0 : wr.cell? ⟨g1, q, none⟩ = some (.slice (some ⟨gi, 0, none⟩) a ci) := hh
              have ht0 : wr.cell? ⟨g1, i, none⟩ = some (.slice (some ⟨gt, 0, none⟩) a ct) := ht
              have HS2B := Aside0.mk (show Mat.MB' b V ∧ V.length = n ∧ (V.getD q []).length = b ∧ (V.getD i []).length = b from ⟨hMB2, hY2l, by rw [hY2i]; exact hrb.1, by rw [hY2r]; exact HUL.out.1⟩)
              have HST2 := Aside0.mk hst2
              have HQI := Aside0.mk hqi
              clear hh ht hst1 hst2 hadd HQ hstep hstep2 hYl hYi hYr hY2l hY2i hY2r hMB hMB2 hra hrb hyc hZ hV hy hwk hqi hy0
              go_wp2_with fail
              go_still_tail 9, (by kernel_rfl)
              change wpList _ _ _ _ _ (wr.drewN 1)
              go_wp2_with fail
              refine HAD.out.mono ?_
              rintro e w5 ⟨rfl, hE5⟩
              have HQ := hE5.drewN 1
              obtain ⟨g', gp, cp, hA', hh, _, _, _, _⟩ := HQ.mput2 (by decide) (HL2.out _ V) (i := q) (q := 0) (by rw [upM_length, HS2B.out.2.1]; exact hqn) (by rw [upM_getD, Poly.up_length, HS2B.out.2.2.1]; exact HZ.out.2.2.2)
              injection hA' with hA'
              injection hA' with hA'
              subst hA'
              obtain ⟨g', gt', ct', hA', ht, _, _, _, _⟩ := HQ.mput2 (by decide) (HL2.out _ V) (i := i) (q := 0) (by rw [upM_length, HS2B.out.2.1]; exact hr) (by rw [upM_getD, Poly.up_length, HS2B.out.2.2.2]; exact HZ.out.2.2.2)
              injection hA' with hA'
              injection hA' with hA'
              subst hA'
              rw [upM_getD, Poly.up_length, HS2B.out.2.2.1] at hh
              rw [upM_getD, Poly.up_length, HS2B.out.2.2.2] at ht
              have hadd := l2addM_e HQ j2 (m := V) (c := c2) (g := g2) (by rw [HS2B.out.2.1]; exact HL2.out _ _) HS2B.out.1 HZ.out.2.1 (i := q) (r := i) (by rw [HS2B.out.2.1]; exact hqn) (by rw [HS2B.out.2.1]; exact hr) HQI.out hh ht y HYB.out
              rw [HS2B.out.2.1, HST2.out, HS2.out] at hadd
              have HAD2 := Aside0.mk hadd
              have hh5 : w5.cell? ⟨g2, q, none⟩ = some (.slice (some ⟨gp, 0, none⟩) b cp) := hh
              have ht5 : w5.cell? ⟨g2, i, none⟩ = some (.slice (some ⟨gt', 0, none⟩) b ct') := ht
              clear hh ht hadd HQ hE5 HAD hh0 ht0 hx
              go_wp2_with fail
              go_still_tail 9, (by kernel_rfl)
              change wpList _ _ _ _ _ (w5.drewN 1)
              go_wp2_with fail
              refine HAD2.out.mono ?_
              rintro e w6 ⟨rfl, hE6⟩
              have HE6 := Aside0.mk hE6
              clear hE6 HAD2 hh5 ht5
              go_wp2
              go_roundg (n - (q + 1))
              case measure => omega
              case rel => exact ⟨q + 1, by omega, by omega, by go_num, HE6⟩
          · have hqe : q = n := by omega
            have p3 : ((q : Int) < (n : Int)) = False := eq_false (by omega)
            have hest : Mat.erT T i C (M1.set i T) q = Mat.est m i (i + p) k := by
              rw [hqe, ← HNL.out, Mat.erT_all HCL.out]
              unfold Mat.est
              rw [← HME.out]
              unfold Mat.top
              rw [← HXE.out, ← HTE.out, ← HCE.out]
            have hest2 : Mat.erT U i C (S1.set i U) q = Mat.est2 m s i (i + p) k := by
              rw [hqe, ← HNL2.out, Mat.erT_all HCL2.out]
              unfold Mat.est2
              rw [← HME.out, ← HSE.out]
              unfold Mat.top
              rw [← HXE.out, ← HUE.out, ← HCE.out]
            have hE7 := HSI.out
            rw [hest, hest2, HG.out] at hE7
            have HE7 := Aside0.mk hE7
            clear hE7 hest hest2 HSI hqe
            go_wp2
            go_ret
            refine ⟨by rw [HPV.out]; rfl, ?_⟩
            unfold clr1 clr2
            rw [HPV.out]
            exact HE7.out

def gj : Nat → Nat → List (List Nat) → List (List Nat) → Option (List (List Nat))
  | 0, _, _, s => some s
  | d + 1, k, m, s => match Mat.pv k (m.drop k) with
    | none => none
    | some _ => gj d (k + 1) (clr1 m k k) (clr2 m s k k)
theorem gj_sv : ∀ (d k : Nat) (m s : List (List Nat)), k + d = m.length → gj d k m s = if (Mat.sv d k k m).2 < m.length then none else some (Mat.sv2 d k k m s)
  | 0, k, m, s, h => by
    show some s = if k < m.length then none else some s
    rw [if_neg (by omega)]
  | d + 1, k, m, s, h => by
    cases hp : Mat.pv k (m.drop k) with
    | none =>
      have h9 := Mat.sv_le d (k + 1) k m
      have e1 : Mat.sv (d + 1) k k m = Mat.sv d (k + 1) k m := by conv => lhs; unfold Mat.sv; rw [hp]
      have e3 : gj (d + 1) k m s = none := by unfold gj; rw [hp]
      rw [e3, e1, if_pos (by omega)]
    | some p =>
      have e1 : Mat.sv (d + 1) k k m = if k + 1 = m.length then (Mat.est m k (k + p) k, k + 1) else Mat.sv d (k + 1) (k + 1) (Mat.est m k (k + p) k) := by conv => lhs; unfold Mat.sv; rw [hp]
      have e2 : Mat.sv2 (d + 1) k k m s = if k + 1 = m.length then Mat.est2 m s k (k + p) k else Mat.sv2 d (k + 1) (k + 1) (Mat.est m k (k + p) k) (Mat.est2 m s k (k + p) k) := by conv => lhs; unfold Mat.sv2; rw [hp]
      have e3 : gj (d + 1) k m s = gj d (k + 1) (Mat.est m k (k + p) k) (Mat.est2 m s k (k + p) k) := by conv => lhs; unfold gj clr1 clr2; rw [hp]
      by_cases hk : k + 1 = m.length
      · rw [if_pos hk] at e1 e2
        rw [e3, e1, e2, if_neg (by show ¬ k + 1 < m.length; omega)]
        obtain rfl : d = 0 := by omega
        rfl
      · rw [if_neg hk] at e1 e2
        have ih := gj_sv d (k + 1) (Mat.est m k (k + p) k) (Mat.est2 m s k (k + p) k) (by rw [Mat.est_length]; omega)
        rw [Mat.est_length] at ih
        rw [e3, e1, e2, ih]
theorem gj_inv (m : List (List Nat)) : gj m.length 0 m (Mat.idM m.length) = Mat.inv m := gj_sv m.length 0 m (Mat.idM m.length) (by omega)
theorem clr1_MB {c : Nat} {m : List (List Nat)} (h : Mat.MB' c m) (r k : Nat) (hr : r < m.length) : Mat.MB' c (clr1 m r k) := by
  unfold clr1
  cases hp : Mat.pv k (m.drop r) with
  | none => exact h
  | some p =>
    have h9 := (Mat.pv_some hp).1
    rw [List.length_drop] at h9
    exact Mat.est_MB h k hr (by omega)
theorem clr1_length (m : List (List Nat)) (r k : Nat) : (clr1 m r k).length = m.length := by
  unfold clr1
  split
  · rfl
  · exact Mat.est_length ..
theorem clr2_MB {c d : Nat} {m s : List (List Nat)} (h : Mat.MB' c m) (hs : Mat.MB' d s) (hl : s.length = m.length) (r k : Nat) (hr : r < m.length) : Mat.MB' d (clr2 m s r k) := by
  unfold clr2
  cases hp : Mat.pv k (m.drop r) with
  | none => exact hs
  | some p =>
    have h9 := (Mat.pv_some hp).1
    rw [List.length_drop] at h9
    exact Mat.est2_MB h hs hl k hr (by omega)
theorem clr2_length {m s : List (List Nat)} (hl : s.length = m.length) (r k : Nat) : (clr2 m s r k).length = m.length := by
  unfold clr2
  split
  · exact hl
  · rw [Mat.est2_length hl]
def invW (m : List (List Nat)) : List (List Int) × Bool := match Mat.inv m with
  | none => ([], false)
  | some s => (upM s, true)

theorem idL_up (n : Nat) : idL n n = upM (Mat.idM n) := by
  unfold idL idR upM Mat.idM
  rw [List.map_map]
  refine List.map_congr_left fun i _ => ?_
  show _ = Poly.up ((List.replicate n 0).set i 1)
  rw [← Poly.up_set, ← Poly.up_zeros]; rfl

set_option maxHeartbeats 2000000 in
set_option maxRecDepth 100000 in
theorem l2invert_e (A0 : Option Addr) (c0 n : Nat) (m : List (List Nat)) (w : World) (hm : Mat.MB' n m) (hmn : m.length = n) (h1 : 1 ≤ n) (h8 : n ≤ 8) (hr0 : Kd.C (Kd.slice 3 (Kd.int .i64)) w A0 (upM m).length (upM m)) (hc0 : (upM m).length ≤ c0) :
    Calls Try.prog 94 #[.slice A0 (upM m).length c0] w fun e w' => ∃ v0_ : Value, e = .returned (.tuple #[v0_, .bool (invW m).2]) ∧ Kd.S (Kd.slice 3 (Kd.int .i64)) 23 w' w.heap.size (fun _ => True) v0_ (invW m).1 ∧ Below w.heap.size w w' := by
  have HM := Aside0.mk (show Mat.MB' n m ∧ m.length = n ∧ 1 ≤ n ∧ n ≤ 8 from ⟨hm, hmn, h1, h8⟩)
  have hul : (upM m).length = n := by rw [upM_length, hmn]
  obtain ⟨K1, hk1⟩ := (spec_l2Own_ev (upM m) (by rw [hul]; omega) (fun r hr => by have := (upM_small hm (k := 8) (by omega) (by omega)).2 r hr; omega)).rounds
  obtain ⟨K2, hk2⟩ := (spec_l2Identity_ev n (by omega)).rounds
  rw [idL_up, show (n : Int) = ((upM m).length : Int) from by rw [hul]] at hk2
  have H1 := Aside0.mk hk1
  have H2 := Aside0.mk hk2
  have HR := Aside0.mk hr0
  have HC := Aside0.mk hc0
  have HG := Aside0.mk (show invW m = match gj n 0 m (Mat.idM n) with | none => ([], false) | some s => (upM s, true) from by rw [← hmn, gj_inv]; rfl)
  have n0 : (0 : Int) ≤ (n : Int) := by omega
  have n1 : (n : Int) ≤ 8 := by omega
  clear hk1 hk2 hr0 hc0 hm hmn h1 h8 hul
  go_enter Try.func94, Try.ntmps94
  go_wp2_with fail
  refine (spec_l2Own.calls K1 A0 c0 (upM m) (upM m) w HR.out HC.out H1.out).mono ?_
  rintro e w1 ⟨v1, rfl, hS_, hb_⟩
  obtain ⟨B1, d1, rfl, hE_⟩ := (Env.Env.start (e := 23) (t := 3) w).madeS (by decide) hS_ hb_
  obtain ⟨g1, _, _, hB, _⟩ := hE_.mrow (by decide) (j := 0) rfl (i := 0) (by rw [upM_length, HM.out.2.1]; have := HM.out.2.2.1; omega)
  subst hB
  have ENV := Aside0.mk hE_
  clear hE_ hS_ hb_
  go_wp2_with fail
  refine (spec_l2Identity.calls K2 ((upM m).length : Int) (upM (Mat.idM n)) _ H2.out).mono ?_
  rintro e w2 ⟨v2, rfl, hS_, hb_⟩
  obtain ⟨B2, d2, rfl, hE_⟩ := ENV.out.madeS (by decide) hS_ hb_
  obtain ⟨g2, _, _, hB, _⟩ := hE_.mrow (by decide) (j := 0) rfl (i := 0) (by rw [upM_length, Mat.idM_length]; have := HM.out.2.2.1; omega)
  subst hB
  rw [upM_length, upM_length, Mat.idM_length, HM.out.2.1] at hE_
  rw [upM_length, upM_length, Mat.idM_length, HM.out.2.1]
  replace ENV := Aside0.mk hE_
  clear hE_ hS_ hb_
  go_wp2
  go_loopg [14] n (fun gg s14 wr => ∃ (i : Nat) (M1 S1 : List (List Nat)), i ≤ n ∧ n - i ≤ gg ∧ s14 = .int .i64 i ∧ Aside0 (gj (n - i) i M1 S1 = gj n 0 m (Mat.idM n)) ∧ Aside0 (Mat.MB' n M1 ∧ M1.length = n ∧ Mat.MB' n S1 ∧ S1.length = n) ∧ Aside0 (Env.Env 23 3 w wr [(.slice (some ⟨g2, 0, none⟩) n d2, .mat (upM S1)), (.slice (some ⟨g1, 0, none⟩) n d1, .mat (upM M1))]))
  case atStart => exact ⟨0, m, Mat.idM n, Nat.zero_le _, by omega, rfl, ⟨rfl⟩, ⟨HM.out.1, HM.out.2.1, Mat.idM_MB n, Mat.idM_length n⟩, ENV⟩
  case round =>
    clear ENV
    obtain ⟨i, M1, S1, hi', hgi, rfl, HJ, HB, ENV⟩ := hrel
    have z0 : (0 : Int) ≤ (i : Int) := by omega
    have z1 : (i : Int) ≤ 100 := by omega
    by_cases hlt : i < n
    · have p1 : ((i : Int) < (n : Int)) = True := eq_true (by omega)
      have hcl := l2clear_e ENV.out 1 0 (by decide) (g1 := g1) (c1 := d1) (g2 := g2) (c2 := d2) (n := n) (m := M1) (s := S1) rfl rfl HB.out.1 HB.out.2.2.1 HB.out.2.1 HB.out.2.2.2 (by have := HM.out; omega) (by have := HM.out; omega) (by have := HM.out; omega) (r := i) (k := i) hlt hlt (by have := HM.out; omega)
      cases hpv : Mat.pv i (M1.drop i) with
      | none =>
        rw [hpv] at hcl
        have HCL := Aside0.mk hcl
        have HI := Aside0.mk (show invW m = ([], false) from by
          rw [HG.out, ← HJ.out, show n - i = (n - (i + 1)) + 1 by omega]
          unfold gj
          rw [hpv])
        clear hcl hpv
        go_wp2_with fail
        refine HCL.out.mono ?_
        rintro e w3 ⟨he, hE⟩
        replace he : e = .returned (.bool false) := he
        subst he
        have HBE := Aside0.mk hE.1
        clear hE HCL
        go_wp2
        go_ret2
        rw [HI.out]
        exact ⟨_, rfl, Kd.S_nil _ _ _ _ _, HBE.out⟩
      | some q =>
        rw [hpv] at hcl
        have HCL := Aside0.mk hcl
        have HI := Aside0.mk (show gj (n - (i + 1)) (i + 1) (clr1 M1 i i) (clr2 M1 S1 i i) = gj n 0 m (Mat.idM n) from by
          rw [← HJ.out, show n - i = (n - (i + 1)) + 1 by omega]
          conv => rhs; unfold gj
          rw [hpv])
        clear hcl hpv
        go_wp2_with fail
        refine HCL.out.mono ?_
        rintro e w3 ⟨he, hE⟩
        replace he : e = .returned (.bool true) := he
        subst he
        have HEE := Aside0.mk hE
        clear hE HCL
        go_wp2
        go_roundg (n - (i + 1))
        case measure => omega
        case rel => exact ⟨i + 1, clr1 M1 i i, clr2 M1 S1 i i, by omega, by omega, by go_num, HI, ⟨clr1_MB HB.out.1 _ _ (by rw [HB.out.2.1]; exact hlt), by rw [clr1_length]; exact HB.out.2.1, clr2_MB HB.out.1 HB.out.2.2.1 (by rw [HB.out.2.1, HB.out.2.2.2]) _ _ (by rw [HB.out.2.1]; exact hlt), by rw [clr2_length (by rw [HB.out.2.1, HB.out.2.2.2]), HB.out.2.1]⟩, HEE⟩
    · have p1 : ((i : Int) < (n : Int)) = False := eq_false (by omega)
      have HI := Aside0.mk (show invW m = (upM S1, true) from by
        rw [HG.out, ← HJ.out, show n - i = 0 by omega]
        rfl)
      obtain ⟨lo_, hi_, hlo_, _, ⟨vs_, hM_⟩, _⟩ := ENV.out.turn 0 rfl
      have HS_ := Aside0.mk (Kd.S_mono (ok' := fun _ => True) (Kd.S_lower (hM_.S (by decide)) hlo_) (fun _ _ => trivial))
      have HBE := Aside0.mk ENV.out.1
      clear hM_
      go_wp2
      go_ret2
      rw [HI.out]
      exact ⟨_, rfl, HS_.out, HBE.out⟩
def spec_InvertMatrix.f (l : List (List Int)) : Option (List (List Int) × Bool) := if l.length ≤ 1048576 ∧ (∀ r ∈ l, r.length ≤ 1048576) then some (invV l) else none
set_option maxHeartbeats 4000000 in
theorem spec_InvertMatrix.calls (A0 : Option Addr) (c0 : Nat) (l0 : List (List Int)) (r1 : List (List Int)) (r2 : Bool) (w : World) (hr0 : Kd.C (Kd.slice 3 (Kd.int .i64)) w A0 l0.length l0) (hc0 : l0.length ≤ c0) (h : spec_InvertMatrix.f l0 = some (r1, r2)) :
    Calls Try.prog 23 #[.slice A0 l0.length c0] w fun e w' => ∃ v0_ : Value, e = .returned (.tuple #[v0_, .bool r2]) ∧ Kd.S (Kd.slice 3 (Kd.int .i64)) 23 w' w.heap.size (fun _ => True) v0_ r1 ∧ Below w.heap.size w w' := by
  have HR := Aside0.mk hr0
  have HC := Aside0.mk hc0
  clear hr0 hc0
  unfold spec_InvertMatrix.f at h
  split at h
  rotate_left
  · cases h
  rename_i hsz
  have H0 := Option.some.inj h
  clear h
  obtain ⟨K, hk⟩ := (spec_GoodMatrix_ev l0 (by omega) (fun r h => by have := hsz.2 r h; omega)).rounds
  clear hsz
  cases hg : goodM l0 with
  | false =>
    rw [hg] at hk
    have H1 := Aside0.mk hk
    unfold invV at H0
    rw [hg] at H0
    injection H0 with e1 e2
    subst e1 e2
    clear hk hg
    go_enter Try.func23, Try.ntmps23
    go_wp2_with (go_at_call 93; refine (spec_GoodMatrix.calls K A0 c0 l0 false _ HR.out HC.out H1.out).mono ?_; rintro e w' ⟨rfl, ⟨nd1, rfl⟩⟩)
    go_ret2
    exact ⟨_, rfl, Kd.S_nil _ _ _ _ _, by repeat (first | exact Below.refl _ _ | apply pw_below_drewN)⟩
  | true =>
    rw [hg] at hk
    have H1 := Aside0.mk hk
    obtain ⟨c, m, rfl, hm, e1, e2, h1, h2, h3, h4⟩ := goodM_up hg
    have hlen : 0 < (upM m).length := by rw [upM_length]; omega
    obtain ⟨ad, A1, c1, rfl, hx, hl1, hi1⟩ := Mx.rows_at HR.out 0 hlen hlen
    have e0 : (upM m).getD 0 [] = (upM m)[0] := by rw [List.getD_eq_getElem?_getD, List.getElem?_eq_getElem hlen]; rfl
    rw [Addr.add_zero'] at hx
    have e3 : (upM m)[0].length = c := by rw [← e0, e1]
    generalize (upM m)[0] = r0 at hx hl1 hi1 e3
    have p0 := eq_true hlen
    have p1 : (0 < ((upM m).length : Int)) = True := eq_true (by omega)
    by_cases hq : m.length = c
    · have hv : invV (upM m) = invW m := by
        unfold invV invW
        rw [hg, e1, upM_length, decide_eq_true hq, dnM_upM]
        rfl
      rw [hv] at H0
      have H0' := Aside0.mk H0
      have q1 : (((upM m).length : Int) != (r0.length : Int)) = false := by rw [upM_length, e3, hq]; simp
      have q2 : ((upM m).length != r0.length) = false := by rw [upM_length, e3, hq]; simp
      have HI := Aside0.mk (fun w' (hC : Kd.C (Kd.slice 3 (Kd.int .i64)) w' (some ad) (upM m).length (upM m)) => l2invert_e (some ad) c0 c m w' hm hq h3 h4 hC HC.out)
      clear H0 hv hk hg hm e0 e1 e2 e3 h1 h2 h3 h4 hl1 hi1 hq hlen
      go_enter Try.func23, Try.ntmps23
      go_wp2_with (first | (go_at_call 93; refine (spec_GoodMatrix.calls K (some ad) c0 (upM m) true _ HR.out HC.out H1.out).mono ?_; rintro e w' ⟨rfl, ⟨nd1, rfl⟩⟩) | (go_at_call 94; refine (HI.out _ (Kd.C_drewN HR.out _)).mono ?_; rintro e w' ⟨v2, rfl, hS_, hb_⟩; have HS_ := Aside0.mk hS_; have HB_ := Aside0.mk hb_; clear hS_ hb_))
      go_ret2
      have e9 := H0'.out
      rw [e9] at HS_ 
      rw [e9]
      exact ⟨_, rfl, HS_.out, below_step (pw_below_drewN (Below.refl _ _) _) HB_.out⟩
    · have hv : invV (upM m) = ([], false) := by
        unfold invV
        rw [hg, e1, upM_length, decide_eq_false hq]
        rfl
      rw [hv] at H0
      injection H0 with e8 e9
      subst e8 e9
      have q1 : (((upM m).length : Int) != (r0.length : Int)) = true := by rw [upM_length, e3, bne_iff_ne]; omega
      have q2 : ((upM m).length != r0.length) = true := by rw [upM_length, e3, bne_iff_ne]; exact hq
      clear hv hk hg hm e0 e1 e2 e3 h1 h2 h3 h4 hl1 hi1 hq hlen
      go_enter Try.func23, Try.ntmps23
      go_wp2_with (go_at_call 93; refine (spec_GoodMatrix.calls K (some ad) c0 (upM m) true _ HR.out HC.out H1.out).mono ?_; rintro e w' ⟨rfl, ⟨nd1, rfl⟩⟩)
      go_ret2
      exact ⟨_, rfl, Kd.S_nil _ _ _ _ _, by repeat (first | exact Below.refl _ _ | apply pw_below_drewN)⟩
theorem spec_InvertMatrix_ev (l : List (List Int)) (h : l.length ≤ 1048576) (hr : ∀ r ∈ l, r.length ≤ 1048576) : spec_InvertMatrix.f l = some (invV l) := if_pos ⟨h, hr⟩

def solveOk (l : List (List Int)) (v : List Int) : Bool := goodM l && (decide (l.length = (l.getD 0 []).length) && (decide (v.length = l.length) && v.all isB))
def solveV (l : List (List Int)) (v : List Int) : List Int × Bool := if solveOk l v then (match Mat.inv (dnM l) with
  | none => ([], false)
  | some s => (Poly.up (Mat.colM s (v.map Int.toNat)), true)) else ([], false)
theorem solveV_small (l : List (List Int)) (v : List Int) : (solveV l v).1.length ≤ 8 := by
  unfold solveV
  split
  · rename_i h
    unfold solveOk at h
    rw [Bool.and_eq_true, Bool.and_eq_true, decide_eq_true_eq] at h
    obtain ⟨c, m, rfl, hm, e1, e2, h1, h2, h3, h4⟩ := goodM_up h.1
    rw [dnM_upM]
    have hc : m.length = c := by have := h.2.1; rw [e1, upM_length] at this; exact this
    split
    · simp
    · rename_i t ht
      have h9 := inv_MB hm hc ht
      show (Poly.up (Mat.colM t _)).length ≤ 8
      rw [Poly.up_length, Mat.colM_length, h9.2]; omega
  · simp
theorem solveV_inv (l : List (List Int)) (v : List Int) : solveV l v = if (invV l).2 && (decide (v.length = l.length) && v.all isB) then (Poly.up (Mat.colM (dnM (invV l).1) (v.map Int.toNat)), true) else ([], false) := by
  unfold solveV solveOk invV
  cases goodM l <;> cases decide (l.length = (l.getD 0 []).length) <;> cases Mat.inv (dnM l) <;> simp [dnM_upM]
theorem invV_true {l : List (List Int)} (h : (invV l).2 = true) : ∃ (c : Nat) (m s : List (List Nat)), l = upM m ∧ Mat.MB' c m ∧ m.length = c ∧ 1 ≤ c ∧ c ≤ 8 ∧ Mat.inv m = some s ∧ invV l = (upM s, true) ∧ Mat.MB' c s ∧ s.length = c := by
  unfold invV at h ⊢
  split at h
  rotate_left
  · cases h
  rename_i hg
  rw [if_pos hg]
  rw [Bool.and_eq_true, decide_eq_true_eq] at hg
  obtain ⟨c, m, rfl, hm, e1, e2, h1, h2, h3, h4⟩ := goodM_up hg.1
  have hc : m.length = c := by have := hg.2; rw [e1, upM_length] at this; exact this
  rw [dnM_upM] at h ⊢
  cases hi : Mat.inv m with
  | none => rw [hi] at h; cases h
  | some s => exact ⟨c, m, s, rfl, hm, hc, h3, h4, hi, rfl, inv_MB hm hc hi⟩

def spec_SolveBy.f (l : List (List Int)) (v : List Int) : Option (List Int × Bool) := if l.length ≤ 1048576 ∧ (∀ r ∈ l, r.length ≤ 1048576) ∧ v.length ≤ 1048576 then some (solveV l v) else none
theorem spec_SolveBy_ev (l : List (List Int)) (v : List Int) (h : l.length ≤ 1048576) (hr : ∀ r ∈ l, r.length ≤ 1048576) (hv : v.length ≤ 1048576) : spec_SolveBy.f l v = some (solveV l v) := if_pos ⟨h, hr, hv⟩
set_option maxHeartbeats 4000000 in
set_option maxRecDepth 100000 in
theorem spec_SolveBy.calls (A0 : Option Addr) (c0 : Nat) (l0 : List (List Int)) (A1 : Option Addr) (c1 : Nat) (l1 : List Int) (r1 : List Int) (r2 : Bool) (w : World) (hr0 : Kd.C (Kd.slice 3 (Kd.int .i64)) w A0 l0.length l0) (hc0 : l0.length ≤ c0) (hr1 : (Kd.int .i64).C w A1 l1.length l1) (hc1 : l1.length ≤ c1) (h : spec_SolveBy.f l0 l1 = some (r1, r2)) :
    Calls Try.prog 12 #[.slice A0 l0.length c0, .slice A1 l1.length c1] w fun e w' => ∃ v0_ : Value, e = .returned (.tuple #[v0_, .bool r2]) ∧ (Kd.int .i64).R 3 w' w.heap.size (fun _ => True) v0_ r1 ∧ Below w.heap.size w w' := by
  have HR := Aside0.mk hr0
  have HC := Aside0.mk hc0
  have HR1 := Aside0.mk hr1
  have HC1 := Aside0.mk hc1
  clear hr0 hc0 hr1 hc1
  unfold spec_SolveBy.f at h
  split at h
  rotate_left
  · cases h
  rename_i hsz
  have H0 := Option.some.inj h
  clear h
  have hinv := spec_InvertMatrix.calls A0 c0 l0 (invV l0).1 (invV l0).2 w HR.out HC.out (spec_InvertMatrix_ev l0 hsz.1 hsz.2.1)
  obtain ⟨K6, h6⟩ := (spec_l1All_ev l1 (by have := hsz.2.2; omega)).rounds
  rw [solveV_inv] at H0
  cases g1 : (invV l0).2 with
  | false =>
    rw [g1] at H0 hinv
    injection H0 with e1 e2
    subst e1 e2
    have HI := Aside0.mk hinv
    clear hinv h6 g1 hsz
    go_enter Try.func12, Try.ntmps12
    go_wp2_with fail
    refine HI.out.mono ?_
    rintro e w1 ⟨v1, rfl, hS_, hb_⟩
    have HB := Aside0.mk hb_
    clear hS_ hb_ HI
    go_wp2
    go_ret2
    exact ⟨_, rfl, Kd.R_nil _ _ _ _ _, HB.out⟩
  | true =>
    obtain ⟨c, m, s, rfl, hm, hmc, hc1', hc8, hi, hiv, hs, hsc⟩ := invV_true g1
    rw [g1] at H0
    rw [hiv] at H0 hinv
    have HI := Aside0.mk hinv
    have HMS := Aside0.mk (show m.length = c ∧ 1 ≤ c ∧ c ≤ 8 ∧ Mat.MB' c s ∧ s.length = c from ⟨hmc, hc1', hc8, hs, hsc⟩)
    clear hinv hsz g1 hm hmc hc1' hc8 hi hiv hs hsc
    by_cases g2 : l1.length = (upM m).length
    rotate_left
    · rw [decide_eq_false g2] at H0
      injection H0 with e1 e2
      subst e1 e2
      have q1 : ((l1.length : Int) != ((upM m).length : Int)) = true := by rw [bne_iff_ne]; omega
      have q2 : (l1.length != (upM m).length) = true := by rw [bne_iff_ne]; exact g2
      clear h6 g2
      go_enter Try.func12, Try.ntmps12
      go_wp2_with fail
      refine HI.out.mono ?_
      rintro e w1 ⟨v1, rfl, hS_, hb_⟩
      have HB := Aside0.mk hb_
      clear hS_ hb_ HI
      go_wp2
      go_ret2
      exact ⟨_, rfl, Kd.R_nil _ _ _ _ _, HB.out⟩
    rw [decide_eq_true g2] at H0
    have q1 : ((l1.length : Int) != ((upM m).length : Int)) = false := by rw [g2]; simp
    have q2 : (l1.length != (upM m).length) = false := by rw [g2]; simp
    cases g3 : l1.all isB with
    | false =>
      rw [g3] at H0 h6
      injection H0 with e1 e2
      subst e1 e2
      have H6 := Aside0.mk h6
      clear h6 g2 g3
      go_enter Try.func12, Try.ntmps12
      go_wp2_with fail
      refine HI.out.mono ?_
      rintro e w1 ⟨v1, rfl, hS_, hb_⟩
      have HB := Aside0.mk hb_
      clear hS_ hb_ HI
      go_wp2_with (go_at_call 86; refine (spec_l1All.calls K6 A1 c1 l1 false _ (Kd.C_below HR1.out HB.out) HC1.out H6.out).mono ?_; rintro e w' ⟨rfl, ⟨nd3, rfl⟩⟩)
      go_ret2
      exact ⟨_, rfl, Kd.R_nil _ _ _ _ _, pw_below_drewN HB.out _⟩
    | true =>
      rw [g3] at H0 h6
      have H6 := Aside0.mk h6
      obtain ⟨y, rfl, hy⟩ := allB_up g3
      rw [dn_up, dnM_upM] at H0
      injection H0 with e1 e2
      subst e1 e2
      have hyl : y.length = c := by rw [Poly.up_length, upM_length] at g2; have := HMS.out.1; omega
      obtain ⟨K7, h7⟩ := (spec_l2Column_ev c s y HMS.out.2.2.2.1 hy hyl (by have := HMS.out; omega) (by have := HMS.out; omega)).rounds
      have H7 := Aside0.mk h7
      clear h6 g2 g3 h7 hy hyl
      go_enter Try.func12, Try.ntmps12
      go_wp2_with fail
      refine HI.out.mono ?_
      rintro e w1 ⟨v1, rfl, hS_, hb_⟩
      obtain ⟨B1, d1, rfl, hE_⟩ := (Env.Env.start (e := 23) (t := 3) w).madeS (by decide) hS_ hb_
      have HB := Aside0.mk hb_
      have HE := Aside0.mk hE_
      clear hS_ hb_ hE_ HI
      go_wp2_with (go_at_call 86; refine (spec_l1All.calls K6 A1 c1 (Poly.up y) true _ (Kd.C_below HR1.out HB.out) HC1.out H6.out).mono ?_; rintro e w' ⟨rfl, ⟨nd3, rfl⟩⟩)
      refine (spec_l2Column.calls K7 B1 d1 (upM s) A1 c1 (Poly.up y) (Poly.up (Mat.colM s y)) _ ((HE.out.drewN nd3).C (by decide) 0 rfl) (HE.out.cap (by decide) 0 rfl) ((HE.out.drewN nd3).camer HR1.out) HC1.out H7.out).mono ?_
      rintro e w4 ⟨v4, rfl, hR_, hb_⟩
      have HR4 := Aside0.mk (Kd.R_lower hR_ (HE.out.drewN nd3).1.size)
      have HB4 := Aside0.mk (below_step (HE.out.drewN nd3).1 hb_)
      clear hR_ hb_
      go_wp2
      go_ret2
      exact ⟨_, rfl, HR4.out, HB4.out⟩

theorem pv_fidx {k : Nat} : ∀ (M : List (List Nat)) (i : Int), fidx (fun row : List Int => rd row (k : Int) != 0) (upM M) i = match Mat.pv k M with | none => -1 | some j => i + (j : Int)
  | [], i => rfl
  | r :: M, i => by
    have ih := pv_fidx (k := k) M (i + 1)
    have eU : Mat.pv k (r :: M) = if r.getD k 0 ≠ 0 then some 0 else (Mat.pv k M).map (· + 1) := rfl
    have e : (rd (Poly.up r) (k : Int) != 0) = decide (r.getD k 0 ≠ 0) := by
      rw [Poly.rd_up, Bool.eq_iff_iff, bne_iff_ne, decide_eq_true_eq]; omega
    show (if (rd (Poly.up r) (k : Int) != 0) = true then i else fidx _ (upM M) (i + 1)) = _
    rw [e, ih, eU]
    by_cases h : r.getD k 0 ≠ 0
    · rw [decide_eq_true h, if_pos rfl, if_pos h]; simp
    · rw [decide_eq_false h, if_neg (by decide), if_neg h]
      cases Mat.pv k M with
      | none => rfl
      | some j => show i + 1 + (j : Int) = i + ((j + 1 : Nat) : Int); omega

set_option maxHeartbeats 4000000 in
theorem scan_solved_idx (p : List Int → Bool) (k0 : Value) (A : Option Addr) (c : Nat) (l : List (List Int)) (w : World) (hr : Kd.C (Kd.slice 3 (Kd.int .i64)) w A l.length l) (hc : l.length ≤ c) (hone : ∀ (q : Nat) (A1 : Option Addr) (c1 : Nat) (x : List Int), x ∈ l → (Kd.int .i64).C (w.drewN q) A1 x.length x → x.length ≤ c1 → Calls Try.prog 171 #[.slice A1 x.length c1, k0] (w.drewN q) fun e w' => e = .returned (.bool (p x)) ∧ ∃ q', w' = (w.drewN q).drewN q') :
    Calls Try.prog 170 #[.slice A l.length c, .func (.func 171) #[] #[k0]] w fun e w' => e = .returned (.int .i64 (fidx p l 0)) ∧ Drawn0 w w' := by
  have hn : l.length ≤ 9223372036854775807 := hr.2.1
  have HR := Aside0.mk hr
  have HC := Aside0.mk hc
  have HO := Aside0.mk hone
  clear hr hc hone
  have eg : ∀ args w, (callFunc 171 args).run Try.prog w = .ok (.enter 171 args) w := enters_of Try.func171 (by kernel_rfl) rfl
  go_enter Try.func170, Try.ntmps170
  go_wp2
  go_loopg [5, 8] l.length (fun gg _ s8 wr => ∃ kk q : Nat, kk ≤ l.length ∧ l.length - kk ≤ gg ∧ s8 = .int .i64 kk ∧ wr = w.drewN q ∧ Aside0 (fidx p (l.drop kk) kk = fidx p l 0))
  case atStart => exact ⟨0, 0, Nat.zero_le _, by omega, rfl, rfl, ⟨rfl⟩⟩
  case round =>
    obtain ⟨kk, q, hkk, hg, rfl, rfl, E⟩ := hrel
    by_cases hlt : kk < l.length
    · have hltz : (kk : Int) < (l.length : Int) := by omega
      obtain ⟨ad, A1, c1, ea, hx, hl1, hi⟩ := Mx.rows_at HR.out kk hlt hlt
      cases ea
      have E2 := Aside0.mk (List.drop_eq_getElem_cons hlt)
      have ED := E.out
      rw [E2.out, fidx_cons] at ED
      have hcall := HO.out q A1 c1 l[kk] (List.getElem_mem hlt) (Kd.C_drewN hi q) hl1
      clear hi
      generalize l[kk] = y at hx hl1 hcall ED
      cases hq : p y with
      | true =>
        rw [if_pos hq] at ED
        have ED' := Aside0.mk ED
        clear ED
        rw [hq] at hcall
        go_wp2_with (go_at_fn 171; refine hcall.mono ?_; rintro e w' ⟨rfl, q', rfl⟩)
        go_ret
        exact ⟨congrArg (fun z => Ending.returned (Value.int .i64 z)) ED'.out, ⟨_, rfl⟩⟩
      | false =>
        rw [if_neg (by rw [hq]; decide)] at ED
        have ED' := Aside0.mk ED
        clear ED
        rw [hq] at hcall
        go_wp2_with (go_at_fn 171; refine hcall.mono ?_; rintro e w' ⟨rfl, q', rfl⟩)
        go_roundg (l.length - (kk + 1))
        case measure => omega
        case rel => exact ⟨kk + 1, _, by omega, by omega, by go_num, rfl, ⟨by rw [← ED'.out]; congr 1⟩⟩
    · have : kk = l.length := by omega
      subst this
      go_wp2
      go_ret
      refine ⟨?_, ⟨q, rfl⟩⟩
      have := E.out
      rw [List.drop_length] at this
      rw [← this]
      rfl

set_option maxHeartbeats 4000000 in
theorem impl_solved_one (g k : Nat) (A : Option Addr) (c : Nat) (row : List Int) (w : World) (hg : w.cell? ⟨g, 0, none⟩ = some (.int .i64 (k : Int))) (hk : k < row.length) (hr : (Kd.int .i64).C w A row.length row) :
    Calls Try.prog 171 #[.slice A row.length c, .pointer (some ⟨g, 0, none⟩)] w fun e w' => e = .returned (.bool (rd row (k : Int) != 0)) ∧ ∃ q', w' = w.drewN q' := by
  obtain ⟨ad, rfl, hx⟩ := Kd.at_int hr (k : Int) (by omega) (by omega)
  rw [Int.toNat_natCast] at hx
  have p1 : ((k : Int) < (row.length : Int)) = True := eq_true (by omega)
  have p2 : (k < row.length) = True := eq_true hk
  have p3 : (0 ≤ (k : Int)) = True := eq_true (by omega)
  generalize rd row (k : Int) = x at hx ⊢
  clear hr hk
  by_cases h : x = 0
  · subst h
    go_enter Try.func171, Try.ntmps171
    go_wp2
    go_ret
    exact ⟨rfl, 0, rfl⟩
  · have q1 : (x != 0) = true := bne_iff_ne.mpr h
    have q2 : (x == 0) = false := beq_eq_false_iff_ne.mpr h
    rw [q1]
    clear h
    go_enter Try.func171, Try.ntmps171
    go_wp2
    go_ret
    exact ⟨rfl, 0, rfl⟩
def T_so12 : Bool × List (List Nat × List Nat) := (true, [([], []), ([], []), ([0, 1], [0, 1]), ([2], [2]), ([], []), ([], []), ([], []), ([5, 6], [5, 6]), ([7], [7]), ([], []), ([8, 9], [8, 9]), ([10], [10]), ([], []), ([11, 12], [11, 12]), ([3, 4, 0, 1, 2, 3, 4, 5, 6, 7, 8, 9, 10, 11, 12, 13], [3, 4]), ([14, 13, 13, 0, 1, 2, 3, 4, 5, 6, 7, 8, 9, 10, 11, 12, 13], [13, 14])])
def B_so12 : List Nat := [0, 0, 3, 7, 0, 0, 0, 96, 224, 0, 992, 2016, 0, 8160, 16383, 32767]
theorem tab_so12 : rtab .any (opsOf Try.f96 12) = T_so12 := by kernel_rfl
theorem bits_so12 : waitsOk T_so12.2 B_so12 = true := by kernel_rfl
def T_so22 : Bool × List (List Nat × List Nat) := (true, [([], []), ([], []), ([0, 1], [0, 1]), ([2], [2]), ([], []), ([], []), ([], []), ([5, 6], [5, 6]), ([7], [7]), ([], []), ([8, 9], [8, 9]), ([10], [10]), ([4, 11], [4, 11]), ([3, 12], [3, 12]), ([0, 1, 0, 1, 2, 3, 4, 5, 6, 7, 8, 9, 10, 11, 12, 13], [0, 1]), ([14, 13, 12, 0, 1, 2, 3, 4, 5, 6, 7, 8, 9, 10, 11, 12, 13], [13, 14])])
def B_so22 : List Nat := [0, 0, 3, 7, 0, 0, 0, 96, 224, 0, 992, 2016, 4080, 8191, 16383, 32767]
theorem tab_so22 : rtab .any (opsOf Try.f96 22) = T_so22 := by kernel_rfl
theorem bits_so22 : waitsOk T_so22.2 B_so22 = true := by kernel_rfl
set_option maxHeartbeats 16000000 in
set_option maxRecDepth 100000 in
theorem solved_e {w0 w : World} {L : List (Value × Env.It)} (E : Env.Env 23 3 w0 w L) (j : Nat) {A : Option Addr} {c : Nat} {m : List (List Nat)} (hj : L[j]? = some (.slice A m.length c, .mat (upM m))) {cc : Nat} (hm : Mat.MB' cc m) (d : Nat) (hd : d ≤ cc) (hc : cc ≤ 100) (h0 : 0 < m.length) (hl : m.length ≤ 100) :
    Calls Try.prog 96 #[.slice A m.length c, .int .i64 (d : Int)] w fun e w' => e = .returned (.int .i64 (((Mat.sv d 0 0 m).2 : Nat) : Int)) ∧ Env.Env 23 3 w0 w' (L.set j (.slice A m.length c, .mat (upM (Mat.sv d 0 0 m).1))) := by
  obtain ⟨n, hn⟩ : ∃ n, n = m.length := ⟨_, rfl⟩
  rw [← hn] at hj h0 hl ⊢
  have hcap := E.cap (by decide) j hj
  obtain ⟨g, _, _, hA, _⟩ := E.mrow (by decide) hj (i := 0) (by rw [upM_length]; omega)
  subst hA
  have HJ := Aside0.mk hj
  have HM := Aside0.mk hm
  have HN := Aside0.mk hn
  have HD := Aside0.mk (show d ≤ cc ∧ cc ≤ 100 ∧ n ≤ 100 ∧ n ≤ c from ⟨hd, hc, hl, hcap⟩)
  have HX : ∀ M : List (List Nat), (L.set j (.slice (some ⟨g, 0, none⟩) n c, .mat (upM M)))[j]? = some (.slice (some ⟨g, 0, none⟩) n c, .mat (upM M)) := fun M => Env.set_at hj
  have HXX := Aside0.mk HX
  have E0 : Env.Env 23 3 w0 w (L.set j (.slice (some ⟨g, 0, none⟩) n c, .mat (upM m))) := by
    have : L.set j (.slice (some ⟨g, 0, none⟩) n c, .mat (upM m)) = L := by
      apply List.ext_getElem?
      intro i
      by_cases h : j = i
      · subst h; rw [Env.set_at hj, hj]
      · rw [List.getElem?_set_ne h]
    rw [this]; exact E
  have HE := Aside0.mk E0
  have d100 : (d : Int) ≤ 100 := by omega
  clear E E0 HX hj hm hn hd hc hl hcap
  go_enter Try.func96, Try.ntmps96
  go_wp2
  go_loopg [5, 15] d (fun gg s5 s15 wr => ∃ (k r : Nat) (M : List (List Nat)), k ≤ d ∧ d - k ≤ gg ∧ s15 = .int .i64 k ∧ s5 = .int .i64 r ∧ r < n ∧ Aside0 (M.length = n ∧ Mat.MB' cc M ∧ r ≤ k ∧ Mat.sv (d - k) k r M = Mat.sv d 0 0 m) ∧ Aside0 (Env.Env 23 3 w0 wr (L.set j (.slice (some ⟨g, 0, none⟩) n c, .mat (upM M)))))
  case atStart => exact ⟨0, 0, m, Nat.zero_le _, by omega, rfl, rfl, h0, ⟨HN.out.symm, HM.out, Nat.le_refl _, rfl⟩, HE⟩
  case round =>
    clear HE HJ
    obtain ⟨k, r, M, hk', hg', rfl, rfl, hrn, HMM, ENV⟩ := hrel
    by_cases hlt : k < d
    · have k0 : (0 : Int) ≤ (k : Int) := by omega
      have k1 : (k : Int) < 100 := by omega
      have r0 : (0 : Int) ≤ (r : Int) := by omega
      have r1 : (r : Int) < 100 := by have := HD.out; omega
      have p1 : decide ((k : Int) < (d : Int)) = true := decide_eq_true (by omega)
      have p2 : decide (k < d) = true := decide_eq_true hlt
      obtain ⟨i0, hi0, _, hsz, _⟩ := info_parts infoR
      have hcut := cut_from (P := Try.prog) 22 23 .i64 Try.underlying22 hi0 1 hsz (some ⟨g, 0, none⟩) n c (r : Int) r0 (by omega)
      clear hi0 hsz
      have hMl : (M.drop r).length = n - r := by rw [List.length_drop, HMM.out.1]
      have hcr : ¬ c = r := by have := HD.out; omega
      have hE1 := ENV.out.box (k : Int)
      have hC1 := Kd.C_drop (m := r) (hE1.C (by decide) (j + 1) (HXX.out M)) (by rw [upM_length, HMM.out.1]; omega) (by rw [upM_length, HMM.out.1]; exact HD.out.2.2.2)
      rw [if_neg hcr] at hC1
      have eA : (some (⟨g, 0, none⟩ : Addr)).map (·.add (r * (Kd.slice 3 (Kd.int .i64)).sz)) = some ⟨g, r, none⟩ := by
        show some ((⟨g, 0, none⟩ : Addr).add (r * 1)) = _
        rw [Nat.mul_one, add_plain]
      have eD : (upM M).drop r = upM (M.drop r) := by unfold upM; rw [List.map_drop]
      rw [eA, eD] at hC1
      have hscan := scan_solved_idx (fun row : List Int => rd row (k : Int) != 0) (.pointer (some ⟨wr.heap.size, 0, none⟩)) (some ⟨g, r, none⟩) (c - r) (upM (M.drop r)) _ hC1 (by rw [upM_length, hMl]; have := HD.out; omega) (fun q A1 c1 x hx hxC hxc => impl_solved_one wr.heap.size k A1 c1 x _ ((blk_cell (blk_new wr _) 0).trans rfl) (by
        obtain ⟨y, hy, rfl⟩ := List.mem_map.1 hx
        have h8 := (HMM.out.2.1 y (List.mem_of_mem_drop hy)).1
        have h9 := HD.out
        rw [Poly.up_length]; omega) hxC)
      rw [pv_fidx, upM_length, hMl] at hscan
      have c1 : (c = r) = False := eq_false hcr
      have HE1 := Aside0.mk hE1
      clear hC1 eA eD hE1 hMl hcr
      cases hpv : Mat.pv k (M.drop r) with
      | none =>
        rw [hpv] at hscan
        have hsv : Mat.sv (d - (k + 1)) (k + 1) r M = Mat.sv d 0 0 m := by
          rw [← HMM.out.2.2.2, show d - k = (d - (k + 1)) + 1 by omega]
          conv => rhs; unfold Mat.sv
          rw [hpv]
        have HSV := Aside0.mk hsv
        clear hsv hpv
        change Calls _ _ _ _ fun e w' => e = Ending.returned (.int .i64 (-1)) ∧ Drawn0 _ w' at hscan
        go_wp2_with fail
        refine hscan.mono ?_
        rintro e w1 ⟨rfl, hd1⟩
        have HEW := Aside0.mk (HE1.out.below hd1.below)
        clear hscan HE1 hd1 hcut c1 ENV
        generalize wr.heap.size = gk at HEW ⊢
        go_wp2
        go_roundg (d - (k + 1))
        case measure => omega
        case rel => exact ⟨k + 1, r, M, by omega, by omega, by go_num, rfl, hrn, ⟨HMM.out.1, HMM.out.2.1, by have := HMM.out.2.2.1; omega, HSV.out⟩, ⟨HEW.out.tail⟩⟩
      | some p =>
        rw [hpv] at hscan
        have hps := Mat.pv_some hpv
        rw [List.length_drop, HMM.out.1] at hps
        have hpn : r + p < n := by omega
        have q2 : decide ((p : Int) < 0) = false := decide_eq_false (by omega)
        have pp0 : (0 : Int) ≤ (p : Int) := by omega
        have pp1 : (p : Int) < 100 := by have := HD.out; omega
        have HPV := Aside0.mk hpv
        have HPS := Aside0.mk hps
        clear hpv hps
        have hscan2 : Calls Try.prog 170 #[.slice (some ⟨g, r, none⟩) (n - r) (c - r), .func (.func 171) #[] #[.pointer (some ⟨wr.heap.size, 0, none⟩)]] (wr.alloc (.cells #[.int .i64 (k : Int)] 3 (0, 0))) fun e w' => e = Ending.returned (.int .i64 (p : Int)) ∧ Drawn0 (wr.alloc (.cells #[.int .i64 (k : Int)] 3 (0, 0))) w' := hscan.mono fun e w' ⟨h1, h2⟩ => ⟨h1.trans (by show Ending.returned (.int .i64 (0 + (p : Int))) = _; rw [Int.zero_add]), h2⟩
        clear hscan
        rename _ => hscan
        go_wp2_with fail
        refine hscan.mono ?_
        rintro e w1 ⟨rfl, hd1⟩
        have HEW := Aside0.mk (HE1.out.below hd1.below)
        clear hscan HE1 hd1 hcut c1 ENV
        generalize wr.heap.size = gk at HEW ⊢
        -- the rows change places
        obtain ⟨LX, hLX⟩ : ∃ LX : List (List Nat) → List (Value × Env.It), LX = fun Z => (.slice (some ⟨gk, 0, none⟩) 1 1, .row [(k : Int)]) :: L.set j (.slice (some ⟨g, 0, none⟩) n c, .mat (upM Z)) := ⟨_, rfl⟩
        have HL1 := Aside0.mk (show ∀ Z, (LX Z)[j + 1]? = some (.slice (some ⟨g, 0, none⟩) n c, .mat (upM Z)) from fun Z => by rw [hLX]; exact HXX.out Z)
        have HL2 := Aside0.mk (show ∀ Y Z, (LX Y).set (j + 1) (.slice (some ⟨g, 0, none⟩) n c, .mat (upM Z)) = LX Z from fun Y Z => by rw [hLX]; show (_ :: _) = (_ :: _); rw [List.set_set])
        have HL3 := Aside0.mk (show ∀ Z, (LX Z)[0]? = some (.slice (some ⟨gk, 0, none⟩) 1 1, .row [(k : Int)]) from fun Z => by rw [hLX]; rfl)
        have HL4 := Aside0.mk (show ∀ Z (W : World), Env.Env 23 3 w0 W (LX Z) → Env.Env 23 3 w0 W (L.set j (.slice (some ⟨g, 0, none⟩) n c, .mat (upM Z))) from fun Z W h => by rw [hLX] at h; exact h.tail)
        replace HEW := Aside0.mk (show Env.Env 23 3 w0 w1 (LX M) from by rw [hLX]; exact HEW.out)
        clear hLX
        obtain ⟨g', Aa, ca, Ab, cb, hA', hca, hfa, hcb, hfb, hsw⟩ := HEW.out.mswap (by decide) (HL1.out M) (a := r) (b := r + p) (by rw [upM_length, HMM.out.1]; exact hrn) (by rw [upM_length, HMM.out.1]; exact hpn)
        injection hA' with hA'
        injection hA' with hA'
        subst hA'
        rw [upM_getD] at hca
        rw [upM_getD] at hcb
        rw [upM_getD, upM_getD, upM_set, upM_set, HL2.out] at hsw
        obtain ⟨M1, hM1⟩ : ∃ M1, M1 = Mat.swp M r (r + p) := ⟨_, rfl⟩
        have HSW := Aside0.mk (show Env.Env 23 3 w0 _ (LX M1) from by rw [hM1]; exact hsw)
        have HM1 := Aside0.mk hM1
        have HB1 := Aside0.mk (show M1.length = n ∧ Mat.MB' cc M1 from by rw [hM1, Mat.swp_length, HMM.out.1]; exact ⟨rfl, Mat.swp_MB HMM.out.2.1 (by rw [HMM.out.1]; exact hrn) (by rw [HMM.out.1]; exact hpn)⟩)
        generalize M.getD r [] = ra at hca HSW
        generalize M.getD (r + p) [] = rb at hcb HSW
        have i1 : ((r : Int) < (n : Int)) = True := eq_true (by omega)
        have i2 : (((r : Int) + (p : Int)) < (n : Int)) = True := eq_true (by omega)
        have i3 : (0 ≤ (r : Int) + (p : Int)) = True := eq_true (by omega)
        have i4 : (r < n) = True := eq_true hrn
        have i5 : (r + p < n) = True := eq_true hpn
        have hcb2 : (w1.setCell ⟨g, r, none⟩ (.slice Ab (Poly.up rb).length cb)).cell? ⟨g, r + p, none⟩ = some (.slice Ab (Poly.up rb).length cb) := Env.cell_both hcb
        clear hsw hM1
        go_wp2_with fail
        go_region
        have hE2 := HSW.out.below (below_drew (Below.refl _ _))
        generalize ((w1.setCell ⟨g, r, none⟩ (.slice Ab (Poly.up rb).length cb)).setCell ⟨g, r + p, none⟩ (.slice Aa (Poly.up ra).length ca)).drew = w2 at hE2 ⊢
        clear HSW hca hfa hcb hfb hcb2 HEW i2 i3 i5 pp0 pp1 q2 hpn
        -- the number by which the row is divided
        have HR1 := Aside0.mk (HB1.out.2.get (i := r) (by rw [HB1.out.1]; exact hrn))
        obtain ⟨R1, hR1⟩ : ∃ R1, R1 = M1.getD r [] := ⟨_, rfl⟩
        have HER := Aside0.mk hR1
        have HRL := Aside0.mk (show R1.length = cc ∧ Poly.AllB R1 from by rw [hR1]; exact HR1.out)
        have kR : k < (Poly.up R1).length := by rw [Poly.up_length, HRL.out.1]; have := HD.out; omega
        obtain ⟨g', gu, cu, hA', hh1, _, hx1, _, _⟩ := hE2.mput2 (by decide) (HL1.out M1) (i := r) (q := k) (by rw [upM_length, HB1.out.1]; exact hrn) (by rw [upM_getD, ← hR1]; exact kR)
        injection hA' with hA'
        injection hA' with hA'
        subst hA'
        rw [upM_getD, ← hR1] at hh1 hx1
        rw [Poly.rd_up] at hx1
        have hbx := hE2.boxed 0 (HL3.out M1)
        obtain ⟨x, hx⟩ : ∃ x, x = R1.getD k 0 := ⟨_, rfl⟩
        have HXE := Aside0.mk hx
        have hxb : x < 256 := by rw [hx]; exact Poly.AllB.get HRL.out.2 k
        rw [← hx] at hx1
        have j1 : ((k : Int) < ((Poly.up R1).length : Int)) = True := eq_true (by omega)
        have j2 : (k < (Poly.up R1).length) = True := eq_true kR
        obtain ⟨K1, h1⟩ := (impl_inverse_ev x hxb).rounds
        have HK1 := Aside0.mk h1
        have HE2 := Aside0.mk hE2
        clear hR1 hx hxb kR h1 hE2
        go_wp2_with fail
        go_still_tail 7, (by kernel_rfl)
        change wpList _ _ _ _ _ (w2.drewN 1)
        go_wp2_with fail
        refine (impl_inverse.calls K1 (x : Int) _ _ HK1.out).mono ?_
        rintro e w3 ⟨rfl, hd3⟩
        have HE3 := Aside0.mk ((HE2.out.drewN 1).below hd3.below)
        clear hd3 HE2 HK1 hh1 hx1 hbx j1 j2
        -- the row is divided
        obtain ⟨f, hf⟩ : ∃ f, f = Gf.gi x := ⟨_, rfl⟩
        have HFE := Aside0.mk hf
        have hfb : f < 256 := by rw [hf]; exact Gf.gi_lt x
        rw [← hf]
        have hrl : (Poly.up R1).length = cc := by rw [Poly.up_length, HRL.out.1]
        obtain ⟨g', Au, cu, hA', hh3, _, _, _, _, _, _⟩ := HE3.out.mrow (by decide) (HL1.out M1) (i := r) (by rw [upM_length, HB1.out.1]; exact hrn)
        injection hA' with hA'
        injection hA' with hA'
        subst hA'
        rw [upM_getD, ← HER.out, hrl] at hh3
        have HS0 := Aside0.mk (show Env.Env 23 3 w0 w3 (LX (M1.set r (Mat.rscaleTo f R1 0))) from by rw [Mat.rscaleTo_zero, HER.out, Mat.set_self]; exact HE3.out)
        clear hf HE3
        go_wp2
        go_loopg [56] cc (fun gg s56 wq => ∃ i : Nat, i ≤ cc ∧ cc - i ≤ gg ∧ s56 = .int .i64 i ∧ Aside0 (Env.Env 23 3 w0 wq (LX (M1.set r (Mat.rscaleTo f R1 i)))))
        case atStart => exact ⟨0, Nat.zero_le _, by omega, rfl, HS0⟩
        case round =>
          clear HS0 hh3
          obtain ⟨i, hi', hgi, rfl, HSI⟩ := hrel
          by_cases hic : i < cc
          · have c100 : (i : Int) < 100 := by have := HD.out; omega
            have c0 : (0 : Int) ≤ (i : Int) := by omega
            have hYl : (M1.set r (Mat.rscaleTo f R1 i)).length = n := by rw [List.length_set]; exact HB1.out.1
            have hYr : (M1.set r (Mat.rscaleTo f R1 i)).getD r [] = Mat.rscaleTo f R1 i := by rw [Mat.getD_setL _ _ _ _ (by rw [HB1.out.1]; exact hrn), if_pos rfl]
            have hrl2 : (Poly.up (Mat.rscaleTo f R1 i)).length = cc := by rw [Poly.up_length, Mat.rscaleTo_length, HRL.out.1]
            obtain ⟨g', gu, cu, hA', hh, _, hx, _, hput⟩ := (HSI.out.drewN 1).mput2 (by decide) (HL1.out _) (i := r) (q := i) (by rw [upM_length, hYl]; exact hrn) (by rw [upM_getD, hYr, hrl2]; exact hic)
            injection hA' with hA'
            injection hA' with hA'
            subst hA'
            rw [upM_getD, hYr, hrl2] at hh
            rw [upM_getD, hYr, Poly.rd_up, Mat.rscaleTo_at f (by rw [HRL.out.1]; exact hic)] at hx
            have hset : (upM (M1.set r (Mat.rscaleTo f R1 i))).set r ((Poly.up (Mat.rscaleTo f R1 i)).set i ((Gf.gm (R1.getD i 0) f : Nat) : Int)) = upM (M1.set r (Mat.rscaleTo f R1 (i + 1))) := by rw [Poly.up_set, Mat.rscaleTo_succ f (by rw [HRL.out.1]; exact hic), upM_set, List.set_set]
            have hput2 : ∀ W, Below (wr.drewN 1).heap.size (wr.drewN 1) W → (∃ v, W.cell? ⟨gu, i, none⟩ = some v) ∧ W.frozen? ⟨gu, i, none⟩ = false ∧ Env.Env 23 3 w0 (W.setCell ⟨gu, i, none⟩ (.int .i64 ((Gf.gm (R1.getD i 0) f : Nat) : Int))) (LX (M1.set r (Mat.rscaleTo f R1 (i + 1)))) := fun W hW => by
              have h8 := hput W hW
              have h9 := h8.2.2 ((Gf.gm (R1.getD i 0) f : Nat) : Int)
              rw [upM_getD, hYr, hset, HL2.out] at h9
              exact ⟨⟨_, h8.1⟩, h8.2.1, h9⟩
            have HP := Aside0.mk hput2
            have hxi : R1.getD i 0 < 256 := Poly.AllB.get HRL.out.2 i
            obtain ⟨K2, h2⟩ := (impl_mul_ev (R1.getD i 0) f hxi hfb).rounds
            have HK2 := Aside0.mk h2
            have hh0 : wr.drew.cell? ⟨g, r, none⟩ = some (.slice (some ⟨gu, 0, none⟩) cc cu) := hh
            have hx0 : wr.drew.cell? ⟨gu, i, none⟩ = some (.int .i64 ((R1.getD i 0 : Nat) : Int)) := hx
            have hpw : ∀ W, Below wr.drew.heap.size wr.drew W → (∃ v, W.cell? ⟨gu, i, none⟩ = some v) ∧ W.frozen? ⟨gu, i, none⟩ = false ∧ Env.Env 23 3 w0 (W.setCell ⟨gu, i, none⟩ (.int .i64 ((Gf.gm (R1.getD i 0) f : Nat) : Int))) (LX (M1.set r (Mat.rscaleTo f R1 (i + 1)))) := HP.out
            have HPW := Aside0.mk hpw
            have j1 : ((i : Int) < (cc : Int)) = True := eq_true (by omega)
            have j2 : (i < cc) = True := eq_true hic
            generalize R1.getD i 0 = y at hx hx0 HPW HP HK2 hput2 hpw
            clear hput hput2 hset hYl hYr hrl2 hxi h2 hh hx HP hpw
            go_wp2_with fail
            refine start_ (n := 16) (S := fun w' => w'.cell? ⟨g, r, none⟩ = some (.slice (some ⟨gu, 0, none⟩) cc cu) ∧ w'.cell? ⟨gu, i, none⟩ = some (.int .i64 (y : Int))) (ds := [15]) #[false, false, false, false, false, false, false, false, false, false, false, false, false, false, false, false] (by kernel_rfl) rfl rfl (⟨hh0, hx0⟩) (fun hHeld => ?_); refine with_tabW tab_so12 bits_so12 (fun HT_ HW_ => ?_)
            generalize wr.drew = w5 at HPW hh0 hx0 hHeld ⊢
            refine pure_ (i := 0) (N := some 59) (v := ?_) (a' := ?_) #[true, false, false, false, false, false, false, false, false, false, false, false, false, false, false, false] rfl rfl (any_of HT_.out (by kernel_rfl)) (fun _ _ _ h => h) (Or.inl ⟨by rfl, ?_⟩) ?_ ?_
            rotate_left
            · intro w'
              go_simp
              with_reducible rfl
            rotate_left
            · simp only [Act.put, List.setIfInBounds_toArray, List.set_cons_zero, List.set_cons_succ, i64_w, i32_w]
              rfl
            refine pure_ (i := 1) (N := some 60) (v := ?_) (a' := ?_) #[true, true, false, false, false, false, false, false, false, false, false, false, false, false, false, false] rfl rfl (any_of HT_.out (by kernel_rfl)) (fun _ _ _ h => h) (Or.inl ⟨by rfl, ?_⟩) ?_ ?_
            rotate_left
            · intro w'
              go_simp
              with_reducible rfl
            rotate_left
            · simp only [Act.put, List.setIfInBounds_toArray, List.set_cons_zero, List.set_cons_succ, i64_w, i32_w]
              rfl
            refine pure_ (i := 2) (N := some 61) (v := ?_) (a' := ?_) #[true, true, true, false, false, false, false, false, false, false, false, false, false, false, false, false] rfl rfl (any_of HT_.out (by kernel_rfl)) (fun _ _ _ h => h) (Or.inl ⟨by rfl, ?_⟩) ?_ ?_
            rotate_left
            · intro w'
              go_simp
              with_reducible rfl
            rotate_left
            · simp only [Act.put, List.setIfInBounds_toArray, List.set_cons_zero, List.set_cons_succ, i64_w, i32_w]
              rfl
            refine pure_ (i := 4) (N := some 63) (v := ?_) (a' := ?_) #[true, true, true, false, true, false, false, false, false, false, false, false, false, false, false, false] rfl rfl (any_of HT_.out (by kernel_rfl)) (fun _ _ _ h => h) (Or.inl ⟨by rfl, ?_⟩) ?_ ?_
            rotate_left
            · intro w'
              go_simp
              with_reducible rfl
            rotate_left
            · simp only [Act.put, List.setIfInBounds_toArray, List.set_cons_zero, List.set_cons_succ, i64_w, i32_w]
              rfl
            refine pure_ (i := 5) (N := some 64) (v := ?_) (a' := ?_) #[true, true, true, false, true, true, false, false, false, false, false, false, false, false, false, false] rfl rfl (any_of HT_.out (by kernel_rfl)) (fun _ _ _ h => h) (Or.inl ⟨by rfl, ?_⟩) ?_ ?_
            rotate_left
            · intro w'
              go_simp
              with_reducible rfl
            rotate_left
            · simp only [Act.put, List.setIfInBounds_toArray, List.set_cons_zero, List.set_cons_succ, i64_w, i32_w]
              rfl
            refine pure_ (i := 6) (N := some 65) (v := ?_) (a' := ?_) #[true, true, true, false, true, true, true, false, false, false, false, false, false, false, false, false] rfl rfl (any_of HT_.out (by kernel_rfl)) (fun _ _ _ h => h) (Or.inl ⟨by rfl, ?_⟩) ?_ ?_
            rotate_left
            · intro w'
              go_simp
              with_reducible rfl
            rotate_left
            · simp only [Act.put, List.setIfInBounds_toArray, List.set_cons_zero, List.set_cons_succ, i64_w, i32_w]
              rfl
            refine pure_ (i := 7) (N := some 66) (v := ?_) (a' := ?_) #[true, true, true, false, true, true, true, true, false, false, false, false, false, false, false, false] rfl rfl (any_of HT_.out (by kernel_rfl)) (fun _ _ _ h => h) (Or.inl ⟨by rfl, ?_⟩) ?_ ?_
            rotate_left
            · intro w'
              go_simp
              with_reducible rfl
            rotate_left
            · simp only [Act.put, List.setIfInBounds_toArray, List.set_cons_zero, List.set_cons_succ, i64_w, i32_w]
              rfl
            refine pure_ (i := 9) (N := some 68) (v := ?_) (a' := ?_) #[true, true, true, false, true, true, true, true, false, true, false, false, false, false, false, false] rfl rfl (any_of HT_.out (by kernel_rfl)) (fun _ _ _ h => h) (Or.inl ⟨by rfl, ?_⟩) ?_ ?_
            rotate_left
            · intro w'
              go_simp
              with_reducible rfl
            rotate_left
            · simp only [Act.put, List.setIfInBounds_toArray, List.set_cons_zero, List.set_cons_succ, i64_w, i32_w]
              rfl
            refine pure_ (i := 12) (N := some 71) (v := ?_) (a' := ?_) #[true, true, true, false, true, true, true, true, false, true, false, false, true, false, false, false] rfl rfl (any_of HT_.out (by kernel_rfl)) (fun _ _ _ h => h) (Or.inl ⟨by rfl, ?_⟩) ?_ ?_
            rotate_left
            · intro w'
              go_simp
              with_reducible rfl
            rotate_left
            · simp only [Act.put, List.setIfInBounds_toArray, List.set_cons_zero, List.set_cons_succ, i64_w, i32_w]
              rfl
            refine take_ (i := 3) (N := some 62) (v := ?_) (a' := ?_) #[true, true, true, true, true, true, true, true, false, true, false, false, true, false, false, false] rfl rfl (take_ofW HT_.out HW_.out (by kernel_rfl)) (fun _ _ _ h => h) (Or.inl ⟨by rfl, ?_⟩) hHeld ?_ ?_
            rotate_left
            · rintro w' ⟨s0, s1⟩
              go_simp
              with_reducible rfl
            rotate_left
            · simp only [Act.put, List.setIfInBounds_toArray, List.set_cons_zero, List.set_cons_succ, i64_w, i32_w]
              rfl
            refine take_ (i := 8) (N := some 67) (v := ?_) (a' := ?_) #[true, true, true, true, true, true, true, true, true, true, false, false, true, false, false, false] rfl rfl (take_ofW HT_.out HW_.out (by kernel_rfl)) (fun _ _ _ h => h) (Or.inl ⟨by rfl, ?_⟩) hHeld ?_ ?_
            rotate_left
            · rintro w' ⟨s0, s1⟩
              go_simp
              with_reducible rfl
            rotate_left
            · simp only [Act.put, List.setIfInBounds_toArray, List.set_cons_zero, List.set_cons_succ, i64_w, i32_w]
              rfl
            refine pure_ (i := 10) (N := some 69) (v := ?_) (a' := ?_) #[true, true, true, true, true, true, true, true, true, true, true, false, true, false, false, false] rfl rfl (any_of HT_.out (by kernel_rfl)) (fun _ _ _ h => h) (Or.inl ⟨by rfl, ?_⟩) ?_ ?_
            rotate_left
            · intro w'
              go_simp
              with_reducible rfl
            rotate_left
            · simp only [Act.put, List.setIfInBounds_toArray, List.set_cons_zero, List.set_cons_succ, i64_w, i32_w]
              rfl
            refine take_ (i := 11) (N := some 70) (v := ?_) (a' := ?_) #[true, true, true, true, true, true, true, true, true, true, true, true, true, false, false, false] rfl rfl (take_ofW HT_.out HW_.out (by kernel_rfl)) (fun _ _ _ h => h) (Or.inl ⟨by rfl, ?_⟩) hHeld ?_ ?_
            rotate_left
            · rintro w' ⟨s0, s1⟩
              go_simp
              with_reducible rfl
            rotate_left
            · simp only [Act.put, List.setIfInBounds_toArray, List.set_cons_zero, List.set_cons_succ, i64_w, i32_w]
              rfl
            refine one_ (i := 13) (N := some 72) #[true, true, true, true, true, true, true, true, true, true, true, true, true, true, false, false] rfl rfl (one_of HT_.out (by kernel_rfl)) (by decide) (fun K hK => ?_)
            refine goes_ Try.func128 (by kernel_rfl) rfl #[.int .i64 (y : Int), .int .i64 (f : Int)] (by rfl) rfl rfl (by (try simp only [List.map_toArray, List.map_cons, List.map_nil]); first | done | rfl | (simp only [List.length_drop, List.length_take]; rfl)) ?_
            refine (impl_mul.calls K2 (y : Int) (f : Int) _ _ HK2.out).mono ?_
            rintro e w4 ⟨rfl, hd4⟩
            refine ⟨_, rfl, ?_⟩
            obtain ⟨⟨v4, hv4⟩, hf4, hE4⟩ := HPW.out w4 hd4.below
            have HE4 := Aside0.mk hE4
            have hS4 := And.intro (pw_cell_below hd4.below hh0) (pw_cell_below hd4.below hx0)
            clear hE4 hd4 HPW HK2 hh0 hx0
            refine hK.out _ _ hS4 (fun hHeld => ?_)
            clear hK K hS4
            refine norm_ (a' := ?_) ?_ ?_
            rotate_left
            · show Act.put _ (some 72) _ = _
              simp only [Act.put, List.setIfInBounds_toArray, List.set_cons_zero, List.set_cons_succ, i64_w, i32_w]
              rfl
            refine pure_ (i := 14) (N := some 73) (v := ?_) (a' := ?_) #[true, true, true, true, true, true, true, true, true, true, true, true, true, true, true, false] rfl rfl (any_of HT_.out (by kernel_rfl)) (fun _ _ _ h => h) (Or.inl ⟨by rfl, ?_⟩) ?_ ?_
            rotate_left
            · intro w'
              go_simp
              with_reducible rfl
            rotate_left
            · simp only [Act.put, List.setIfInBounds_toArray, List.set_cons_zero, List.set_cons_succ, i64_w, i32_w]
              rfl
            refine last_ (i := 15) (N := none) #[true, true, true, true, true, true, true, true, true, true, true, true, true, true, true, true] rfl rfl (one_of HT_.out (by kernel_rfl)) (by decide) (fun K hK => ?_)
            refine skip_ (w1 := ?_) (by rfl) rfl ?_ ?_
            rotate_left
            · go_simp
              rfl
            refine hK.out _ _ ?_
            clear hK K
            refine done_ (done_of HT_.out (by kernel_rfl)) ?_
            go_wp2
            go_roundg (cc - (i + 1))
            case measure => omega
            case rel => exact ⟨i + 1, by omega, by omega, by go_num, HE4⟩
          · have hie : i = cc := by omega
            have hTL : Mat.rscaleTo f R1 i = Mat.rscale f R1 := by rw [hie, ← HRL.out.1, Mat.rscaleTo_all]
            have hE5 := HSI.out
            rw [hTL] at hE5
            obtain ⟨T, hT⟩ : ∃ T, T = Mat.rscale f R1 := ⟨_, rfl⟩
            have HTE := Aside0.mk hT
            rw [← hT] at hE5
            have HTL := Aside0.mk (show T.length = cc ∧ Poly.AllB T from by rw [hT]; exact ⟨by rw [Mat.rscale_length]; exact HRL.out.1, Mat.rscale_bytes _ HRL.out.2⟩)
            obtain ⟨C, hC⟩ : ∃ C, C = Mat.col k M1 := ⟨_, rfl⟩
            have HCE := Aside0.mk hC
            have HCB := Aside0.mk (show Poly.AllB C from by rw [hC]; exact Mat.col_bytes HB1.out.2 k)
            have HCA := Aside0.mk (show ∀ i, C.getD i 0 = (M1.getD i []).getD k 0 from fun i => by rw [hC]; exact Mat.col_at k M1 i)
            have HCL := Aside0.mk (show C.length = (M1.set r T).length from by rw [hC, Mat.col_length, List.length_set])
            have HNL := Aside0.mk (show (M1.set r T).length = n from by rw [List.length_set]; exact HB1.out.1)
            have HMR := Aside0.mk (show (M1.set r T).getD r [] = T from by rw [Mat.getD_setL _ _ _ _ (by rw [HB1.out.1]; exact hrn), if_pos rfl])
            have HMO := Aside0.mk (show ∀ i, ¬ i = r → (M1.set r T).getD i [] = M1.getD i [] from fun i hi => by rw [Mat.getD_setL _ _ _ _ (by rw [HB1.out.1]; exact hrn), if_neg hi])
            have HEZ := Aside0.mk (show Env.Env 23 3 w0 wr (LX (Mat.erT T r C (M1.set r T) 0)) from by rw [Mat.erT_zero]; exact hE5)
            have qie : ((cc : Int) < (cc : Int)) = False := eq_false (by omega)
            obtain rfl : cc = i := hie.symm
            clear hE5 hT hTL hC HSI hgi hfb hie
            go_wp2
            go_loopg [77] n (fun gg s77 wq => ∃ i : Nat, i ≤ n ∧ n - i ≤ gg ∧ s77 = .int .i64 i ∧ Aside0 (Env.Env 23 3 w0 wq (LX (Mat.erT T r C (M1.set r T) i))))
            case atStart => exact ⟨0, Nat.zero_le _, by omega, rfl, HEZ⟩
            case round =>
              clear HEZ
              obtain ⟨i, hi', hgi, rfl, HSI⟩ := hrel
              by_cases hin : i < n
              · have z0 : (0 : Int) ≤ (i : Int) := by omega
                have z1 : (i : Int) < 100 := by have := HD.out; omega
                have hYl : (Mat.erT T r C (M1.set r T) i).length = n := by rw [Mat.erT_length HCL.out]; exact HNL.out
                have hYi : (Mat.erT T r C (M1.set r T) i).getD i [] = (M1.set r T).getD i [] := by
                  rw [List.getD_eq_getElem?_getD, Mat.erT_at HCL.out (Nat.le_refl _) (by rw [HNL.out]; exact hin)]; rfl
                have hYr : (Mat.erT T r C (M1.set r T) i).getD r [] = T := by rw [Mat.erT_top HCL.out i (by rw [HNL.out]; exact hrn)]; exact HMR.out
                have hstep := Mat.erT_succ (top := T) (a := r) HCL.out (i := i) (by rw [HNL.out]; exact hin)
                have hkc : k < cc := by have := HD.out; omega
                have p3 : ((i : Int) < (n : Int)) = True := eq_true (by omega)
                have p4 : (i < n) = True := eq_true hin
                have p5 : ((k : Int) < (cc : Int)) = True := eq_true (by omega)
                have p6 : (k < cc) = True := eq_true hkc
                obtain ⟨Z, hZ⟩ : ∃ Z, Z = Mat.erT T r C (M1.set r T) i := ⟨_, rfl⟩
                have HZ := Aside0.mk hZ
                have hbx := HSI.out.boxed 0 (HL3.out _)
                rw [← hZ] at hYl hYi hYr hstep HSI
                by_cases hir : i = r
                · have hRi : Z.getD i [] = T := by rw [hir]; exact hYr
                  obtain ⟨g', gi, ci, hA', hh, _, hx, _, _⟩ := HSI.out.mput2 (by decide) (HL1.out _) (i := i) (q := k) (by rw [upM_length, hYl]; exact hin) (by rw [upM_getD, hRi, Poly.up_length, HTL.out.1]; exact hkc)
                  injection hA' with hA'
                  injection hA' with hA'
                  subst hA'
                  rw [upM_getD, hRi, Poly.up_length, HTL.out.1] at hh
                  rw [upM_getD, hRi, Poly.rd_up] at hx
                  have hst : Mat.erT T r C (M1.set r T) (i + 1) = Z := by rw [← hstep]; unfold Mat.erow; rw [if_pos hir, ← hYi]; exact Mat.set_self _ _
                  have HST := Aside0.mk hst
                  have e1 : ((i : Int) != (r : Int)) = false := by rw [hir]; simp
                  have e2 : ((i : Int) == (r : Int)) = true := by rw [hir]; simp
                  generalize T.getD k 0 = tk at hx
                  clear hRi hst hstep hYr hYi hYl hZ hkc hir
                  go_wp2_with fail
                  go_loopg [88] cc (fun gg s88 wq => ∃ q : Nat, q ≤ cc ∧ cc - q ≤ gg ∧ s88 = .int .i64 q ∧ Aside0 (Env.Env 23 3 w0 wq (LX Z)))
                  case atStart => exact ⟨0, Nat.zero_le _, by omega, rfl, HSI⟩
                  case round =>
                    clear HSI hh hx hbx
                    obtain ⟨q, hq', hgq, rfl, HSQ⟩ := hrel
                    have y0 : (0 : Int) ≤ (q : Int) := by omega
                    have y1 : (q : Int) ≤ 100 := by have := HD.out; omega
                    by_cases hqc : q < cc
                    · have j1 : ((q : Int) < (cc : Int)) = True := eq_true (by omega)
                      go_wp2
                      go_roundg (cc - (q + 1))
                      case measure => omega
                      case rel => exact ⟨q + 1, by omega, by omega, by go_num, HSQ⟩
                    · have j1 : ((q : Int) < (cc : Int)) = False := eq_false (by omega)
                      go_wp2
                      go_roundg (n - (i + 1))
                      case measure => omega
                      case rel => exact ⟨i + 1, by omega, by omega, by go_num, ⟨by rw [HST.out]; exact HSQ.out⟩⟩
                · obtain ⟨R, hR⟩ : ∃ R, R = M1.getD i [] := ⟨_, rfl⟩
                  have hRi : Z.getD i [] = R := by rw [hYi, hR]; exact HMO.out i hir
                  have HRB := Aside0.mk (show R.length = cc ∧ Poly.AllB R from by rw [hR]; exact HB1.out.2.get (by rw [HB1.out.1]; exact hin))
                  obtain ⟨y0, hy0⟩ : ∃ y0, y0 = R.getD k 0 := ⟨_, rfl⟩
                  have HYB := Aside0.mk (show y0 < 256 from by rw [hy0]; exact Poly.AllB.get HRB.out.2 k)
                  have HST := Aside0.mk (show Z.set i (Mat.radd y0 R T) = Mat.erT T r C (M1.set r T) (i + 1) from by rw [← hstep]; unfold Mat.erow; rw [if_neg hir, HMO.out i hir, HCA.out, ← hR, ← hy0])
                  have HZI := Aside0.mk (show ∀ X, (Z.set i X).getD i [] = X from fun X => by rw [Mat.getD_setL _ _ _ _ (by rw [hYl]; exact hin), if_pos rfl])
                  have HZR := Aside0.mk (show ∀ X, (Z.set i X).getD r [] = T from fun X => by rw [Mat.getD_setL _ _ _ _ (by rw [hYl]; exact hin), if_neg (fun h => hir h.symm)]; exact hYr)
                  have HZL := Aside0.mk hYl
                  obtain ⟨g', gi, ci, hA', hh, _, hx, _, _⟩ := HSI.out.mput2 (by decide) (HL1.out _) (i := i) (q := k) (by rw [upM_length, hYl]; exact hin) (by rw [upM_getD, hRi, Poly.up_length, HRB.out.1]; exact hkc)
                  injection hA' with hA'
                  injection hA' with hA'
                  subst hA'
                  rw [upM_getD, hRi, Poly.up_length, HRB.out.1] at hh
                  rw [upM_getD, hRi, Poly.rd_up, ← hy0] at hx
                  have HSI0 := Aside0.mk (show Env.Env 23 3 w0 wr (LX (Z.set i (Mat.raddTo y0 R T 0))) from by rw [Mat.raddTo_zero, ← hRi, Mat.set_self]; exact HSI.out)
                  have HHK := Aside0.mk hh
                  have e1 : ((i : Int) != (r : Int)) = true := by simp; omega
                  have e2 : ((i : Int) == (r : Int)) = false := by simp; omega
                  clear hRi hstep hYr hYi hYl hZ hkc HSI hy0 hR
                  go_wp2_with fail
                  go_loopg [88] cc (fun gg s88 wq => ∃ q : Nat, q ≤ cc ∧ cc - q ≤ gg ∧ s88 = .int .i64 q ∧ Aside0 (Env.Env 23 3 w0 wq (LX (Z.set i (Mat.raddTo y0 R T q)))) ∧ Aside0 (wq.cell? ⟨g, i, none⟩ = some (.slice (some ⟨gi, 0, none⟩) cc ci)))
                  case atStart => exact ⟨0, Nat.zero_le _, by omega, rfl, HSI0, HHK⟩
                  case round =>
                    clear HSI0 HHK hh hx hbx
                    obtain ⟨q, hq', hgq, rfl, HSQ, HHK⟩ := hrel
                    have x0 : (0 : Int) ≤ (q : Int) := by omega
                    have x1 : (q : Int) ≤ 100 := by have := HD.out; omega
                    have hRT : R.length = T.length := by rw [HRB.out.1, HTL.out.1]
                    by_cases hqc : q < cc
                    · have hqR : q < R.length := by rw [HRB.out.1]; exact hqc
                      have hrl2 : (Poly.up (Mat.raddTo y0 R T q)).length = cc := by rw [Poly.up_length, Mat.raddTo_length hRT, HRB.out.1]
                      have HQ := HSQ.out.drewN 1
                      obtain ⟨g', gu, cu, hA', hh, _, hx, _, hput⟩ := HQ.mput2 (by decide) (HL1.out _) (i := i) (q := q) (by rw [upM_length, List.length_set, HZL.out]; exact hin) (by rw [upM_getD, HZI.out, hrl2]; exact hqc)
                      injection hA' with hA'
                      injection hA' with hA'
                      subst hA'
                      rw [upM_getD, HZI.out, hrl2] at hh
                      have hne := HQ.mne (by decide) (HL1.out _) (i := i) (by rw [upM_length, List.length_set, HZL.out]; exact hin) hh
                      have hk2 := hh.symm.trans HHK.out
                      injection hk2 with hk2
                      injection hk2 with hk3 _ hk4
                      injection hk3 with hk3
                      injection hk3 with hk3
                      subst hk3 hk4
                      rw [upM_getD, HZI.out, Poly.rd_up, Mat.raddTo_at hRT hqR] at hx
                      obtain ⟨g', gt, ct, hA', ht, _, htx, _, _⟩ := HQ.mput2 (by decide) (HL1.out _) (i := r) (q := q) (by rw [upM_length, List.length_set, HZL.out]; exact hrn) (by rw [upM_getD, HZR.out, Poly.up_length, HTL.out.1]; exact hqc)
                      injection hA' with hA'
                      injection hA' with hA'
                      subst hA'
                      rw [upM_getD, HZR.out, Poly.up_length, HTL.out.1] at ht
                      rw [upM_getD, HZR.out, Poly.rd_up] at htx
                      have hyb : R.getD q 0 < 256 := Poly.AllB.get HRB.out.2 q
                      have htb : T.getD q 0 < 256 := Poly.AllB.get HTL.out.2 q
                      have hxr := xor_up hyb (Gf.gm_lt (T.getD q 0) HYB.out)
                      have hset : (upM (Z.set i (Mat.raddTo y0 R T q))).set i ((Poly.up (Mat.raddTo y0 R T q)).set q (Go.bits .xor .i64 ((R.getD q 0 : Nat) : Int) ((Gf.gm y0 (T.getD q 0) : Nat) : Int))) = upM (Z.set i (Mat.raddTo y0 R T (q + 1))) := by rw [hxr, Poly.up_set, Mat.raddTo_succ hRT hqR, upM_set, List.set_set]
                      have hput2 : ∀ W, Below wr.drew.heap.size wr.drew W → (∃ v, W.cell? ⟨gu, q, none⟩ = some v) ∧ W.frozen? ⟨gu, q, none⟩ = false ∧ Env.Env 23 3 w0 (W.setCell ⟨gu, q, none⟩ (.int .i64 (Go.bits .xor .i64 ((R.getD q 0 : Nat) : Int) ((Gf.gm y0 (T.getD q 0) : Nat) : Int)))) (LX (Z.set i (Mat.raddTo y0 R T (q + 1)))) ∧ (W.setCell ⟨gu, q, none⟩ (.int .i64 (Go.bits .xor .i64 ((R.getD q 0 : Nat) : Int) ((Gf.gm y0 (T.getD q 0) : Nat) : Int)))).cell? ⟨g, i, none⟩ = some (.slice (some ⟨gu, 0, none⟩) cc cu) := fun W hW => by
                        have h8 := hput W hW
                        have h9 := h8.2.2 (Go.bits .xor .i64 ((R.getD q 0 : Nat) : Int) ((Gf.gm y0 (T.getD q 0) : Nat) : Int))
                        rw [upM_getD, HZI.out, hset, HL2.out] at h9
                        exact ⟨⟨_, h8.1⟩, h8.2.1, h9, Env.cell_far (pw_cell_below hW hh) hne⟩
                      have HPW := Aside0.mk hput2
                      obtain ⟨K2, h2⟩ := (impl_mul_ev y0 (T.getD q 0) HYB.out htb).rounds
                      have HK2 := Aside0.mk h2
                      have hx0 : wr.drew.cell? ⟨gu, q, none⟩ = some (.int .i64 ((R.getD q 0 : Nat) : Int)) := hx
                      have ht0 : wr.drew.cell? ⟨g, r, none⟩ = some (.slice (some ⟨gt, 0, none⟩) cc ct) := ht
                      have htx0 : wr.drew.cell? ⟨gt, q, none⟩ = some (.int .i64 ((T.getD q 0 : Nat) : Int)) := htx
                      have j1 : ((q : Int) < (cc : Int)) = True := eq_true (by omega)
                      have j2 : (q < cc) = True := eq_true hqc
                      generalize R.getD q 0 = y at hx0 HPW
                      generalize T.getD q 0 = tq at htx0 HPW HK2
                      clear hput hput2 hset hxr hyb htb h2 hh hx ht htx hne HQ hqR hrl2 hRT HHK HSQ
                      go_wp2_with fail
                      refine start_ (n := 16) (S := fun w' => w'.cell? ⟨gu, q, none⟩ = some (.int .i64 (y : Int)) ∧ w'.cell? ⟨g, r, none⟩ = some (.slice (some ⟨gt, 0, none⟩) cc ct) ∧ w'.cell? ⟨gt, q, none⟩ = some (.int .i64 (tq : Int))) (ds := [15]) #[false, false, false, false, false, false, false, false, false, false, false, false, false, false, false, false] (by kernel_rfl) rfl rfl (⟨hx0, ht0, htx0⟩) (fun hHeld => ?_); refine with_tabW tab_so22 bits_so22 (fun HT_ HW_ => ?_)
                      generalize wr.drew = w5 at HPW hx0 ht0 htx0 hHeld ⊢
                      refine pure_ (i := 0) (N := some 94) (v := ?_) (a' := ?_) #[true, false, false, false, false, false, false, false, false, false, false, false, false, false, false, false] rfl rfl (any_of HT_.out (by kernel_rfl)) (fun _ _ _ h => h) (Or.inl ⟨by rfl, ?_⟩) ?_ ?_
                      rotate_left
                      · intro w'
                        go_simp
                        with_reducible rfl
                      rotate_left
                      · simp only [Act.put, List.setIfInBounds_toArray, List.set_cons_zero, List.set_cons_succ, i64_w, i32_w]
                        rfl
                      refine pure_ (i := 1) (N := some 95) (v := ?_) (a' := ?_) #[true, true, false, false, false, false, false, false, false, false, false, false, false, false, false, false] rfl rfl (any_of HT_.out (by kernel_rfl)) (fun _ _ _ h => h) (Or.inl ⟨by rfl, ?_⟩) ?_ ?_
                      rotate_left
                      · intro w'
                        go_simp
                        with_reducible rfl
                      rotate_left
                      · simp only [Act.put, List.setIfInBounds_toArray, List.set_cons_zero, List.set_cons_succ, i64_w, i32_w]
                        rfl
                      refine pure_ (i := 2) (N := some 96) (v := ?_) (a' := ?_) #[true, true, true, false, false, false, false, false, false, false, false, false, false, false, false, false] rfl rfl (any_of HT_.out (by kernel_rfl)) (fun _ _ _ h => h) (Or.inl ⟨by rfl, ?_⟩) ?_ ?_
                      rotate_left
                      · intro w'
                        go_simp
                        with_reducible rfl
                      rotate_left
                      · simp only [Act.put, List.setIfInBounds_toArray, List.set_cons_zero, List.set_cons_succ, i64_w, i32_w]
                        rfl
                      refine pure_ (i := 4) (N := some 98) (v := ?_) (a' := ?_) #[true, true, true, false, true, false, false, false, false, false, false, false, false, false, false, false] rfl rfl (any_of HT_.out (by kernel_rfl)) (fun _ _ _ h => h) (Or.inl ⟨by rfl, ?_⟩) ?_ ?_
                      rotate_left
                      · intro w'
                        go_simp
                        with_reducible rfl
                      rotate_left
                      · simp only [Act.put, List.setIfInBounds_toArray, List.set_cons_zero, List.set_cons_succ, i64_w, i32_w]
                        rfl
                      refine pure_ (i := 5) (N := some 99) (v := ?_) (a' := ?_) #[true, true, true, false, true, true, false, false, false, false, false, false, false, false, false, false] rfl rfl (any_of HT_.out (by kernel_rfl)) (fun _ _ _ h => h) (Or.inl ⟨by rfl, ?_⟩) ?_ ?_
                      rotate_left
                      · intro w'
                        go_simp
                        with_reducible rfl
                      rotate_left
                      · simp only [Act.put, List.setIfInBounds_toArray, List.set_cons_zero, List.set_cons_succ, i64_w, i32_w]
                        rfl
                      refine pure_ (i := 6) (N := some 100) (v := ?_) (a' := ?_) #[true, true, true, false, true, true, true, false, false, false, false, false, false, false, false, false] rfl rfl (any_of HT_.out (by kernel_rfl)) (fun _ _ _ h => h) (Or.inl ⟨by rfl, ?_⟩) ?_ ?_
                      rotate_left
                      · intro w'
                        go_simp
                        with_reducible rfl
                      rotate_left
                      · simp only [Act.put, List.setIfInBounds_toArray, List.set_cons_zero, List.set_cons_succ, i64_w, i32_w]
                        rfl
                      refine pure_ (i := 7) (N := some 101) (v := ?_) (a' := ?_) #[true, true, true, false, true, true, true, true, false, false, false, false, false, false, false, false] rfl rfl (any_of HT_.out (by kernel_rfl)) (fun _ _ _ h => h) (Or.inl ⟨by rfl, ?_⟩) ?_ ?_
                      rotate_left
                      · intro w'
                        go_simp
                        with_reducible rfl
                      rotate_left
                      · simp only [Act.put, List.setIfInBounds_toArray, List.set_cons_zero, List.set_cons_succ, i64_w, i32_w]
                        rfl
                      refine pure_ (i := 9) (N := some 103) (v := ?_) (a' := ?_) #[true, true, true, false, true, true, true, true, false, true, false, false, false, false, false, false] rfl rfl (any_of HT_.out (by kernel_rfl)) (fun _ _ _ h => h) (Or.inl ⟨by rfl, ?_⟩) ?_ ?_
                      rotate_left
                      · intro w'
                        go_simp
                        with_reducible rfl
                      rotate_left
                      · simp only [Act.put, List.setIfInBounds_toArray, List.set_cons_zero, List.set_cons_succ, i64_w, i32_w]
                        rfl
                      refine take_ (i := 3) (N := some 97) (v := ?_) (a' := ?_) #[true, true, true, true, true, true, true, true, false, true, false, false, false, false, false, false] rfl rfl (take_ofW HT_.out HW_.out (by kernel_rfl)) (fun _ _ _ h => h) (Or.inl ⟨by rfl, ?_⟩) hHeld ?_ ?_
                      rotate_left
                      · rintro w' ⟨s0, s1, s2⟩
                        go_simp
                        with_reducible rfl
                      rotate_left
                      · simp only [Act.put, List.setIfInBounds_toArray, List.set_cons_zero, List.set_cons_succ, i64_w, i32_w]
                        rfl
                      refine take_ (i := 8) (N := some 102) (v := ?_) (a' := ?_) #[true, true, true, true, true, true, true, true, true, true, false, false, false, false, false, false] rfl rfl (take_ofW HT_.out HW_.out (by kernel_rfl)) (fun _ _ _ h => h) (Or.inl ⟨by rfl, ?_⟩) hHeld ?_ ?_
                      rotate_left
                      · rintro w' ⟨s0, s1, s2⟩
                        go_simp
                        with_reducible rfl
                      rotate_left
                      · simp only [Act.put, List.setIfInBounds_toArray, List.set_cons_zero, List.set_cons_succ, i64_w, i32_w]
                        rfl
                      refine pure_ (i := 10) (N := some 104) (v := ?_) (a' := ?_) #[true, true, true, true, true, true, true, true, true, true, true, false, false, false, false, false] rfl rfl (any_of HT_.out (by kernel_rfl)) (fun _ _ _ h => h) (Or.inl ⟨by rfl, ?_⟩) ?_ ?_
                      rotate_left
                      · intro w'
                        go_simp
                        with_reducible rfl
                      rotate_left
                      · simp only [Act.put, List.setIfInBounds_toArray, List.set_cons_zero, List.set_cons_succ, i64_w, i32_w]
                        rfl
                      refine take_ (i := 11) (N := some 105) (v := ?_) (a' := ?_) #[true, true, true, true, true, true, true, true, true, true, true, true, false, false, false, false] rfl rfl (take_ofW HT_.out HW_.out (by kernel_rfl)) (fun _ _ _ h => h) (Or.inl ⟨by rfl, ?_⟩) hHeld ?_ ?_
                      rotate_left
                      · rintro w' ⟨s0, s1, s2⟩
                        go_simp
                        with_reducible rfl
                      rotate_left
                      · simp only [Act.put, List.setIfInBounds_toArray, List.set_cons_zero, List.set_cons_succ, i64_w, i32_w]
                        rfl
                      refine one_ (i := 12) (N := some 106) #[true, true, true, true, true, true, true, true, true, true, true, true, true, false, false, false] rfl rfl (one_of HT_.out (by kernel_rfl)) (by decide) (fun K hK => ?_)
                      refine goes_ Try.func128 (by kernel_rfl) rfl #[.int .i64 (y0 : Int), .int .i64 (tq : Int)] (by rfl) rfl rfl (by (try simp only [List.map_toArray, List.map_cons, List.map_nil]); first | done | rfl | (simp only [List.length_drop, List.length_take]; rfl)) ?_
                      refine (impl_mul.calls K2 (y0 : Int) (tq : Int) _ _ HK2.out).mono ?_
                      rintro e w4 ⟨rfl, hd4⟩
                      refine ⟨_, rfl, ?_⟩
                      obtain ⟨⟨v4, hv4⟩, hf4, hE4, hC4⟩ := HPW.out w4 hd4.below
                      have HE4 := Aside0.mk hE4
                      have HC4 := Aside0.mk hC4
                      have hS4 := And.intro (pw_cell_below hd4.below hx0) (And.intro (pw_cell_below hd4.below ht0) (pw_cell_below hd4.below htx0))
                      clear hE4 hC4 hd4 HPW HK2 hx0 ht0 htx0
                      refine hK.out _ _ hS4 (fun hHeld => ?_)
                      clear hK K hS4
                      refine norm_ (a' := ?_) ?_ ?_
                      rotate_left
                      · show Act.put _ (some 106) _ = _
                        simp only [Act.put, List.setIfInBounds_toArray, List.set_cons_zero, List.set_cons_succ, i64_w, i32_w]
                        rfl
                      refine pure_ (i := 13) (N := some 107) (v := ?_) (a' := ?_) #[true, true, true, true, true, true, true, true, true, true, true, true, true, true, false, false] rfl rfl (any_of HT_.out (by kernel_rfl)) (fun _ _ _ h => h) (Or.inl ⟨by rfl, ?_⟩) ?_ ?_
                      rotate_left
                      · intro w'
                        go_simp
                        with_reducible rfl
                      rotate_left
                      · simp only [Act.put, List.setIfInBounds_toArray, List.set_cons_zero, List.set_cons_succ, i64_w, i32_w]
                        rfl
                      refine pure_ (i := 14) (N := some 108) (v := ?_) (a' := ?_) #[true, true, true, true, true, true, true, true, true, true, true, true, true, true, true, false] rfl rfl (any_of HT_.out (by kernel_rfl)) (fun _ _ _ h => h) (Or.inl ⟨by rfl, ?_⟩) ?_ ?_
                      rotate_left
                      · intro w'
                        go_simp
                        with_reducible rfl
                      rotate_left
                      · simp only [Act.put, List.setIfInBounds_toArray, List.set_cons_zero, List.set_cons_succ, i64_w, i32_w]
                        rfl
                      refine last_ (i := 15) (N := none) #[true, true, true, true, true, true, true, true, true, true, true, true, true, true, true, true] rfl rfl (one_of HT_.out (by kernel_rfl)) (by decide) (fun K hK => ?_)
                      refine skip_ (w1 := ?_) (by rfl) rfl ?_ ?_
                      rotate_left
                      · go_simp
                        rfl
                      refine hK.out _ _ ?_
                      clear hK K
                      refine done_ (done_of HT_.out (by kernel_rfl)) ?_
                      go_wp2
                      go_roundg (cc - (q + 1))
                      case measure => omega
                      case rel => exact ⟨q + 1, by omega, by omega, by go_num, HE4, HC4⟩
                    · have j1 : ((q : Int) < (cc : Int)) = False := eq_false (by omega)
                      have hqe : q = R.length := by rw [HRB.out.1]; omega
                      have HE6 := Aside0.mk (show Env.Env 23 3 w0 wr (LX (Mat.erT T r C (M1.set r T) (i + 1))) from by
                        have h9 := HSQ.out
                        rw [hqe, Mat.raddTo_all hRT, HST.out] at h9
                        exact h9)
                      clear hqe hRT HSQ HHK
                      go_wp2
                      go_roundg (n - (i + 1))
                      case measure => omega
                      case rel => exact ⟨i + 1, by omega, by omega, by go_num, HE6⟩
              · have hie : i = n := by omega
                have hest : Mat.erT T r C (M1.set r T) i = Mat.est M r (r + p) k := by
                  rw [hie, ← HNL.out, Mat.erT_all HCL.out]
                  unfold Mat.est
                  rw [← HM1.out]
                  unfold Mat.top
                  rw [← HER.out, ← HXE.out, ← HFE.out, ← HTE.out, ← HCE.out]
                have hE7 := HL4.out _ _ HSI.out
                rw [hest] at hE7
                have HE7 := Aside0.mk hE7
                have hsvr := HMM.out.2.2.2
                rw [show d - k = (d - (k + 1)) + 1 by omega] at hsvr
                conv at hsvr => lhs; unfold Mat.sv
                rw [HPV.out] at hsvr
                dsimp only at hsvr
                rw [HMM.out.1] at hsvr
                have p1 : ((i : Int) < (n : Int)) = False := eq_false (by omega)
                have HPN := Aside0.mk (show r + p < n from by have := HPS.out; omega)
                clear hE7 hest HSI
                by_cases hr1 : r + 1 = n
                · rw [if_pos hr1] at hsvr
                  have HSV := Aside0.mk hsvr
                  have e1 : ((r : Int) + 1 == (n : Int)) = true := by simp; omega
                  have e2 : (((r + 1 : Nat) : Int) == (n : Int)) = true := by simp; omega
                  clear hsvr
                  go_wp2
                  go_ret
                  rw [← HSV.out]
                  exact ⟨by go_num, HE7.out⟩
                · rw [if_neg hr1] at hsvr
                  have HSV := Aside0.mk hsvr
                  have e1 : ((r : Int) + 1 == (n : Int)) = false := by simp; omega
                  have e2 : (((r + 1 : Nat) : Int) == (n : Int)) = false := by simp; omega
                  clear hsvr
                  go_wp2
                  go_roundg (d - (k + 1))
                  case measure => omega
                  case rel => exact ⟨k + 1, r + 1, Mat.est M r (r + p) k, by omega, by omega, by go_num, by go_num, by omega, ⟨by rw [Mat.est_length]; exact HMM.out.1, Mat.est_MB HMM.out.2.1 k (by rw [HMM.out.1]; exact hrn) (by rw [HMM.out.1]; exact HPN.out), by have := HMM.out.2.2.1; omega, HSV.out⟩, HE7⟩
    · obtain rfl : k = d := by omega
      have hs := HMM.out.2.2.2
      rw [Nat.sub_self] at hs
      have HS := Aside0.mk (show Mat.sv k 0 0 m = (M, r) from hs.symm)
      have p1 : decide ((k : Int) < (k : Int)) = false := decide_eq_false (by omega)
      clear hs
      go_wp2
      go_ret
      rw [HS.out]
      exact ⟨rfl, ENV.out⟩

theorem infoJ : (Try.prog.info? 3).map (fun i => (i.zero, i.size, i.bytes)) = some (some (.int .i64 0), 1, 8) := by kernel_rfl

/-- A row made since is put behind a list of rows: 'out = append(out, row)'. -/
theorem app_event {ops : Array Oper} {rest : List Oper} {o : Oper} {a : Act} {Q : Exit → Act → World → Prop} {w0 wr W : World} (base : Nat) (hgd : o.guard = none) (s x : Operand)
    (ho : o.op = .call { callee := .builtin .append, args := #[s, x], argTypes := #[22, 22] }) (v : Value) (m : List (List Int)) (Au : Option Addr) (cu : Nat) (row : List Int) (hs : a.eval s = v) (hx : a.eval x = .slice (some ⟨W.heap.size, 0, none⟩) 1 1)
    (hS : (Kd.slice 3 (Kd.int .i64)).S 23 wr base (fun _ => True) v m) (hb : Below wr.heap.size wr W) (hR : (Kd.int .i64).R 3 W wr.heap.size (fun _ => True) (.slice Au row.length cu) row) (HB : Below base w0 W) (hbase : base ≤ wr.heap.size) (hl : m.length ≤ 1000000)
    (h : ∀ A1 c1 w1, (Kd.slice 3 (Kd.int .i64)).S 23 w1 base (fun _ => True) (.slice A1 (m.length + 1) c1) (m ++ [row]) → Below base w0 w1 → Aside0 (∀ (g tq : Nat) (cs : Array Value), tq ≠ 23 → wr.heap[g]? = some (.cells cs tq (0, 0)) → w1.heap[g]? = some (.cells cs tq (0, 0))) → wpList Try.prog ops Q rest (a.put o.dst (.slice A1 (m.length + 1) c1)) w1) :
    wpList Try.prog ops Q (o :: rest) a (W.alloc (.cells #[.slice Au row.length cu] 23)) := by
  have hlt := Kd.S_lt hS
  have hty := Kd.S_typed hS
  have hnew : ∀ k, some k = (Value.slice Au row.length cu).ownBlock → wr.heap.size ≤ k := fun k hk => Kd.R_base hR k hk.symm
  refine Kd.S_append (Kd.slice 3 (Kd.int .i64)) (w0 := w0) base hgd s x 22 23 (.slice none 0 0) 24 ho Try.underlying22 infoR rfl (by decide) (by omega) v m row [.slice Au row.length cu] (fun _ => True) (fun k => some k = (Value.slice Au row.length cu).ownBlock) hs hx
    (Kd.M_row (Kd.R_mono (Kd.R_tight rfl (Kd.R_lower hR hbase)) (fun _ h_ => h_))) (fun k hk => ⟨trivial, fun he => by have h1 := hnew k hk; have h2 := hlt k he.symm; omega⟩) (fun _ _ => trivial)
    (Kd.S_mono (Kd.S_old hS hb) (fun k hk => ⟨trivial, fun he => by have h1 := hnew k he; have h2 := hk.2; omega⟩)) HB (Nat.le_trans hbase hb.size) (by omega) ?_
  intro v1 w1 h1 h2 h3 _
  obtain ⟨A1, c1, rfl⟩ := Kd.S_slice h1
  rw [show (m ++ [row]).length = m.length + 1 by simp] at h1 ⊢
  exact h A1 c1 w1 h1 h2 ⟨fun g tq cs hne hg => blk_grown (blk_below hg hb) h3 (fun he => by
    obtain ⟨cells, hc⟩ := hty g he.symm
    rw [hc] at hg
    injection hg with hg
    injection hg with _ hg
    exact hne hg.symm)⟩
theorem S_empty {e : TypeId} {w : World} {base : Nat} {ok : Nat → Prop} {v : Value} (h : (Kd.slice 3 (Kd.int .i64)).R e w base ok v []) : (Kd.slice 3 (Kd.int .i64)).S e w base ok v [] := by
  obtain ⟨h0, inner, ho, hr⟩ := h
  exact ⟨fun _ => 0, h0, inner, ho, hr.1, fun j p hj => by simp at hj⟩

set_option maxHeartbeats 8000000 in
set_option maxRecDepth 100000 in
theorem inverted_e (A0 : Option Addr) (c0 n : Nat) (m : List (List Nat)) (w : World) (hm : Mat.MB' n m) (hmn : m.length = n) (h1 : 1 ≤ n) (h8 : n ≤ 8) (hr0 : Kd.C (Kd.slice 3 (Kd.int .i64)) w A0 (upM m).length (upM m)) (hc0 : (upM m).length ≤ c0) :
    Calls Try.prog 92 #[.slice A0 n c0] w fun e w' => ∃ v0_ : Value, e = .returned (.tuple #[v0_, .bool (invW m).2]) ∧ Kd.S (Kd.slice 3 (Kd.int .i64)) 23 w' w.heap.size (fun _ => True) v0_ (invW m).1 ∧ Below w.heap.size w w' := by
  have HM := Aside0.mk (show Mat.MB' n m ∧ m.length = n ∧ 1 ≤ n ∧ n ≤ 8 from ⟨hm, hmn, h1, h8⟩)
  have hul : (upM m).length = n := by rw [upM_length, hmn]
  have hil : (upM (Mat.idM n)).length = n := by rw [upM_length, Mat.idM_length]
  have hrow : ∀ i, (m.getD i []).length ≤ 1000 := fun i => by
    by_cases hi : i < m.length
    · rw [(hm.get hi).1]; omega
    · rw [List.getD_eq_getElem?_getD, List.getElem?_eq_none (by omega)]; simp
  have hrow2 : ∀ i, ((Mat.idM n).getD i []).length ≤ 1000 := fun i => by
    by_cases hi : i < (Mat.idM n).length
    · rw [((Mat.idM_MB n).get hi).1]; omega
    · rw [List.getD_eq_getElem?_getD, List.getElem?_eq_none (by omega)]; simp
  obtain ⟨K2, hk2⟩ := (impl_identity_ev n (by omega)).rounds
  obtain ⟨K3, hk3⟩ := (impl_beside_ev m (Mat.idM n) (by rw [hmn, Mat.idM_length]) (by omega) hrow hrow2).rounds
  rw [idL_up] at hk2
  have H2 := Aside0.mk hk2
  have H3 := Aside0.mk hk3
  have HR := Aside0.mk hr0
  have HC := Aside0.mk hc0
  have HUL := Aside0.mk (show (upM m).length = n ∧ (upM (Mat.idM n)).length = n from ⟨hul, hil⟩)
  have n0 : (0 : Int) ≤ (n : Int) := by omega
  have n1 : (n : Int) ≤ 8 := by omega
  clear hk2 hk3 hr0 hc0 hm hmn h1 h8 hul hil hrow hrow2
  go_enter Try.func92, Try.ntmps92
  go_wp2_with fail
  refine (impl_identity.calls K2 (n : Int) (upM (Mat.idM n)) w H2.out).mono ?_
  rintro e w1 ⟨v1, rfl, hS_, hb_⟩
  obtain ⟨B1, d1, rfl, hE_⟩ := (Env.Env.start (e := 23) (t := 3) w).madeS (by decide) hS_ hb_
  have hbes := impl_beside.calls K3 A0 c0 (upM m) B1 d1 (upM (Mat.idM n)) (upM (Mat.bes m (Mat.idM n))) w1 (hE_.came HR.out) HC.out (hE_.C (by decide) 0 rfl) (hE_.cap (by decide) 0 rfl) H3.out
  rw [HUL.out.1, HUL.out.2] at hbes
  rw [HUL.out.2] at hE_ ⊢
  have HBES := Aside0.mk hbes
  have ENV := Aside0.mk hE_
  clear hE_ hS_ hb_ hbes H3 H2
  go_wp2_with fail
  refine HBES.out.mono ?_
  rintro e w2 ⟨v2, rfl, hS_, hb_⟩
  obtain ⟨B2, d2, rfl, hE_⟩ := ENV.out.madeS (by decide) hS_ hb_
  have hPl : (Mat.bes m (Mat.idM n)).length = n := by rw [Mat.bes_length (by rw [HM.out.2.1, Mat.idM_length]), HM.out.2.1]
  obtain ⟨g, _, _, hB, _⟩ := hE_.mrow (by decide) (j := 0) rfl (i := 0) (by rw [upM_length, hPl]; have := HM.out.2.2.1; omega)
  subst hB
  rw [upM_length, hPl] at hE_ ⊢
  have hsv := solved_e hE_ 0 (m := Mat.bes m (Mat.idM n)) (c := d2) (A := some ⟨g, 0, none⟩) (by rw [hPl]; rfl) (cc := n + n) (Mat.bes_MB HM.out.1 (Mat.idM_MB n)) n (by omega) (by have := HM.out; omega) (by rw [hPl]; have := HM.out; omega) (by rw [hPl]; have := HM.out; omega)
  rw [hPl, Mat.bes_sv n 0 0 HM.out.1 (by rw [HM.out.2.1, Mat.idM_length]) (by omega)] at hsv
  have HSV := Aside0.mk hsv
  clear hE_ hS_ hb_ HBES hsv ENV hPl
  go_wp2_with fail
  refine HSV.out.mono ?_
  rintro e w3 ⟨rfl, hE3⟩
  obtain ⟨rk, hrk⟩ : ∃ rk, rk = (Mat.sv n 0 0 m).2 := ⟨_, rfl⟩
  obtain ⟨P, hP⟩ : ∃ P, P = (Mat.sv n 0 0 m).1 := ⟨_, rfl⟩
  obtain ⟨t, ht⟩ : ∃ t, t = Mat.sv2 n 0 0 m (Mat.idM n) := ⟨_, rfl⟩
  have HIV := Aside0.mk (show invW m = match (if rk < n then none else some t) with | none => ([], false) | some s => (upM s, true) from by
    unfold invW Mat.inv Mat.rank
    rw [HM.out.2.1, ← hrk, ← ht])
  have HPT := Aside0.mk (show (Mat.MB' n P ∧ P.length = n) ∧ (Mat.MB' n t ∧ t.length = n) from by
    rw [hP, ht]
    exact ⟨⟨Mat.sv_MB _ _ _ HM.out.1, by rw [Mat.sv_length]; exact HM.out.2.1⟩, Mat.sv2_MB _ _ _ HM.out.1 (Mat.idM_MB n) (by rw [Mat.idM_length, HM.out.2.1]), by rw [Mat.sv2_length _ _ _ (by rw [Mat.idM_length, HM.out.2.1]), HM.out.2.1]⟩)
  try dsimp only at hE3
  try dsimp only
  rw [← hP, ← ht] at hE3
  rw [← hrk]
  replace hE3 : Env.Env 23 3 w w3 [(.slice (some ⟨g, 0, none⟩) n d2, .mat (upM (Mat.bes P t))), (.slice B1 n d1, .mat (upM (Mat.idM n)))] := hE3
  have ENV := Aside0.mk hE3
  clear hE3 HSV hrk hP ht
  by_cases hk : rk < n
  · have p1 : ((rk : Int) < (n : Int)) = True := eq_true (by omega)
    have p2 : (rk < n) = True := eq_true hk
    have HI := HIV.out
    rw [if_pos hk] at HI
    replace HI := Aside0.mk (show invW m = ([], false) from HI)
    have HBE := Aside0.mk ENV.out.1
    clear hk
    go_wp2
    go_ret2
    rw [HI.out]
    exact ⟨_, rfl, Kd.S_nil _ _ _ _ _, HBE.out⟩
  · have p1 : ((rk : Int) < (n : Int)) = False := eq_false (by omega)
    have p2 : (rk < n) = False := eq_false hk
    have HI := HIV.out
    rw [if_neg hk] at HI
    replace HI := Aside0.mk (show invW m = (upM t, true) from HI)
    clear hk
    go_wp2_with ((with_reducible refine gate_dst (N := 20) rfl ?_); refine Kd.R_lit (Kd.slice 3 (Kd.int .i64)) _ 23 ?hg (N := 20) ?hd (xs := ([] : List (List Int))) (inner := []) (ok := fun _ => True) (okp := fun _ => True) ?hr ?hp (fun _ hk => hk) trivial (Below.refl _ _) (Nat.le_refl _) (by simp) ?_; (case hd => rfl); (case hg => rfl); (case hr => first | (go_simp; done) | (go_simp; rfl)); (case hp => exact (Reps.none _ _)); intro v20 w20 ho20 hb20 _ _; have HBL0 := Aside0.mk hb20; have HSL0 := Aside0.mk (S_empty ho20); clear ho20 hb20)
    go_loopg [5, 23] n (fun gg v5 v23 wr => ∃ i : Nat, i ≤ n ∧ n - i ≤ gg ∧ v23 = .int .i64 i ∧ Aside0 ((Kd.slice 3 (Kd.int .i64)).S 23 wr w3.heap.size (fun _ => True) v5 (upM (t.take i))) ∧ Aside0 (Below w3.heap.size w3 wr))
    case atStart => exact ⟨0, Nat.zero_le _, by omega, rfl, HSL0, HBL0⟩
    case round =>
      clear HBL0 HSL0
      obtain ⟨i, hi', hgi, rfl, HS, HB⟩ := hrel
      have z0 : (0 : Int) ≤ (i : Int) := by omega
      have z1 : (i : Int) ≤ 100 := by omega
      by_cases hlt : i < n
      · have p3 : ((i : Int) < (n : Int)) = True := eq_true (by omega)
        have p4 : (i < n) = True := eq_true hlt
        have hE := ENV.out.below HB.out
        have hbl : (Mat.bes P t).length = n := by rw [Mat.bes_length (by rw [HPT.out.1.2, HPT.out.2.2]), HPT.out.1.2]
        have hbi : (Mat.bes P t).getD i [] = P.getD i [] ++ t.getD i [] := Mat.bes_at (by rw [HPT.out.1.2, HPT.out.2.2]) i
        have hpr := HPT.out.1.1.get (i := i) (by rw [HPT.out.1.2]; exact hlt)
        have htr := HPT.out.2.1.get (i := i) (by rw [HPT.out.2.2]; exact hlt)
        have hrl : (Poly.up ((Mat.bes P t).getD i [])).length = n + n := by rw [Poly.up_length, hbi, List.length_append, hpr.1, htr.1]
        have hdr : (Poly.up ((Mat.bes P t).getD i [])).drop n = Poly.up (t.getD i []) := by
          unfold Poly.up
          rw [hbi, List.map_append, List.drop_left' (by rw [List.length_map]; exact hpr.1)]
        obtain ⟨g', gu, cu, hA', hh, hcu, _, _, _⟩ := hE.mput2 (by decide) (j := 0) rfl (i := i) (q := 0) (by rw [upM_length, hbl]; exact hlt) (by rw [upM_getD, hrl]; omega)
        injection hA' with hA'
        injection hA' with hA'
        subst hA'
        obtain ⟨g', Au, cu', hA', hh2, _, _, _, hRu, _, _⟩ := hE.mrow (by decide) (j := 0) rfl (i := i) (by rw [upM_length, hbl]; exact hlt)
        injection hA' with hA'
        injection hA' with hA'
        subst hA'
        rw [upM_getD, hrl] at hh hcu hh2 hRu
        have hk2 := hh2.symm.trans hh
        injection hk2 with hk2
        injection hk2 with hk3 _ hk4
        subst hk3 hk4
        have hC := (Kd.R_reads' hRu).2.2
        have hCd := Kd.C_drop (m := n) hC (by rw [hrl]; omega) (show (Poly.up ((Mat.bes P t).getD i [])).length ≤ cu' from by rw [hrl]; exact hcu)
        have hcn : ¬ cu' = n := by omega
        rw [if_neg hcn, hdr] at hCd
        have eA : (some (⟨gu, 0, none⟩ : Addr)).map (·.add (n * (Kd.int .i64).sz)) = some ⟨gu, n, none⟩ := by
          show some ((⟨gu, 0, none⟩ : Addr).add (n * 1)) = _
          rw [Nat.mul_one, add_plain]
        rw [eA] at hCd
        obtain ⟨i0, hi0, _, hsz, _⟩ := info_parts infoJ
        have hcut := cut_from (P := Try.prog) 23 3 .i64 Try.underlying23 hi0 1 hsz (some ⟨gu, 0, none⟩) (n + n) cu' (n : Int) n0 (by omega)
        have htl : (Poly.up (t.getD i [])).length = n := by rw [Poly.up_length]; exact htr.1
        have hcl := slices_Clone_int_int.calls (some ⟨gu, n, none⟩) (cu' - n) (Poly.up (t.getD i [])) (Poly.up (t.getD i [])) wr hCd (by rw [htl]; omega) (by unfold slices_Clone_int_int.f; rw [if_pos (by rw [htl]; omega)])
        rw [htl] at hcl
        have HSL := Aside0.mk (show (upM (t.take i)).length ≤ 1000000 by rw [upM_length, List.length_take]; omega)
        have HTS := Aside0.mk (show upM (t.take i) ++ [Poly.up (t.getD i [])] = upM (t.take (i + 1)) from by
          have hi9 : i < t.length := by rw [HPT.out.2.2]; exact hlt
          rw [List.take_succ_eq_append_getElem hi9, ← upM_snoc, List.getD_eq_getElem?_getD, List.getElem?_eq_getElem hi9]; rfl)
        have HTL := Aside0.mk htl
        have q1 : (cu' = n) = False := eq_false hcn
        have q2 : n + n - n = n := by omega
        generalize t.getD i [] = row at hcl HTS HTL
        clear hi0 hsz eA hCd hcn hC hRu hh2 hdr hrl htr hpr hbi hbl hE htl
        go_wp2_with fail
        refine hcl.mono ?_
        rintro e w4 ⟨v1, rfl, hR1, hb1⟩
        obtain ⟨A9, c9, rfl⟩ := Kd.R_slice hR1
        have HB1 := Aside0.mk hb1
        have HR3 := Aside0.mk hR1
        clear hb1 hR1 hcl hcut
        go_wp2_with ((with_reducible refine gate_builtin (b := .append) (xs := #[.tmp 27, .tmp 33]) rfl ?_); at_builtin; refine app_event (w0 := w3) w3.heap.size rfl (.tmp 27) (.tmp 33) rfl _ (upM (t.take i)) A9 c9 (Poly.up row) rfl rfl HS.out HB1.out HR3.out ?aB ?aS HSL.out ?_; (case aB => exact below_step HB.out HB1.out); (case aS => exact HB.out.size); intro A10 c10 w2 hS2 hB2 HK2; rw [HTS.out] at hS2; have HS2 := Aside0.mk hS2; have HB2 := Aside0.mk hB2; clear hS2 hB2)
        go_roundg (n - (i + 1))
        case measure => omega
        case rel => exact ⟨i + 1, by omega, by omega, by go_num, HS2, HB2⟩
      · have p3 : ((i : Int) < (n : Int)) = False := eq_false (by omega)
        have p4 : (i < n) = False := eq_false hlt
        have hS := HS.out
        rw [show t.take i = t from by rw [List.take_of_length_le (by rw [HPT.out.2.2]; omega)]] at hS
        have HS' := Aside0.mk (Kd.S_lower hS ENV.out.1.size)
        have HBE := Aside0.mk (below_step ENV.out.1 HB.out)
        clear hS
        go_wp2
        go_ret2
        rw [HI.out]
        exact ⟨_, rfl, HS'.out, HBE.out⟩
def impl_InvertMatrix.f (l : List (List Int)) : Option (List (List Int) × Bool) := some (invV l)
theorem impl_InvertMatrix_eq (l : List (List Int)) : impl_InvertMatrix.f l = some (invV l) := rfl
set_option maxHeartbeats 4000000 in
theorem impl_InvertMatrix.calls (A0 : Option Addr) (c0 : Nat) (l0 : List (List Int)) (r1 : List (List Int)) (r2 : Bool) (w : World) (hr0 : Kd.C (Kd.slice 3 (Kd.int .i64)) w A0 l0.length l0) (hc0 : l0.length ≤ c0) (h : impl_InvertMatrix.f l0 = some (r1, r2)) :
    Calls Try.prog 22 #[.slice A0 l0.length c0] w fun e w' => ∃ v0_ : Value, e = .returned (.tuple #[v0_, .bool r2]) ∧ Kd.S (Kd.slice 3 (Kd.int .i64)) 23 w' w.heap.size (fun _ => True) v0_ r1 ∧ Below w.heap.size w w' := by
  have HR := Aside0.mk hr0
  have HC := Aside0.mk hc0
  clear hr0 hc0
  unfold impl_InvertMatrix.f at h
  have H0 := Option.some.inj h
  clear h
  have hk := impl_GoodMatrix_eq l0
  cases hg : goodM l0 with
  | false =>
    rw [hg] at hk
    have H1 := Aside0.mk hk
    unfold invV at H0
    rw [hg] at H0
    injection H0 with e1 e2
    subst e1 e2
    clear hk hg
    go_enter Try.func22, Try.ntmps22
    go_wp2_with (go_at_call 27; refine (impl_GoodMatrix.calls A0 c0 l0 false _ HR.out HC.out H1.out).mono ?_; rintro e w' ⟨rfl, hb⟩; have HB := Aside0.mk hb; clear hb)
    go_ret2
    exact ⟨_, rfl, Kd.S_nil _ _ _ _ _, HB.out⟩
  | true =>
    rw [hg] at hk
    have H1 := Aside0.mk hk
    obtain ⟨c, m, rfl, hm, e1, e2, h1, h2, h3, h4⟩ := goodM_up hg
    have hlen : 0 < (upM m).length := by rw [upM_length]; omega
    obtain ⟨ad, A1, c1, rfl, hx, hl1, hi1⟩ := Mx.rows_at HR.out 0 hlen hlen
    have e0 : (upM m).getD 0 [] = (upM m)[0] := by rw [List.getD_eq_getElem?_getD, List.getElem?_eq_getElem hlen]; rfl
    rw [Addr.add_zero'] at hx
    have e3 : (upM m)[0].length = c := by rw [← e0, e1]
    generalize (upM m)[0] = r0 at hx hl1 hi1 e3
    have p0 := eq_true hlen
    have p1 : (0 < ((upM m).length : Int)) = True := eq_true (by omega)
    have HX := Aside0.mk hx
    by_cases hq : m.length = c
    · have hv : invV (upM m) = invW m := by
        unfold invV invW
        rw [hg, e1, upM_length, decide_eq_true hq, dnM_upM]
        rfl
      rw [hv] at H0
      have H0' := Aside0.mk H0
      have q1 : (((upM m).length : Int) != (r0.length : Int)) = false := by rw [upM_length, e3, hq]; simp
      have q2 : ((upM m).length != r0.length) = false := by rw [upM_length, e3, hq]; simp
      have HI := Aside0.mk (fun w' (hC : Kd.C (Kd.slice 3 (Kd.int .i64)) w' (some ad) (upM m).length (upM m)) => show Calls Try.prog 92 #[.slice (some ad) (upM m).length c0] w' _ from by
        have h9 := inverted_e (some ad) c0 c m w' hm hq h3 h4 hC HC.out
        rw [show c = (upM m).length from by rw [upM_length, hq]] at h9
        exact h9)
      clear H0 hv hk hg hm e0 e1 e2 e3 h1 h2 h3 h4 hl1 hi1 hq hlen hx
      go_enter Try.func22, Try.ntmps22
      go_wp2_with (first | (go_at_call 27; refine (impl_GoodMatrix.calls (some ad) c0 (upM m) true _ HR.out HC.out H1.out).mono ?_; rintro e w' ⟨rfl, hb⟩; have HB := Aside0.mk hb; have hx2 := pw_cell_below hb HX.out; clear hb) | (go_at_call 92; refine (HI.out _ (Kd.C_below HR.out HB.out)).mono ?_; rintro e w2 ⟨v2, rfl, hS_, hb_⟩; have HS_ := Aside0.mk hS_; have HB_ := Aside0.mk hb_; clear hS_ hb_))
      go_ret2
      have e9 := H0'.out
      rw [e9] at HS_
      rw [e9]
      exact ⟨_, rfl, Kd.S_lower HS_.out HB.out.size, below_step HB.out HB_.out⟩
    · have hv : invV (upM m) = ([], false) := by
        unfold invV
        rw [hg, e1, upM_length, decide_eq_false hq]
        rfl
      rw [hv] at H0
      injection H0 with e8 e9
      subst e8 e9
      have q1 : (((upM m).length : Int) != (r0.length : Int)) = true := by rw [upM_length, e3, bne_iff_ne]; omega
      have q2 : ((upM m).length != r0.length) = true := by rw [upM_length, e3, bne_iff_ne]; exact hq
      clear hv hk hg hm e0 e1 e2 e3 h1 h2 h3 h4 hl1 hi1 hq hlen hx
      go_enter Try.func22, Try.ntmps22
      go_wp2_with (go_at_call 27; refine (impl_GoodMatrix.calls (some ad) c0 (upM m) true _ HR.out HC.out H1.out).mono ?_; rintro e w' ⟨rfl, hb⟩; have HB := Aside0.mk hb; have hx2 := pw_cell_below hb HX.out; clear hb)
      go_ret2
      exact ⟨_, rfl, Kd.S_nil _ _ _ _ _, HB.out⟩

def solW (m : List (List Nat)) (y : List Nat) : List Int × Bool := match Mat.inv m with
  | none => ([], false)
  | some s => (Poly.up (Mat.colM s y), true)
set_option maxHeartbeats 8000000 in
set_option maxRecDepth 100000 in
theorem solve_e (A0 : Option Addr) (c0 n : Nat) (m : List (List Nat)) (w : World) (hm : Mat.MB' n m) (hmn : m.length = n) (h1 : 1 ≤ n) (h8 : n ≤ 8) (hr0 : Kd.C (Kd.slice 3 (Kd.int .i64)) w A0 (upM m).length (upM m)) (hc0 : (upM m).length ≤ c0)
    (A1 : Option Addr) (c1 : Nat) (y : List Nat) (hy : Poly.AllB y) (hyl : y.length = n) (hr1 : (Kd.int .i64).C w A1 (Poly.up y).length (Poly.up y)) :
    Calls Try.prog 89 #[.slice A0 n c0, .slice A1 n c1] w fun e w' => ∃ v0_ : Value, e = .returned (.tuple #[v0_, .bool (solW m y).2]) ∧ (Kd.int .i64).R 3 w' w.heap.size (fun _ => True) v0_ (solW m y).1 ∧ Below w.heap.size w w' := by
  have HINV := Aside0.mk (inverted_e A0 c0 n m w hm hmn h1 h8 hr0 hc0)
  have HM := Aside0.mk (show Mat.MB' n m ∧ m.length = n ∧ 1 ≤ n ∧ n ≤ 8 from ⟨hm, hmn, h1, h8⟩)
  have HY := Aside0.mk (show Poly.AllB y ∧ y.length = n from ⟨hy, hyl⟩)
  have HV := Aside0.mk hr1
  have n0 : (0 : Int) ≤ (n : Int) := by omega
  have n1 : (n : Int) ≤ 8 := by omega
  clear hm hmn h1 h8 hr0 hc0 hy hyl hr1
  go_enter Try.func89, Try.ntmps89
  go_wp2_with fail
  refine HINV.out.mono ?_
  rintro e w3 ⟨v3, rfl, hS, hb⟩
  have HB3 := Aside0.mk hb
  cases hi : Mat.inv m with
  | none =>
    have HW := Aside0.mk (show solW m y = ([], false) from by unfold solW; rw [hi])
    have hw : invW m = ([], false) := by unfold invW; rw [hi]
    rw [hw]
    clear hi hw hS hb HINV
    go_wp2
    go_ret2
    rw [HW.out]
    exact ⟨_, rfl, Kd.R_nil _ _ _ _ _, HB3.out⟩
  | some s =>
    have HW := Aside0.mk (show solW m y = (Poly.up (Mat.colM s y), true) from by unfold solW; rw [hi])
    have HS := Aside0.mk (inv_MB HM.out.1 HM.out.2.1 hi)
    have hw : invW m = (upM s, true) := by unfold invW; rw [hi]
    rw [hw] at hS ⊢
    obtain ⟨B1, d1, rfl, hE⟩ := (Env.Env.start (e := 23) (t := 3) w).madeS (by decide) hS hb
    have HC3 := Aside0.mk (hE.C (by decide) 0 rfl)
    have HV3 := Aside0.mk (hE.camer HV.out)
    have HSL := Aside0.mk (show (upM s).length = n from by rw [upM_length]; exact HS.out.2)
    clear hi hw hS hb HINV hE
    go_wp2_with ((with_reducible refine gate_dst (N := 21) rfl ?_); refine Kd.R_lit (Kd.int .i64) _ 3 ?hg (N := 21) ?hd (xs := ([] : List Int)) (inner := []) (ok := fun _ => True) (okp := fun _ => True) ?hr ?hp (fun _ hk => hk) trivial (Below.refl _ _) (Nat.le_refl _) (by simp) ?_; (case hd => rfl); (case hg => rfl); (case hr => first | (go_simp; done) | (go_simp; rfl)); (case hp => exact (Reps.none _ _)); intro v20 w20 ho20 hb20 _ _; have HBL0 := Aside0.mk hb20; have HSL0 := Aside0.mk ho20; clear ho20 hb20)
    go_loopg [8, 24] n (fun gg v8 v24 wr => ∃ i : Nat, i ≤ n ∧ n - i ≤ gg ∧ v24 = .int .i64 i ∧ Aside0 ((Kd.int .i64).R 3 wr w3.heap.size (fun _ => True) v8 (Poly.up (Mat.colM (s.take i) y))) ∧ Aside0 (Below w3.heap.size w3 wr))
    case atStart => exact ⟨0, Nat.zero_le _, by omega, rfl, HSL0, HBL0⟩
    case round =>
      clear HBL0 HSL0
      obtain ⟨i, hi', hgi, rfl, HRR, HB⟩ := hrel
      have z0 : (0 : Int) ≤ (i : Int) := by omega
      have z1 : (i : Int) ≤ 100 := by omega
      by_cases hlt : i < n
      · have hil : i < (upM s).length := by rw [HSL.out]; exact hlt
        have p3 : ((i : Int) < ((upM s).length : Int)) = True := eq_true (by omega)
        have p4 : (i < (upM s).length) = True := eq_true hil
        obtain ⟨ad0, A2, c2, rfl, hx2, hl2, hr2⟩ := Mx.rows_at HC3.out i hil hil
        have hri := HS.out.1.get (i := i) (by rw [HS.out.2]; exact hlt)
        have erow : (upM s)[i] = Poly.up (s.getD i []) := by
          have h9 := upM_getD s i
          rw [List.getD_eq_getElem?_getD, List.getElem?_eq_getElem hil] at h9
          exact h9
        have hrl : (Poly.up (s.getD i [])).length = n := by rw [Poly.up_length]; exact hri.1
        rw [erow] at hx2 hl2 hr2
        rw [hrl] at hx2
        have hxb := pw_cell_below HB.out hx2
        have HTS := Aside0.mk (colM_snoc s y (i := i) (by rw [HS.out.2]; exact hlt))
        obtain ⟨R, hR⟩ : ∃ R, R = s.getD i [] := ⟨_, rfl⟩
        rw [← hR] at hri hr2 HTS hrl
        have HRB := Aside0.mk hri
        have HRC := Aside0.mk hr2
        have HRL := Aside0.mk hrl
        clear hx2 hr2 hri erow hil hl2 hR hrl
        go_wp2
        go_loopg [11, 30] n (fun gg v11 v30 wq => ∃ (j a : Nat), j ≤ n ∧ n - j ≤ gg ∧ Aside0 (a = Mat.dotL (R.take j) (y.take j)) ∧ v11 = .int .i64 a ∧ v30 = .int .i64 j ∧ Aside0 ((Kd.int .i64).R 3 wq w3.heap.size (fun _ => True) u8 (Poly.up (Mat.colM (s.take i) y))) ∧ Aside0 (Below w3.heap.size w3 wq))
        case atStart => exact ⟨0, 0, Nat.zero_le _, by omega, ⟨by simp [Mat.dotL]⟩, rfl, rfl, HRR, HB⟩
        case round =>
          clear HRR HB hxb
          obtain ⟨j, a, hj', hgj, HA, rfl, rfl, HRR, HB⟩ := hrel
          have y0 : (0 : Int) ≤ (j : Int) := by omega
          have y1 : (j : Int) ≤ 100 := by omega
          by_cases hjn : j < n
          · have j1 : ((j : Int) < (n : Int)) = True := eq_true (by omega)
            have j2 : (j < n) = True := eq_true hjn
            obtain ⟨ad2, e2, hx3⟩ := Kd.at_int HRC.out (j : Int) (by omega) (by rw [HRL.out]; omega)
            cases e2
            obtain ⟨ad3, e3, hx4⟩ := Kd.at_int HV3.out (j : Int) (by omega) (by rw [Poly.up_length, HY.out.2]; omega)
            cases e3
            rw [Poly.rd_up, Int.toNat_natCast] at hx3 hx4
            have hx5 := pw_cell_below HB.out hx3
            have hx6 := pw_cell_below HB.out hx4
            have hrb : R.getD j 0 < 256 := Poly.AllB.get HRB.out.2 j
            have hyb : y.getD j 0 < 256 := Poly.AllB.get HY.out.1 j
            obtain ⟨K2, h2⟩ := (impl_mul_ev (R.getD j 0) (y.getD j 0) hrb hyb).rounds
            have HK2 := Aside0.mk h2
            have HX := Aside0.mk (show Go.bits .xor .i64 (a : Int) ((Gf.gm (R.getD j 0) (y.getD j 0) : Nat) : Int) = ((Mat.dotL (R.take (j + 1)) (y.take (j + 1)) : Nat) : Int) from by
              rw [HA.out, xor_up (dotL_take_lt R y HRB.out.2 j) (Gf.gm_lt _ hrb), dotL_take R y j (by rw [HRB.out.1, HY.out.2]) (by rw [HRB.out.1]; exact hjn)])
            generalize R.getD j 0 = x at hx5 HK2 HX
            generalize y.getD j 0 = z at hx6 HK2 HX
            clear hx3 hx4 hrb hyb h2
            go_wp2_with (go_at_call 128; refine (impl_mul.calls K2 (x : Int) (z : Int) _ _ HK2.out).mono ?_; rintro e w4 ⟨rfl, hd4⟩; have HB4 := Aside0.mk hd4.below; clear hd4)
            go_roundg (n - (j + 1))
            case measure => omega
            case rel => exact ⟨j + 1, _, by omega, by omega, ⟨rfl⟩, by rw [← HX.out], by go_num, ⟨Kd.R_below HRR.out HB4.out⟩, ⟨below_step HB.out HB4.out⟩⟩
          · have j1 : ((j : Int) < (n : Int)) = False := eq_false (by omega)
            have j2 : (j < n) = False := eq_false hjn
            have ha : a = Mat.dotL R y := by
              rw [HA.out, List.take_of_length_le (by rw [HRB.out.1]; omega), List.take_of_length_le (by rw [HY.out.2]; omega)]
            have HSZ := Aside0.mk (show (Poly.up (Mat.colM (s.take i) y)).length ≤ 8 from by rw [Poly.up_length, Mat.colM_length, List.length_take]; omega)
            have HTA := Aside0.mk (show Poly.up (Mat.colM (s.take i) y) ++ [(a : Int)] = Poly.up (Mat.colM (s.take (i + 1)) y) from by rw [ha]; exact HTS.out)
            clear ha HA
            go_wp2_with ((with_reducible refine gate_builtin (b := .append) (xs := #[.tmp 44, .tmp 46]) rfl ?_); at_builtin; refine Kd.R_append (Kd.int .i64) (w0 := w3) w3.heap.size rfl (.tmp 44) (.tmp 46) 23 3 (.int .i64 0) 8 rfl Try.underlying23 infoJ rfl (by decide) (by omega) u8 (Poly.up (Mat.colM (s.take i) y)) (a : Int) [.int .i64 (a : Int)] (fun _ => True) (fun _ => False) rfl rfl ?aP (fun _ hk => hk.elim) ?aF ?aO ?aB ?aS ?aL ?_; (case aP => exact rfl); (case aB => exact HB.out); (case aF => exact (fun _ _ => trivial)); (case aO => exact HRR.out); (case aS => exact HB.out.size); (case aL => have := HSZ.out; omega); intro v159 w12 ho hb hg hat; rw [HTA.out] at ho; have HO9 := Aside0.mk ho; have HB9 := Aside0.mk hb; clear ho hb hg hat)
            go_roundg (n - (i + 1))
            case measure => omega
            case rel => exact ⟨i + 1, by omega, by omega, by go_num, HO9, HB9⟩
      · have p3 : ((i : Int) < ((upM s).length : Int)) = False := eq_false (by have := HSL.out; omega)
        have p4 : (i < (upM s).length) = False := eq_false (by have := HSL.out; omega)
        have hR := HRR.out
        rw [show s.take i = s from by rw [List.take_of_length_le (by rw [HS.out.2]; omega)]] at hR
        have HR9 := Aside0.mk (Kd.R_lower hR HB3.out.size)
        have HBE := Aside0.mk (below_step HB3.out HB.out)
        clear hR
        go_wp2
        go_ret2
        rw [HW.out]
        exact ⟨_, rfl, HR9.out, HBE.out⟩
def impl_SolveBy.f (l : List (List Int)) (v : List Int) : Option (List Int × Bool) := some (solveV l v)
theorem impl_SolveBy_eq (l : List (List Int)) (v : List Int) : impl_SolveBy.f l v = some (solveV l v) := rfl
set_option maxHeartbeats 4000000 in
theorem impl_SolveBy.calls (A0 : Option Addr) (c0 : Nat) (l0 : List (List Int)) (A1 : Option Addr) (c1 : Nat) (l1 : List Int) (r1 : List Int) (r2 : Bool) (w : World) (hr0 : Kd.C (Kd.slice 3 (Kd.int .i64)) w A0 l0.length l0) (hc0 : l0.length ≤ c0) (hr1 : (Kd.int .i64).C w A1 l1.length l1) (hc1 : l1.length ≤ c1) (h : impl_SolveBy.f l0 l1 = some (r1, r2)) :
    Calls Try.prog 15 #[.slice A0 l0.length c0, .slice A1 l1.length c1] w fun e w' => ∃ v0_ : Value, e = .returned (.tuple #[v0_, .bool r2]) ∧ (Kd.int .i64).R 3 w' w.heap.size (fun _ => True) v0_ r1 ∧ Below w.heap.size w w' := by
  have HR := Aside0.mk hr0
  have HC := Aside0.mk hc0
  have HR1 := Aside0.mk hr1
  have HC1 := Aside0.mk hc1
  clear hr0 hc0 hr1 hc1
  unfold impl_SolveBy.f at h
  have H0 := Option.some.inj h
  clear h
  have hk := impl_GoodMatrix_eq l0
  have h6 := impl_areGf_eq l1
  have no : ∀ {x : Bool}, solveOk l0 l1 = x → x = false → r1 = [] ∧ r2 = false := fun hx he => by
    unfold solveV at H0
    rw [hx.trans he] at H0
    injection H0 with e1 e2
    exact ⟨e1.symm, e2.symm⟩
  cases hg : goodM l0 with
  | false =>
    obtain ⟨rfl, rfl⟩ := no rfl (by unfold solveOk; rw [hg]; rfl)
    rw [hg] at hk
    have H1 := Aside0.mk hk
    clear no H0 hk hg h6
    go_enter Try.func15, Try.ntmps15
    go_wp2_with (go_at_call 27; refine (impl_GoodMatrix.calls A0 c0 l0 false _ HR.out HC.out H1.out).mono ?_; rintro e w' ⟨rfl, hb⟩; have HB := Aside0.mk hb; clear hb)
    go_ret2
    exact ⟨_, rfl, Kd.R_nil _ _ _ _ _, HB.out⟩
  | true =>
    rw [hg] at hk
    have H1 := Aside0.mk hk
    obtain ⟨c, m, rfl, hm, e1, e2, h1, h2, h3, h4⟩ := goodM_up hg
    have hlen : 0 < (upM m).length := by rw [upM_length]; omega
    obtain ⟨ad, A2, c2, rfl, hx, hl1, hi1⟩ := Mx.rows_at HR.out 0 hlen hlen
    have e0 : (upM m).getD 0 [] = (upM m)[0] := by rw [List.getD_eq_getElem?_getD, List.getElem?_eq_getElem hlen]; rfl
    rw [Addr.add_zero'] at hx
    have e3 : (upM m)[0].length = c := by rw [← e0, e1]
    generalize (upM m)[0] = r0 at hx hl1 hi1 e3
    have p0 := eq_true hlen
    have p1 : (0 < ((upM m).length : Int)) = True := eq_true (by omega)
    have HX := Aside0.mk hx
    have d1 : decide ((upM m).length = ((upM m).getD 0 []).length) = decide (m.length = c) := by rw [e1, upM_length]
    by_cases hq : m.length = c
    rotate_left
    · obtain ⟨rfl, rfl⟩ := no rfl (by unfold solveOk; rw [hg, d1, decide_eq_false hq]; rfl)
      have q1 : (((upM m).length : Int) != (r0.length : Int)) = true := by rw [upM_length, e3, bne_iff_ne]; omega
      have q2 : ((upM m).length != r0.length) = true := by rw [upM_length, e3, bne_iff_ne]; exact hq
      clear no H0 hk hg hm e0 e1 e2 e3 h1 h2 h3 h4 hl1 hi1 hq hlen h6 d1 hx
      go_enter Try.func15, Try.ntmps15
      go_wp2_with (go_at_call 27; refine (impl_GoodMatrix.calls (some ad) c0 (upM m) true _ HR.out HC.out H1.out).mono ?_; rintro e w' ⟨rfl, hb⟩; have HB := Aside0.mk hb; have hx2 := pw_cell_below hb HX.out; clear hb)
      go_ret2
      exact ⟨_, rfl, Kd.R_nil _ _ _ _ _, HB.out⟩
    have q1 : (((upM m).length : Int) != (r0.length : Int)) = false := by rw [upM_length, e3, hq]; simp
    have q2 : ((upM m).length != r0.length) = false := by rw [upM_length, e3, hq]; simp
    by_cases g2 : l1.length = (upM m).length
    rotate_left
    · obtain ⟨rfl, rfl⟩ := no rfl (by unfold solveOk; rw [hg, d1, decide_eq_true hq, decide_eq_false g2]; rfl)
      have q3 : ((l1.length : Int) != ((upM m).length : Int)) = true := by rw [bne_iff_ne]; omega
      have q4 : (l1.length != (upM m).length) = true := by rw [bne_iff_ne]; exact g2
      clear no H0 hk hg hm e0 e1 e2 e3 h1 h2 h3 h4 hl1 hi1 hq hlen h6 d1 hx g2
      go_enter Try.func15, Try.ntmps15
      go_wp2_with (go_at_call 27; refine (impl_GoodMatrix.calls (some ad) c0 (upM m) true _ HR.out HC.out H1.out).mono ?_; rintro e w' ⟨rfl, hb⟩; have HB := Aside0.mk hb; have hx2 := pw_cell_below hb HX.out; clear hb)
      go_ret2
      exact ⟨_, rfl, Kd.R_nil _ _ _ _ _, HB.out⟩
    have q3 : ((l1.length : Int) != ((upM m).length : Int)) = false := by rw [g2]; simp
    have q4 : (l1.length != (upM m).length) = false := by rw [g2]; simp
    cases g3 : l1.all isB with
    | false =>
      obtain ⟨rfl, rfl⟩ := no rfl (by unfold solveOk; rw [hg, d1, decide_eq_true hq, decide_eq_true g2, g3]; rfl)
      rw [g3] at h6
      have H6 := Aside0.mk h6
      clear no H0 hk hg hm e0 e1 e2 e3 h1 h2 h3 h4 hl1 hi1 hq hlen h6 d1 hx g2 g3
      go_enter Try.func15, Try.ntmps15
      go_wp2_with (first | (go_at_call 27; refine (impl_GoodMatrix.calls (some ad) c0 (upM m) true _ HR.out HC.out H1.out).mono ?_; rintro e w' ⟨rfl, hb⟩; have HB := Aside0.mk hb; have hx2 := pw_cell_below hb HX.out; clear hb) | (go_at_call 88; refine (impl_areGf.calls A1 c1 l1 false _ (Kd.C_below HR1.out HB.out) HC1.out H6.out).mono ?_; rintro e w' ⟨rfl, ⟨nd3, rfl⟩⟩))
      go_ret2
      exact ⟨_, rfl, Kd.R_nil _ _ _ _ _, pw_below_drewN HB.out _⟩
    | true =>
      have hok : solveOk (upM m) l1 = true := by unfold solveOk; rw [hg, d1, decide_eq_true hq, decide_eq_true g2, g3]; rfl
      unfold solveV at H0
      rw [hok, if_pos rfl, dnM_upM] at H0
      rw [g3] at h6
      have H6 := Aside0.mk h6
      obtain ⟨y, rfl, hy⟩ := allB_up g3
      rw [dn_up] at H0
      have H0' := Aside0.mk (show solW m y = (r1, r2) from H0)
      have hul : (upM m).length = c := by rw [upM_length]; exact hq
      have hyl : y.length = c := by rw [Poly.up_length] at g2; omega
      have hpl : (Poly.up y).length = c := by rw [Poly.up_length]; exact hyl
      have HI := Aside0.mk (fun w' (hC : Kd.C (Kd.slice 3 (Kd.int .i64)) w' (some ad) (upM m).length (upM m)) (hV : (Kd.int .i64).C w' A1 (Poly.up y).length (Poly.up y)) => show Calls Try.prog 89 #[.slice (some ad) (upM m).length c0, .slice A1 (Poly.up y).length c1] w' fun e w2 => ∃ v0_ : Value, e = .returned (.tuple #[v0_, .bool r2]) ∧ (Kd.int .i64).R 3 w2 w'.heap.size (fun _ => True) v0_ r1 ∧ Below w'.heap.size w' w2 from by
        have h9 := solve_e (some ad) c0 c m w' hm hq h3 h4 hC HC.out A1 c1 y hy hyl hV
        rw [H0'.out] at h9
        rw [hul, hpl]
        exact h9)
      clear no H0 hk hg hm e0 e1 e2 e3 h1 h2 h3 h4 hl1 hi1 hq hlen h6 d1 hx g2 g3 hok hy hyl hul hpl
      go_enter Try.func15, Try.ntmps15
      go_wp2_with (first | (go_at_call 27; refine (impl_GoodMatrix.calls (some ad) c0 (upM m) true _ HR.out HC.out H1.out).mono ?_; rintro e w' ⟨rfl, hb⟩; have HB := Aside0.mk hb; have hx2 := pw_cell_below hb HX.out; clear hb) | (go_at_call 88; refine (impl_areGf.calls A1 c1 (Poly.up y) true _ (Kd.C_below HR1.out HB.out) HC1.out H6.out).mono ?_; rintro e w' ⟨rfl, ⟨nd3, rfl⟩⟩) | (go_at_call 89; refine (HI.out _ (Kd.C_drewN (Kd.C_below HR.out HB.out) _) (Kd.C_drewN (Kd.C_below HR1.out HB.out) _)).mono ?_; rintro e w2 ⟨v2, rfl, hS_, hb_⟩; have HS_ := Aside0.mk hS_; have HB_ := Aside0.mk hb_; clear hS_ hb_))
      go_ret2
      exact ⟨_, rfl, Kd.R_lower HS_.out (pw_below_drewN HB.out nd3).size, below_step (pw_below_drewN HB.out nd3) HB_.out⟩

set_option maxHeartbeats 8000000 in
set_option maxRecDepth 100000 in
theorem laws_FnExactSolveBy_calls (A0 : Option Addr) (c0 : Nat) (l0 : List (List Int)) (A1 : Option Addr) (c1 : Nat) (l1 : List Int) (w : World) (hr0 : Kd.C (Kd.slice 3 (Kd.int .i64)) w A0 l0.length l0) (hc0 : l0.length ≤ c0) (hw0 : ∀ r ∈ l0, ∀ x ∈ r, (Lit.int .i64 x).wf = true) (hr1 : (Kd.int .i64).C w A1 l1.length l1) (hc1 : l1.length ≤ c1) (y1 : l1.length * 8 ≤ 140737488351232) (hw1 : ∀ x ∈ l1, (Lit.int .i64 x).wf = true) :
    Calls Try.prog 3 #[.slice A0 l0.length c0, .slice A1 l1.length c1] w fun e w' => e = .returned (.bool true) ∧ Below w.heap.size w w' := by
  have HR0 := Aside0.mk hr0
  have HC0 := Aside0.mk hc0
  have HG0 := Aside0.mk hw0
  clear hr0 hc0 hw0
  have HR1 := Aside0.mk hr1
  have HC1 := Aside0.mk hc1
  have HG1 := Aside0.mk hw1
  clear hr1 hc1 hw1
  clear y1
  have ENV := Aside0.mk (Env.Env.start (e := 23) (t := 3) w)
  by_cases g1 : l1.length ≤ 1048576
  rotate_left
  · have t1 : decide (1048576 < (l1.length : Int)) = true := decide_eq_true (by omega)
    have t1b : decide (1048576 < l1.length) = true := decide_eq_true (by omega)
    clear g1
    go_enter Try.func3, Try.ntmps3
    go_wp2
    go_ret
    exact ⟨rfl, ENV.out.1⟩
  have t1 : decide (1048576 < (l1.length : Int)) = false := decide_eq_false (by omega)
  have t1b : decide (1048576 < l1.length) = false := decide_eq_false (by omega)
  have HL1 := Aside0.mk g1
  clear g1
  have HZ0 := Aside0.mk (show (0 : Int) ≤ (1048576 : Int) ∧ (1048576 : Int) ≤ 1048576 by decide)
  by_cases s0 : (1048576 : Int) < ((l0.length + tot l0 : Nat) : Int)
  · have HV0 := Aside0.mk (szV_big s0)
    clear s0
    go_enter Try.func3, Try.ntmps3
    go_wp2_with fail
    refine (sz_c A0 c0 l0 _ _ (ENV.out.came HR0.out) HC0.out HZ0.out.1 HZ0.out.2).mono ?_
    rintro e w1 ⟨he_, hb_⟩
    rw [HV0.out] at he_
    subst he_
    replace ENV := Aside0.mk (ENV.out.below hb_)
    clear hb_
    go_wp2
    go_ret
    exact ⟨rfl, ENV.out.1⟩
  obtain ⟨z0, hz0⟩ : ∃ z : Int, z = szV l0 (1048576 : Int) := ⟨_, rfl⟩
  have HV0 := Aside0.mk hz0.symm
  have hz0' := hz0
  rw [szV_ok s0] at hz0'
  have HN0 := Aside0.mk (show 0 ≤ z0 ∧ z0 ≤ (1048576 : Int) ∧ l0.length + tot l0 ≤ 1048576 by have := HZ0.out; omega)
  have q0 : decide (z0 < 0) = false := decide_eq_false (by have := HN0.out; omega)
  have HS0 := Aside0.mk (small_rows HN0.out.2.2)
  clear s0 hz0 hz0'
  have h91 := spec_SolveBy_ev l0 l1 HS0.out.1 HS0.out.2.1 HL1.out
  have h92 := impl_SolveBy_eq l0 l1
  have hsm := (show (solveV l0 l1).1.length ≤ 1000 from Nat.le_trans (solveV_small l0 l1) (by decide))
  generalize solveV l0 l1 = g at h91 h92 hsm
  obtain ⟨r0, r1⟩ := g
  have HP := Aside0.mk (show r0.length ≤ 1048576 ∧ r0.length ≤ 1000000 from ⟨by have : r0.length ≤ 1000 := hsm; omega, by have : r0.length ≤ 1000 := hsm; omega⟩)
  clear hsm
  have cc91 := fun A0_ c0_ A1_ c1_ w_ h0_ b0_ h1_ b1_ => spec_SolveBy.calls A0_ c0_ l0 A1_ c1_ l1 r0 r1 w_ h0_ b0_ h1_ b1_ h91
  have cc92 := fun A0_ c0_ A1_ c1_ w_ h0_ b0_ h1_ b1_ => impl_SolveBy.calls A0_ c0_ l0 A1_ c1_ l1 r0 r1 w_ h0_ b0_ h1_ b1_ h92
  have e1 : (r1 != r1) = false := by simp
  have e1b : (r1 == r1) = true := by simp
  clear h91 h92
  obtain ⟨k0, hk0⟩ : ∃ n : Nat, n = 1 + tot l0 := ⟨_, rfl⟩
  have HK0 := Aside0.mk hk0
  clear hk0
  have HKB0 := Aside0.mk (show k0 ≤ 1048577 by have := HK0.out; have := HS0.out.2.2; omega)
  obtain ⟨k1, hk1⟩ : ∃ n : Nat, n = k0 + l1.length := ⟨_, rfl⟩
  have HK1 := Aside0.mk hk1
  clear hk1
  have HKB1 := Aside0.mk (show k1 ≤ 2097153 by have := HK1.out; have := HL1.out; have := HKB0.out; omega)
  have qk : decide ((k1 : Int) < 0) = false := decide_eq_false (by omega)
  obtain ⟨kg, hkg⟩ : ∃ n : Nat, n = 1 + r0.length := ⟨_, rfl⟩
  have HKG := Aside0.mk hkg
  have HKGB := Aside0.mk (show kg ≤ 2000000 by have := HP.out.2; omega)
  clear hkg
  have qg : decide ((kg : Int) < 0) = false := decide_eq_false (by omega)
  have qg2 : ((kg : Int) != (kg : Int)) = false := by simp
  have qg3 : ((kg : Int) == (kg : Int)) = true := by simp
  go_enter Try.func3, Try.ntmps3
  go_wp2_with fail
  refine (sz_c A0 c0 l0 _ _ (ENV.out.came HR0.out) HC0.out HZ0.out.1 HZ0.out.2).mono ?_
  rintro e wz0 ⟨he_, hb_⟩
  rw [HV0.out] at he_
  subst he_
  replace ENV := Aside0.mk (ENV.out.below hb_)
  clear hb_
  go_wp2_with fail
  refine (toSS_e ENV.out A0 c0 l0 HR0.out HC0.out HS0.out.1 HS0.out.2.1).mono ?_
  rintro e w1 ⟨B1, d1, rfl, hE_⟩
  replace ENV := Aside0.mk hE_
  clear hE_
  go_wp2_with fail
  refine (toS_e ENV.out A1 c1 l1 HR1.out HC1.out HL1.out).mono ?_
  rintro e w2 ⟨B2, d2, rfl, hE_⟩
  replace ENV := Aside0.mk hE_
  clear hE_
  go_wp2_with fail
  refine (cc91 B1 d1 B2 d2 _ (ENV.out.C (A := B1) (n := l0.length) (c := d1) (by decide) 1 rfl) (ENV.out.cap (A := B1) (n := l0.length) (c := d1) (by decide) 1 rfl) (ENV.out.Cr (A := B2) (n := l1.length) (c := d2) 0 rfl) (ENV.out.capr (A := B2) (n := l1.length) (c := d2) 0 rfl)).mono ?_
  rintro e w3 ⟨v_, rfl, hS_, hb_⟩
  obtain ⟨B3, d3, rfl, hE_⟩ := ENV.out.madeR hS_ hb_
  clear hS_ hb_
  replace ENV := Aside0.mk hE_
  clear hE_
  go_wp2_with fail
  refine (toSS_e ENV.out A0 c0 l0 HR0.out HC0.out HS0.out.1 HS0.out.2.1).mono ?_
  rintro e w4 ⟨B4, d4, rfl, hE_⟩
  replace ENV := Aside0.mk hE_
  clear hE_
  go_wp2_with fail
  refine (toS_e ENV.out A1 c1 l1 HR1.out HC1.out HL1.out).mono ?_
  rintro e w5 ⟨B5, d5, rfl, hE_⟩
  replace ENV := Aside0.mk hE_
  clear hE_
  go_wp2_with fail
  refine (cc92 B4 d4 B5 d5 _ (ENV.out.C (A := B4) (n := l0.length) (c := d4) (by decide) 1 rfl) (ENV.out.cap (A := B4) (n := l0.length) (c := d4) (by decide) 1 rfl) (ENV.out.Cr (A := B5) (n := l1.length) (c := d5) 0 rfl) (ENV.out.capr (A := B5) (n := l1.length) (c := d5) 0 rfl)).mono ?_
  rintro e w6 ⟨v_, rfl, hS_, hb_⟩
  obtain ⟨B6, d6, rfl, hE_⟩ := ENV.out.madeR hS_ hb_
  clear hS_ hb_
  replace ENV := Aside0.mk hE_
  clear hE_
  go_wp2_with fail
  refine (eqS_e ENV.out 0 3 (A1 := B6) (A2 := B3) (c1 := d6) (c2 := d3) rfl rfl HP.out.1).mono ?_
  rintro e w7 ⟨rfl, hE_⟩
  replace ENV := Aside0.mk hE_
  clear hE_
  go_wp2_with fail
  refine (toSS_e ENV.out A0 c0 l0 HR0.out HC0.out HS0.out.1 HS0.out.2.1).mono ?_
  rintro e w8 ⟨B8, d8, rfl, hE_⟩
  replace ENV := Aside0.mk hE_
  clear hE_
  go_wp2_with fail
  refine (eqSS_e ENV.out 3 0 (A1 := B4) (A2 := B8) (c1 := d4) (c2 := d8) rfl rfl rfl rfl HS0.out.1 HS0.out.2.1).mono ?_
  rintro e w9 ⟨rfl, hE_⟩
  replace ENV := Aside0.mk hE_
  clear hE_
  go_wp2_with fail
  refine (toS_e ENV.out A1 c1 l1 HR1.out HC1.out HL1.out).mono ?_
  rintro e w10 ⟨B10, d10, rfl, hE_⟩
  replace ENV := Aside0.mk hE_
  clear hE_
  go_wp2_with fail
  refine (eqS_e ENV.out 3 0 (A1 := B5) (A2 := B10) (c1 := d5) (c2 := d10) rfl rfl HL1.out).mono ?_
  rintro e w11 ⟨rfl, hE_⟩
  replace ENV := Aside0.mk hE_
  clear hE_
  go_wp2_with fail
  refine (markSS_e ENV.out 4 (A := B4) (c := d4) rfl 1 _ rfl k0 HK0.out HS0.out.1 HS0.out.2.1 (by have := HKB0.out; omega)).mono ?_
  rintro e w12 ⟨rfl, hE_⟩
  replace ENV := Aside0.mk hE_
  clear hE_
  go_wp2_with fail
  refine (markS_e ENV.out 3 (A := B5) (c := d5) rfl k0 _ rfl k1 HK1.out HL1.out (by have := HKB1.out; omega)).mono ?_
  rintro e w13 ⟨rfl, hE_⟩
  replace ENV := Aside0.mk hE_
  clear hE_
  go_wp2_with fail
  refine (eqS_e ENV.out 2 5 (A1 := B6) (A2 := B3) (c1 := d6) (c2 := d3) rfl rfl HP.out.1).mono ?_
  rintro e w14 ⟨rfl, hE_⟩
  replace ENV := Aside0.mk hE_
  clear hE_
  go_wp2_with fail
  refine (markS_e ENV.out 2 (A := B6) (c := d6) rfl 1 _ rfl kg HKG.out HP.out.1 (by have := HKGB.out; omega)).mono ?_
  rintro e w15 ⟨rfl, hE_⟩
  replace ENV := Aside0.mk hE_
  clear hE_
  go_wp2_with fail
  refine (heldS_e ENV.out 2 (A := B6) (c := d6) (x := r0.length) 1 rfl _ rfl kg HKG.out (by have := HKGB.out; omega)).mono ?_
  rintro e w16 ⟨rfl, hE_⟩
  replace ENV := Aside0.mk hE_
  clear hE_
  go_wp2_with fail
  refine (toSS_e ENV.out A0 c0 l0 HR0.out HC0.out HS0.out.1 HS0.out.2.1).mono ?_
  rintro e w17 ⟨B17, d17, rfl, hE_⟩
  replace ENV := Aside0.mk hE_
  clear hE_
  go_wp2_with fail
  refine (toS_e ENV.out A1 c1 l1 HR1.out HC1.out HL1.out).mono ?_
  rintro e w18 ⟨B18, d18, rfl, hE_⟩
  replace ENV := Aside0.mk hE_
  clear hE_
  go_wp2_with fail
  refine (cc92 B17 d17 B18 d18 _ (ENV.out.C (A := B17) (n := l0.length) (c := d17) (by decide) 1 rfl) (ENV.out.cap (A := B17) (n := l0.length) (c := d17) (by decide) 1 rfl) (ENV.out.Cr (A := B18) (n := l1.length) (c := d18) 0 rfl) (ENV.out.capr (A := B18) (n := l1.length) (c := d18) 0 rfl)).mono ?_
  rintro e w19 ⟨v_, rfl, hS_, hb_⟩
  obtain ⟨B19, d19, rfl, hE_⟩ := ENV.out.madeR hS_ hb_
  clear hS_ hb_
  replace ENV := Aside0.mk hE_
  clear hE_
  go_wp2_with fail
  refine (eqS_e ENV.out 0 8 (A1 := B19) (A2 := B3) (c1 := d19) (c2 := d3) rfl rfl HP.out.1).mono ?_
  rintro e w20 ⟨rfl, hE_⟩
  replace ENV := Aside0.mk hE_
  clear hE_
  go_wp2_with fail
  refine (heldS_e ENV.out 5 (A := B6) (c := d6) (x := r0.length) 1 rfl _ rfl kg HKG.out (by have := HKGB.out; omega)).mono ?_
  rintro e w21 ⟨rfl, hE_⟩
  replace ENV := Aside0.mk hE_
  clear hE_
  go_wp2
  go_ret
  exact ⟨rfl, ENV.out.1⟩

end Go.Proofs.Ytldlldfoaicjcaa.Pure
