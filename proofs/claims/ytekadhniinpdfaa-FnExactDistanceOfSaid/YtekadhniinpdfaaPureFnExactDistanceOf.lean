/- DistanceOf answers as the reference's DistanceOf does, turns nothing that it was handed, and answers in memory of its own: the walk of the law. No conditions beyond the row's own. -/
import Derived.Test.YtekadhniinpdfaaMFnExactDistanceOfx5
import Derived.Test.YtekadhniinpdfaaMFnExactDistanceOfx0
import Derived.Test.YtekadhniinpdfaaMFnExactDistanceOfx1
import Derived.Test.YtekadhniinpdfaaMFnExactDistanceOfx2
import Derived.Test.YtekadhniinpdfaaMFnExactDistanceOfx3
import Derived.Test.YtekadhniinpdfaaMFnExactDistanceOfx4
import Derived.Test.YtekadhniinpdfaaBit
import Derived.Test.YtekadhniinpdfaaPoly
import Derived.Test.YtekadhniinpdfaaMat
import Derived.Test.YtekadhniinpdfaaMx
import Derived.Test.YtekadhniinpdfaaEnv
set_option linter.unusedVariables false
set_option linter.unusedSimpArgs false
namespace Go.Proofs.Ytekadhniinpdfaa.Pure
open Go.RowKit Go.Proofs.Ytekadhniinpdfaa Go.Proofs.Ytekadhniinpdfaa.MFnExactDistanceOf Go.Proofs.YtekadhniinpdfaaW.PrintWords Go.Proofs.YtekadhniinpdfaaW.PrintLast Go.Proofs.Ytekadhniinpdfaa.Bit

theorem impl_within_eq (a b c : Int) : impl_within.f a b c = some (decide (b ≤ a ∧ a ≤ c)) := by
  unfold impl_within.f
  by_cases h : a ≥ b
  · rw [if_pos h]; congr 1; simp [show b ≤ a from h]
  · rw [if_neg h]; congr 1; simp; omega

/-- Is a number an element? -/
def isB (a : Int) : Bool := decide (0 ≤ a ∧ a ≤ 255)
theorem isB_nat {a : Int} (h : isB a = true) : ∃ n : Nat, a = (n : Int) ∧ n < 256 := by
  simp only [isB, decide_eq_true_eq] at h
  exact ⟨a.toNat, by omega, by omega⟩
theorem isB_cast {n : Nat} (h : n < 256) : isB (n : Int) = true := by simp only [isB, decide_eq_true_eq]; omega

theorem impl_isGf_eq (a : Int) : impl_isGf.f a = some (isB a) := by
  unfold impl_isGf.f; rw [impl_within_eq]; rfl

theorem nat_nn (n : Nat) : ((n : Int) < 0) = False := by simp
theorem one_nat : (1 : Int) = ((1 : Nat) : Int) := rfl
theorem one_nn (n : Nat) : (((n : Nat) : Int) = ((n : Nat) : Int)) = True := by simp

theorem laws_szIntS_eq (l : List Int) (a : Int) (h0 : 0 ≤ a) (h1 : a ≤ 1048576) (hl : l.length ≤ 9223372036854775807) : laws_szIntS.f l a = some (if a - l.length < 0 then -1 else a - l.length) := by
  unfold laws_szIntS.f
  rw [wrap_id (by omega) (by omega)]
  split <;> rfl

theorem rd_nat (l : List Int) (i : Nat) (h : i < l.length) : rd l (i : Int) = l[i] := by
  unfold rd
  simp [List.getD_eq_getElem?_getD, List.getElem?_eq_getElem h]
theorem wrap_succ (i : Nat) (h : i < 9223372036854775807) : wrap64 ((i : Int) + 1) = ((i + 1 : Nat) : Int) := by rw [wrap_id (by omega) (by omega)]; omega

/-- The numbers m, m + 1, .., n of them. -/
def marks (m n : Nat) : List Int := (List.range n).map fun j => ((m + j : Nat) : Int)
theorem marks_length (m n : Nat) : (marks m n).length = n := by simp [marks]
theorem marks_succ (m n : Nat) : marks m (n + 1) = marks m n ++ [((m + n : Nat) : Int)] := by simp [marks, List.range_succ]
theorem marks_get (m n i : Nat) (h : i < (marks m n).length) : (marks m n)[i] = ((m + i : Nat) : Int) := by simp [marks]

/-- All places numbered from a on. -/
def marksS : Nat → List (List Int) → List (List Int)
  | _, [] => []
  | a, r :: m => marks a r.length :: marksS (a + r.length) m
def tot : List (List Int) → Nat
  | [] => 0
  | r :: m => r.length + tot m
theorem marksS_length : ∀ (a : Nat) (m : List (List Int)), (marksS a m).length = m.length
  | _, [] => rfl
  | a, r :: m => by simp only [marksS, List.length_cons, marksS_length]
theorem tot_append : ∀ (l m : List (List Int)), tot (l ++ m) = tot l + tot m
  | [], m => by simp [tot]
  | r :: l, m => by simp only [List.cons_append, tot, tot_append l m]; omega
theorem tot_take (m : List (List Int)) (i : Nat) : tot (m.take i) ≤ tot m := by
  have := tot_append (m.take i) (m.drop i)
  rw [List.take_append_drop] at this; omega
theorem tot_succ (m : List (List Int)) (i : Nat) (h : i < m.length) : tot (m.take (i + 1)) = tot (m.take i) + m[i].length := by
  rw [List.take_succ_eq_append_getElem h, tot_append]
  simp [tot]
theorem marksS_append : ∀ (a : Nat) (l m : List (List Int)), marksS a (l ++ m) = marksS a l ++ marksS (a + tot l) m
  | a, [], m => by simp [marksS, tot]
  | a, r :: l, m => by simp only [List.cons_append, marksS, tot, marksS_append (a + r.length) l m, Nat.add_assoc]
theorem tot_marksS : ∀ (a : Nat) (m : List (List Int)), tot (marksS a m) = tot m
  | _, [] => rfl
  | a, r :: m => by simp only [marksS, tot, marks_length, tot_marksS]
theorem tot_le : ∀ {m : List (List Int)} {b : Nat}, (∀ r ∈ m, r.length ≤ b) → tot m ≤ m.length * b
  | [], _, _ => by simp [tot]
  | r :: m, b, h => by
    have h1 := h r List.mem_cons_self
    have h2 := tot_le (m := m) (fun x hx => h x (List.mem_cons_of_mem _ hx))
    simp only [tot, List.length_cons, Nat.succ_mul]; omega
theorem marksS_get : ∀ (a : Nat) (m : List (List Int)) (i : Nat) (h : i < m.length) (h' : i < (marksS a m).length), (marksS a m)[i] = marks (a + tot (m.take i)) m[i].length
  | a, r :: m, 0, _, _ => by simp [marksS, tot]
  | a, r :: m, i + 1, h, h' => by
    simp only [marksS, List.getElem_cons_succ, List.take_succ_cons, tot]
    rw [marksS_get (a + r.length) m i (by simpa using h)]
    rw [Nat.add_assoc]

theorem rdL_nat (l : List (List Int)) (i : Nat) (h : i < l.length) : rd_L1 l (i : Int) = l[i] := by
  unfold rd_L1
  simp [List.getD_eq_getElem?_getD, List.getElem?_eq_getElem h]

/-- What is left of a measure. -/
def szV (m : List (List Int)) (a : Int) : Int := if a - (m.length + tot m : Nat) < 0 then -1 else a - (m.length + tot m : Nat)
theorem laws_szIntSS_l0 (m : List (List Int)) (hm : m.length ≤ 9223372036854775807) (hr : ∀ r ∈ m, r.length ≤ 9223372036854775807) : ∀ (d i : Nat) (a : Int), i + d = m.length → 0 ≤ a → a ≤ 1048576 →
    Ev (fun k => laws_szIntSS.l0 k m a (i : Int)) (if a - (tot (m.drop i) : Nat) < 0 then -1 else a - (tot (m.drop i) : Nat)) := by
  intro d
  induction d with
  | zero =>
    intro i a hi h0 h1
    obtain rfl : i = m.length := by omega
    rw [List.drop_length, show tot [] = 0 from rfl, if_neg (by omega), show a - ((0 : Nat) : Int) = a by omega]
    exact Ev.step (f := fun _ => some a) (fun k => by rw [laws_szIntSS.l0.eq_2, if_neg (by omega)]) (Ev.now _)
  | succ d ih =>
    intro i a hi h0 h1
    have hlt : i < m.length := by omega
    have hx := hr _ (List.getElem_mem hlt)
    have et : tot (m.drop i) = m[i].length + tot (m.drop (i + 1)) := by rw [List.drop_eq_getElem_cons hlt]; rfl
    rw [et]
    by_cases hn : a - (m[i].length : Int) < 0
    · rw [if_pos (by omega)]
      refine Ev.step (f := fun _ => some (-1)) (fun k => ?_) (Ev.now _)
      rw [laws_szIntSS.l0.eq_2, if_pos (by omega), if_pos (by omega), rdL_nat m i hlt, laws_szIntS_eq _ a h0 h1 hx, if_pos hn, Option.bind_some, if_pos (by omega)]
    · have e := ih (i + 1) (a - (m[i].length : Int)) (by omega) (by omega) (by omega)
      rw [show a - (m[i].length : Int) - ((tot (m.drop (i + 1)) : Nat) : Int) = a - ((m[i].length + tot (m.drop (i + 1)) : Nat) : Int) by omega] at e
      refine Ev.step (f := fun k => laws_szIntSS.l0 k m (a - (m[i].length : Int)) ((i + 1 : Nat) : Int)) (fun k => ?_) e
      rw [laws_szIntSS.l0.eq_2, if_pos (by omega), if_pos (by omega), rdL_nat m i hlt, laws_szIntS_eq _ a h0 h1 hx, if_neg hn, Option.bind_some, if_neg hn, wrap_succ i (by omega)]
theorem laws_szIntSS_ev (m : List (List Int)) (hm : m.length ≤ 9223372036854775807) (hr : ∀ r ∈ m, r.length ≤ 9223372036854775807) (a : Int) (h0 : 0 ≤ a) (h1 : a ≤ 1048576) : Ev (fun k => laws_szIntSS.f k m a) (szV m a) := by
  unfold laws_szIntSS.f szV
  rw [wrap_id (by omega) (by omega)]
  by_cases hn : a - (m.length : Int) < 0
  · simp only [if_pos hn, if_pos (show a - ((m.length + tot m : Nat) : Int) < 0 by omega)]
    exact Ev.now _
  · simp only [if_neg hn]
    have := laws_szIntSS_l0 m hm hr m.length 0 (a - m.length) (by omega) (by omega) (by omega)
    rw [List.drop_zero, show a - (m.length : Int) - ((tot m : Nat) : Int) = a - ((m.length + tot m : Nat) : Int) by omega] at this
    exact this

theorem spec_l1In_eq (a b c : Int) : spec_l1In.f a b c = some (decide (b ≤ a ∧ a ≤ c)) := by
  unfold spec_l1In.f
  by_cases h : a ≥ b
  · rw [if_pos h]; congr 1; simp [show b ≤ a from h]
  · rw [if_neg h]; congr 1; simp; omega

theorem spec_l1Gf_eq (a : Int) : spec_l1Gf.f a = some (isB a) := by
  unfold spec_l1Gf.f; rw [spec_l1In_eq]; rfl

theorem rd_get (l : List Int) (i : Nat) (h : i < l.length) : rd l (i : Int) = l[i] := by
  unfold rd
  simp [List.getD_eq_getElem?_getD, List.getElem?_eq_getElem h]
theorem wrap_up (i : Nat) (h : i < 9223372036854775807) : wrap64 ((i : Int) + 1) = ((i + 1 : Nat) : Int) := by rw [wrap_id (by omega) (by omega)]; omega
theorem wrap_down (a : Nat) (h : a ≤ 9223372036854775807) : wrap64 ((a : Int) - 1) = (a : Int) - 1 := wrap_id (by omega) (by omega)
theorem allB_up {l : List Int} (h : l.all isB = true) : ∃ m : List Nat, l = Poly.up m ∧ Poly.AllB m := by
  refine Poly.up_of fun x hx => ?_
  have := List.all_eq_true.1 h x hx
  simpa [isB] using this
theorem up_allB {m : List Nat} (h : Poly.AllB m) : (Poly.up m).all isB = true := by
  rw [List.all_eq_true]
  intro x hx
  have := Poly.up_bytes h x hx
  simp only [isB, decide_eq_true_eq]; omega

theorem spec_l1All_l0 (l : List Int) (hl : l.length ≤ 140737488351232) : ∀ d i : Nat, i + d = l.length → Ev (fun k => spec_l1All.l0 k l (l.length : Int) (i : Int)) ((l.drop i).all isB) := by
  intro d
  induction d with
  | zero =>
    intro i hi
    obtain rfl : i = l.length := by omega
    rw [List.drop_length]
    exact Ev.step (f := fun _ => some true) (fun k => by simp only [spec_l1All.l0]; rw [if_neg (by omega)]) (Ev.now _)
  | succ d ih =>
    intro i hi
    have hlt : i < l.length := by omega
    rw [List.drop_eq_getElem_cons hlt, List.all_cons]
    cases hb : isB l[i] with
    | true =>
      refine Ev.step (f := fun k => spec_l1All.l0 k l (l.length : Int) ((i + 1 : Nat) : Int)) (fun k => ?_) (ih (i + 1) (by omega))
      simp only [spec_l1All.l0, rd_get l i hlt, wrap_up i (by omega), spec_l1Gf_eq, hb, Option.bind_some, if_true]
      rw [if_pos (by omega), if_pos (by omega), if_pos (by omega)]
    | false =>
      refine Ev.step (f := fun _ => some false) (fun k => ?_) (Ev.now _)
      simp only [spec_l1All.l0, rd_get l i hlt, wrap_up i (by omega), spec_l1Gf_eq, hb, Option.bind_some]
      rw [if_pos (by omega), if_pos (by omega), if_pos (by omega)]; rfl
theorem spec_l1All_ev (l : List Int) (hl : l.length ≤ 140737488351232) : Ev (fun k => spec_l1All.f k l) (l.all isB) := spec_l1All_l0 l hl l.length 0 (by omega)

theorem xor_up {a b : Nat} (ha : a < 256) (hb : b < 256) : Go.bits .xor .i64 (a : Int) (b : Int) = ((a ^^^ b : Nat) : Int) := xor_nat (by omega) (by omega)
theorem wrap_nat (n : Nat) (h : n ≤ 9223372036854775807) : wrap64 (n : Int) = (n : Int) := wrap_id (by omega) (by omega)
theorem wrap_add (a b : Nat) (h : a + b ≤ 9223372036854775807) : wrap64 ((a : Int) + (b : Int)) = ((a + b : Nat) : Int) := by rw [wrap_id (by omega) (by omega)]; omega
theorem wrap_pred (a : Nat) (h : a ≤ 9223372036854775807) (h0 : 0 < a) : wrap64 ((a : Int) - 1) = ((a - 1 : Nat) : Int) := by rw [wrap_id (by omega) (by omega)]; omega

/-- Lists of rows of natural numbers as Go's. -/
def upM (m : List (List Nat)) : List (List Int) := m.map Poly.up
def dnM (m : List (List Int)) : List (List Nat) := m.map fun r => r.map Int.toNat
theorem upM_length (m : List (List Nat)) : (upM m).length = m.length := by simp [upM]
theorem upM_snoc (m : List (List Nat)) (r : List Nat) : upM m ++ [Poly.up r] = upM (m ++ [r]) := by simp [upM]
theorem upM_append (l m : List (List Nat)) : upM l ++ upM m = upM (l ++ m) := by simp [upM]
theorem upM_set (m : List (List Nat)) (i : Nat) (r : List Nat) : (upM m).set i (Poly.up r) = upM (m.set i r) := by simp [upM, List.map_set]
theorem upM_nil : ([] : List (List Int)) = upM [] := rfl
theorem upM_getD (m : List (List Nat)) (i : Nat) : (upM m).getD i [] = Poly.up (m.getD i []) := by
  unfold upM
  rw [List.getD_eq_getElem?_getD, List.getElem?_map, List.getD_eq_getElem?_getD]
  cases m[i]? <;> rfl
theorem rdL_up (m : List (List Nat)) (i : Nat) : rd_L1 (upM m) (i : Int) = Poly.up (m.getD i []) := by
  unfold rd_L1
  rw [Int.toNat_natCast]
  exact upM_getD m i
theorem rdL_up0 (m : List (List Nat)) : rd_L1 (upM m) 0 = Poly.up (m.getD 0 []) := rdL_up m 0
theorem dn_up (l : List Nat) : (Poly.up l).map Int.toNat = l := by
  unfold Poly.up
  rw [List.map_map]
  exact (List.map_congr_left (fun x _ => Int.toNat_natCast x)).trans (List.map_id' l)
theorem dnM_upM (m : List (List Nat)) : dnM (upM m) = m := by
  unfold dnM upM
  rw [List.map_map]
  exact (List.map_congr_left (fun x _ => dn_up x)).trans (List.map_id' m)
theorem upM_inj {l m : List (List Nat)} (h : upM l = upM m) : l = m := by rw [← dnM_upM l, h, dnM_upM]
/-- Rows of c elements. -/
def areR (c : Nat) (m : List (List Int)) : Bool := m.all fun r => decide (r.length = c) && r.all isB
theorem areR_up {c : Nat} : ∀ {m : List (List Int)}, areR c m = true → ∃ n, m = upM n ∧ Mat.MB' c n
  | [], _ => ⟨[], rfl, fun r hr => by cases hr⟩
  | r :: m, h => by
    simp only [areR, List.all_cons, Bool.and_eq_true, decide_eq_true_eq] at h
    obtain ⟨n, rfl, hn⟩ := areR_up (m := m) (by simpa [areR] using h.2)
    obtain ⟨q, rfl, hq⟩ := allB_up h.1.2
    refine ⟨q :: n, rfl, fun x hx => ?_⟩
    rcases List.mem_cons.1 hx with rfl | hx
    · exact ⟨by simpa [Poly.up_length] using h.1.1, hq⟩
    · exact hn x hx
theorem up_areR {c : Nat} {n : List (List Nat)} (h : Mat.MB' c n) : areR c (upM n) = true := by
  unfold areR upM
  rw [List.all_eq_true]
  intro x hx
  obtain ⟨r, hr, rfl⟩ := List.mem_map.1 hx
  rw [Bool.and_eq_true, decide_eq_true_eq, Poly.up_length]
  exact ⟨(h r hr).1, up_allB (h r hr).2⟩
def goodM (m : List (List Int)) : Bool := decide (1 ≤ m.length ∧ m.length ≤ 8) && (decide (1 ≤ (m.getD 0 []).length ∧ (m.getD 0 []).length ≤ 8) && areR (m.getD 0 []).length m)
theorem goodM_up {m : List (List Int)} (h : goodM m = true) : ∃ c n, m = upM n ∧ Mat.MB' c n ∧ (m.getD 0 []).length = c ∧ m.length = n.length ∧ 1 ≤ n.length ∧ n.length ≤ 8 ∧ 1 ≤ c ∧ c ≤ 8 := by
  simp only [goodM, Bool.and_eq_true, decide_eq_true_eq] at h
  obtain ⟨n, hn, hB⟩ := areR_up h.2.2
  exact ⟨_, n, hn, hB, rfl, by rw [hn, upM_length], by rw [← upM_length, ← hn]; exact h.1.1, by rw [← upM_length, ← hn]; exact h.1.2, h.2.1.1, h.2.1.2⟩
theorem up_goodM {c : Nat} {n : List (List Nat)} (h : Mat.MB' c n) (h1 : 1 ≤ n.length) (h2 : n.length ≤ 8) (h3 : 1 ≤ c) (h4 : c ≤ 8) : goodM (upM n) = true := by
  have e : ((upM n).getD 0 []).length = c := by rw [upM_getD, Poly.up_length]; exact (h.get (by omega)).1
  unfold goodM
  rw [e, up_areR h, upM_length, decide_eq_true (by omega), decide_eq_true (by omega)]; rfl
theorem goodM_rows {m : List (List Int)} (h : goodM m = true) : m.length ≤ 8 ∧ ∀ r ∈ m, r.length ≤ 8 := by
  obtain ⟨c, n, rfl, hB, _, _, _, h2, _, h4⟩ := goodM_up h
  refine ⟨by rw [upM_length]; exact h2, fun r hr => ?_⟩
  obtain ⟨q, hq, rfl⟩ := List.mem_map.1 hr
  rw [Poly.up_length, (hB q hq).1]; exact h4
theorem upM_small {c k : Nat} {n : List (List Nat)} (h : Mat.MB' c n) (hl : n.length ≤ k) (hc : c ≤ k) : (upM n).length ≤ k ∧ ∀ r ∈ upM n, r.length ≤ k := by
  refine ⟨by rw [upM_length]; exact hl, fun r hr => ?_⟩
  obtain ⟨q, hq, rfl⟩ := List.mem_map.1 hr
  rw [Poly.up_length, (h q hq).1]; exact hc

/-- Pieces, all as long. -/
def areP (m : List (List Int)) : Bool := decide ((m.getD 0 []).length ≤ 32) && areR (m.getD 0 []).length m
theorem areP_up {m : List (List Int)} (h : areP m = true) : ∃ c n, m = upM n ∧ Mat.MB' c n ∧ (m.getD 0 []).length = c ∧ c ≤ 32 := by
  simp only [areP, Bool.and_eq_true, decide_eq_true_eq] at h
  obtain ⟨n, hn, hB⟩ := areR_up h.2
  exact ⟨_, n, hn, hB, rfl, h.1⟩
theorem up_areP {c : Nat} {n : List (List Nat)} (h : Mat.MB' c n) (hc : c ≤ 32) (hn : 0 < n.length) : areP (upM n) = true := by
  have e : ((upM n).getD 0 []).length = c := by rw [upM_getD, Poly.up_length]; exact (h.get hn).1
  unfold areP
  rw [e, up_areR h, decide_eq_true hc]; rfl
theorem areP_split {c : Nat} : ∀ (m : List (List Int)), (m.all fun r => decide (r.length = c) && (decide (r.length ≤ 32) && r.all isB)) = ((m.isEmpty || decide (c ≤ 32)) && areR c m)
  | [] => by simp [areR]
  | r :: m => by
    have ih := areP_split (c := c) m
    simp only [areR, List.all_cons, List.isEmpty_cons, Bool.false_or] at ih ⊢
    rw [ih]
    by_cases h1 : r.length = c
    · rw [h1]
      cases decide (c ≤ 32) <;> cases m.isEmpty <;> simp
    · rw [decide_eq_false h1]; simp

theorem spec_l3Pieces_l0 (m : List (List Int)) (a : Int) (hl : m.length ≤ 140737488351232) (hr : ∀ r ∈ m, r.length ≤ 140737488351232) : ∀ d i : Nat, i + d = m.length →
    Ev (fun k => spec_l3Pieces.l0 k m a m (m.length : Int) (i : Int)) (((m.drop i).all fun r => decide (r.length = (m.getD 0 []).length) && (decide (r.length ≤ 32) && r.all isB)) && decide ((m.length : Int) = a)) := by
  intro d
  induction d with
  | zero =>
    intro i hi
    obtain rfl : i = m.length := by omega
    rw [List.drop_length, List.all_nil, Bool.true_and]
    refine Ev.step (f := fun _ => some (decide ((m.length : Int) = a))) (fun k => ?_) (Ev.now _)
    rw [spec_l3Pieces.l0.eq_2, if_neg (by omega)]
    by_cases h : (m.length : Int) = a
    · rw [decide_eq_true h, h]; simp
    · rw [decide_eq_false h, beq_eq_false_iff_ne.mpr h]
  | succ d ih =>
    intro i hi
    have hlt : i < m.length := by omega
    have hz : rd_L1 m 0 = m.getD 0 [] := rfl
    rw [List.drop_eq_getElem_cons hlt, List.all_cons]
    have E := spec_l1All_ev m[i] (hr _ (List.getElem_mem hlt))
    by_cases h1 : m[i].length = (m.getD 0 []).length
    · rw [decide_eq_true h1, Bool.true_and]
      by_cases h2 : m[i].length ≤ 32
      · rw [decide_eq_true h2, Bool.true_and]
        refine Ev.step (f := fun k => (spec_l1All.f k m[i]).bind fun t => if t = true then spec_l3Pieces.l0 k m a m (m.length : Int) ((i + 1 : Nat) : Int) else some false) (fun k => ?_) (Ev.bind (f := fun k t => if t = true then spec_l3Pieces.l0 k m a m (m.length : Int) ((i + 1 : Nat) : Int) else some false) E ?_)
        · rw [spec_l3Pieces.l0.eq_2, if_pos (by omega), if_pos (by omega), if_pos (by omega), if_pos (by omega), rdL_nat m i hlt, hz, if_pos (by omega), if_neg (by omega), wrap_succ i (by omega)]
        · cases m[i].all isB
          · rw [Bool.false_and, Bool.false_and]; exact Ev.now _
          · rw [Bool.true_and]
            simp only [if_true]
            exact ih (i + 1) (by omega)
      · rw [decide_eq_false h2, Bool.false_and, Bool.false_and, Bool.false_and]
        refine Ev.step (f := fun _ => some false) (fun k => ?_) (Ev.now _)
        rw [spec_l3Pieces.l0.eq_2, if_pos (by omega), if_pos (by omega), if_pos (by omega), if_pos (by omega), rdL_nat m i hlt, hz, if_pos (by omega), if_pos (by omega)]
    · rw [decide_eq_false h1, Bool.false_and, Bool.false_and, Bool.false_and]
      refine Ev.step (f := fun _ => some false) (fun k => ?_) (Ev.now _)
      rw [spec_l3Pieces.l0.eq_2, if_pos (by omega), if_pos (by omega), if_pos (by omega), if_pos (by omega), rdL_nat m i hlt, hz, if_neg (by omega)]
theorem spec_l3Pieces_ev (m : List (List Int)) (a : Int) (hl : m.length ≤ 140737488351232) (hr : ∀ r ∈ m, r.length ≤ 140737488351232) : Ev (fun k => spec_l3Pieces.f k m a) (areP m && decide ((m.length : Int) = a)) := by
  have := spec_l3Pieces_l0 m a hl hr m.length 0 (by omega)
  rw [List.drop_zero, areP_split] at this
  have e : ((m.isEmpty || decide ((m.getD 0 []).length ≤ 32)) && areR (m.getD 0 []).length m) = areP m := by
    unfold areP
    cases m with
    | nil => simp [areR]
    | cons r m => rfl
  rw [e] at this
  exact this

theorem spec_l1Same_l0 (l m : List Int) (hlm : l.length = m.length) (hl : l.length ≤ 140737488351232) : ∀ d i : Nat, i + d = l.length → Ev (fun k => spec_l1Same.l0 k l m (l.length : Int) (i : Int)) (decide (l.drop i = m.drop i)) := by
  intro d
  induction d with
  | zero =>
    intro i hi
    obtain rfl : i = l.length := by omega
    have e : decide (l.drop l.length = m.drop l.length) = true := by
      have e2 : m.drop l.length = [] := by rw [hlm, List.drop_length]
      rw [e2, List.drop_length]; rfl
    rw [e]
    exact Ev.step (f := fun _ => some true) (fun k => by rw [spec_l1Same.l0.eq_2, if_neg (by omega)]) (Ev.now _)
  | succ d ih =>
    intro i hi
    have hlt : i < l.length := by omega
    have hlt2 : i < m.length := by omega
    rw [List.drop_eq_getElem_cons hlt, List.drop_eq_getElem_cons hlt2]
    by_cases e : l[i] = m[i]
    · have e2 : decide (l[i] :: l.drop (i + 1) = m[i] :: m.drop (i + 1)) = decide (l.drop (i + 1) = m.drop (i + 1)) := by simp only [List.cons.injEq, e, true_and]
      rw [e2]
      refine Ev.step (f := fun k => spec_l1Same.l0 k l m (l.length : Int) ((i + 1 : Nat) : Int)) (fun k => ?_) (ih (i + 1) (by omega))
      rw [spec_l1Same.l0.eq_2, if_pos (by omega), if_pos (by omega), if_pos (by omega), if_pos (by omega), rd_get l i hlt, rd_get m i hlt2, if_pos e, wrap_up i (by omega)]
    · have e2 : decide (l[i] :: l.drop (i + 1) = m[i] :: m.drop (i + 1)) = false := by simp only [List.cons.injEq, e, false_and, decide_false]
      rw [e2]
      refine Ev.step (f := fun _ => some false) (fun k => ?_) (Ev.now _)
      rw [spec_l1Same.l0.eq_2, if_pos (by omega), if_pos (by omega), if_pos (by omega), if_pos (by omega), rd_get l i hlt, rd_get m i hlt2, if_neg e]
theorem spec_l1Same_ev (l m : List Int) (hl : l.length ≤ 140737488351232) : Ev (fun k => spec_l1Same.f k l m) (decide (l = m)) := by
  unfold spec_l1Same.f
  by_cases h : l.length = m.length
  · simp only [if_pos (show (l.length : Int) = (m.length : Int) by omega)]
    exact spec_l1Same_l0 l m h hl l.length 0 (by omega)
  · simp only [if_neg (show ¬ (l.length : Int) = (m.length : Int) by omega)]
    have : decide (l = m) = false := by simp only [decide_eq_false_iff_not]; rintro rfl; exact h rfl
    rw [this]
    exact Ev.now _

/-- At how many places two lists are unlike. -/
def unlikeN {α : Type} [DecidableEq α] : List α → List α → Nat
  | x :: a, y :: b => (if x = y then 0 else 1) + unlikeN a b
  | _, _ => 0
theorem unlikeN_zero {α : Type} [DecidableEq α] : ∀ {a b : List α}, a.length = b.length → (unlikeN a b = 0 ↔ a = b)
  | [], [], _ => by simp [unlikeN]
  | x :: a, y :: b, h => by
    have ih := unlikeN_zero (a := a) (b := b) (by simpa using h)
    unfold unlikeN
    by_cases e : x = y
    · rw [if_pos e, Nat.zero_add, ih, e]; simp
    · rw [if_neg e]
      simp only [List.cons.injEq, e, false_and, iff_false]; omega
  | [], _ :: _, h => by cases h
  | _ :: _, [], h => by cases h
theorem unlikeN_le {α : Type} [DecidableEq α] : ∀ (a b : List α), unlikeN a b ≤ a.length
  | x :: a, y :: b => by
    have := unlikeN_le a b
    unfold unlikeN
    split <;> simp <;> omega
  | [], _ => by simp [unlikeN]
  | _ :: _, [] => by simp [unlikeN]

theorem spec_l3Unlike_l0 (a b : List (List Int)) (hab : a.length = b.length) (hl : a.length ≤ 1000000) (hr : ∀ r ∈ a, r.length ≤ 1000000) : ∀ d i n : Nat, i + d = a.length → n ≤ i → Ev (fun k => spec_l3Unlike.l0 k a b (n : Int) (a.length : Int) (i : Int)) (((n + unlikeN (a.drop i) (b.drop i) : Nat)) : Int) := by
  intro d
  induction d with
  | zero =>
    intro i n hi hn
    obtain rfl : i = a.length := by omega
    rw [List.drop_length]
    refine Ev.step (f := fun _ => some ((n + unlikeN [] (b.drop a.length) : Nat) : Int)) (fun k => ?_) (Ev.now _)
    rw [spec_l3Unlike.l0.eq_2, if_neg (by omega)]; rfl
  | succ d ih =>
    intro i n hi hn
    have hlt : i < a.length := by omega
    have hlt2 : i < b.length := by omega
    rw [List.drop_eq_getElem_cons hlt, List.drop_eq_getElem_cons hlt2]
    have E := spec_l1Same_ev a[i] b[i] (by have := hr _ (List.getElem_mem hlt); omega)
    refine Ev.step (f := fun k => (spec_l1Same.f k a[i] b[i]).bind fun t => if t = true then spec_l3Unlike.l0 k a b (n : Int) (a.length : Int) ((i + 1 : Nat) : Int) else spec_l3Unlike.l0 k a b ((n + 1 : Nat) : Int) (a.length : Int) ((i + 1 : Nat) : Int)) (fun k => ?_)
      (Ev.bind (f := fun k t => if t = true then spec_l3Unlike.l0 k a b (n : Int) (a.length : Int) ((i + 1 : Nat) : Int) else spec_l3Unlike.l0 k a b ((n + 1 : Nat) : Int) (a.length : Int) ((i + 1 : Nat) : Int)) E ?_)
    · rw [spec_l3Unlike.l0.eq_2, if_pos (by omega), if_pos (by omega), if_pos (by omega), if_pos (by omega), rdL_nat a i hlt, rdL_nat b i hlt2, wrap_succ i (by omega), wrap_succ n (by omega)]
    · unfold unlikeN
      by_cases e : a[i] = b[i]
      · rw [decide_eq_true e, if_pos e, Nat.zero_add]
        simp only [if_true]
        exact ih (i + 1) n (by omega) (by omega)
      · rw [decide_eq_false e, if_neg e]
        simp only [Bool.false_eq_true, if_false]
        have := ih (i + 1) (n + 1) (by omega) (by omega)
        rwa [Nat.add_assoc] at this
theorem spec_l3Unlike_ev (a b : List (List Int)) (hab : a.length = b.length) (hl : a.length ≤ 1000000) (hr : ∀ r ∈ a, r.length ≤ 1000000) : Ev (fun k => spec_l3Unlike.f k a b) ((unlikeN a b : Nat) : Int) := by
  have := spec_l3Unlike_l0 a b hab hl hr a.length 0 0 (by omega) (Nat.le_refl _)
  rwa [List.drop_zero, List.drop_zero, Nat.zero_add] at this

def distV (a b : List (List Int)) : Int × Bool := if decide (a.length = b.length) && (areP a && (areP b && (decide (a.length ≤ 10) && decide (a.length = 0 ∨ (a.getD 0 []).length = (b.getD 0 []).length)))) then (((unlikeN a b : Nat) : Int), true) else (0, false)
theorem areP_both {a b : List (List Int)} (h : a.length = b.length) : areP (a ++ b) = (areP a && (areP b && decide (a.length = 0 ∨ (a.getD 0 []).length = (b.getD 0 []).length))) := by
  cases a with
  | nil =>
    cases b with
    | nil => rfl
    | cons q b => cases h
  | cons r a =>
    cases b with
    | nil => cases h
    | cons q b =>
      have e1 : ((r :: a).getD 0 []).length = r.length := rfl
      have e2 : ((q :: b).getD 0 []).length = q.length := rfl
      have e3 : (((r :: a) ++ (q :: b)).getD 0 []).length = r.length := rfl
      have e4 : ∀ c, areR c ((r :: a) ++ (q :: b)) = (areR c (r :: a) && areR c (q :: b)) := fun c => by unfold areR; rw [List.all_append]
      unfold areP
      rw [e1, e2, e3, e4]
      by_cases e : r.length = q.length
      · rw [e, decide_eq_true (p := (r :: a).length = 0 ∨ q.length = q.length) (.inr rfl)]
        cases decide (q.length ≤ 32) <;> cases areR q.length (r :: a) <;> cases areR q.length (q :: b) <;> rfl
      · have e5 : areR r.length (q :: b) = false := by
          unfold areR
          rw [List.all_cons, decide_eq_false (fun h => e h.symm), Bool.false_and, Bool.false_and]
        rw [e5, decide_eq_false (p := (r :: a).length = 0 ∨ r.length = q.length) (by simp [e])]; simp
theorem distV_off {a b : List (List Int)} (h : ¬ (a.length = b.length ∧ a.length ≤ 10 ∧ areP (a ++ b) = true)) : distV a b = (0, false) := by
  unfold distV
  by_cases e : a.length = b.length
  · rw [decide_eq_true e, Bool.true_and]
    apply if_neg
    intro g
    simp only [Bool.and_eq_true] at g
    exact h ⟨e, of_decide_eq_true g.2.2.1, by rw [areP_both e, g.1, g.2.1, g.2.2.2]; rfl⟩
  · rw [decide_eq_false e, Bool.false_and]; rfl
theorem distV_on {a b : List (List Int)} (e : a.length = b.length) (h1 : a.length ≤ 10) (h : areP (a ++ b) = true) : distV a b = (((unlikeN a b : Nat) : Int), true) := by
  unfold distV
  rw [areP_both e] at h
  simp only [Bool.and_eq_true] at h
  rw [decide_eq_true e, h.1, h.2.1, h.2.2, decide_eq_true h1]; rfl

theorem spec_DistanceOf_ev (a b : List (List Int)) (ha : a.length ≤ 1048576) (har : ∀ r ∈ a, r.length ≤ 1048576) (hb : b.length ≤ 1048576) (hbr : ∀ r ∈ b, r.length ≤ 1048576) : Ev (fun k => spec_DistanceOf.f k a b) (distV a b) := by
  unfold spec_DistanceOf.f
  by_cases e : a.length = b.length
  rotate_left
  · rw [distV_off (fun h => e h.1)]
    simp only [if_neg (show ¬ (a.length : Int) = (b.length : Int) by omega)]
    exact Ev.now _
  have hi : (a.length : Int) = (b.length : Int) := by omega
  simp only [if_pos hi]
  refine Ev.bind (f := fun k t => if t = true then _ else some (0, false)) (spec_l3Pieces_ev a (b.length : Int) (by omega) (fun r h => by have := har r h; omega)) ?_
  rw [decide_eq_true hi, Bool.and_true]
  cases g1 : areP a with
  | false =>
    rw [distV_off (fun h => by have := h.2.2; rw [areP_both e, g1] at this; cases this)]
    exact Ev.now _
  | true =>
  simp only [if_true]
  refine Ev.bind (f := fun k t => if t = true then _ else some (0, false)) (spec_l3Pieces_ev b (a.length : Int) (by omega) (fun r h => by have := hbr r h; omega)) ?_
  rw [decide_eq_true hi.symm, Bool.and_true]
  cases g2 : areP b with
  | false =>
    rw [distV_off (fun h => by have := h.2.2; rw [areP_both e, g2, Bool.false_and, Bool.and_false] at this; cases this)]
    exact Ev.now _
  | true =>
  simp only [if_true]
  by_cases h10 : a.length ≤ 10
  rotate_left
  · rw [distV_off (fun h => h10 h.2.1)]
    simp only [if_pos (show (a.length : Int) > 10 by omega)]
    exact Ev.now _
  have E := spec_l3Unlike_ev a b e (by omega) (fun r h => by
    obtain ⟨c, n, rfl, hn, _, hc⟩ := areP_up g1
    obtain ⟨q, hq, rfl⟩ := List.mem_map.1 h
    rw [Poly.up_length, (hn q hq).1]; omega)
  simp only [if_neg (show ¬ (a.length : Int) > 10 by omega)]
  by_cases h0 : 0 < a.length
  rotate_left
  · simp only [if_neg (show ¬ (a.length : Int) > 0 by omega)]
    rw [distV_on e h10 (by rw [areP_both e, g1, g2, decide_eq_true (.inl (by omega))]; rfl)]
    exact Ev.bind (f := fun _ t => some (t, true)) E (Ev.now _)
  simp only [if_pos (show (a.length : Int) > 0 by omega), if_pos (show 0 < (a.length : Int) by omega), if_pos (show 0 < (b.length : Int) by omega)]
  have z1 : rd_L1 a 0 = a.getD 0 [] := rfl
  have z2 : rd_L1 b 0 = b.getD 0 [] := rfl
  rw [z1, z2]
  by_cases hc : (a.getD 0 []).length = (b.getD 0 []).length
  · simp only [if_pos (show ((a.getD 0 []).length : Int) = ((b.getD 0 []).length : Int) by omega)]
    rw [distV_on e h10 (by rw [areP_both e, g1, g2, decide_eq_true (.inr hc)]; rfl)]
    exact Ev.bind (f := fun _ t => some (t, true)) E (Ev.now _)
  · simp only [if_neg (show ¬ ((a.getD 0 []).length : Int) = ((b.getD 0 []).length : Int) by omega)]
    rw [distV_off (fun h => by have := h.2.2; rw [areP_both e, g1, g2, decide_eq_false (by omega)] at this; cases this)]
    exact Ev.now _

theorem laws_toIntS_l0 (l : List Int) (hl : l.length ≤ 1048576) : ∀ d i : Nat, i + d = l.length → Ev (fun k => laws_toIntS.l0 k l (l.take i ++ List.replicate d 0) (i : Int)) l := by
  intro d
  induction d with
  | zero =>
    intro i hi
    obtain rfl : i = l.length := by omega
    exact Ev.step (f := fun _ => some l) (fun k => by simp only [laws_toIntS.l0]; rw [if_neg (by omega)]; simp) (Ev.now _)
  | succ d ih =>
    intro i hi
    have hlt : i < l.length := by omega
    refine Ev.step (f := fun k => laws_toIntS.l0 k l (l.take (i + 1) ++ List.replicate d 0) ((i + 1 : Nat) : Int)) (fun k => ?_) (ih (i + 1) (by omega))
    have e : ((l.take i ++ List.replicate (d + 1) 0).set i l[i]) = l.take (i + 1) ++ List.replicate d 0 := by
      rw [List.set_append_right _ _ (by simp; omega)]
      simp only [List.length_take, Nat.min_eq_left (Nat.le_of_lt hlt), Nat.sub_self, List.replicate_succ, List.set_cons_zero]
      rw [List.take_succ_eq_append_getElem hlt, List.append_assoc]; rfl
    have z : (i : Int) < ((l.take i ++ List.replicate (d + 1) (0 : Int)).length : Int) := by simp only [List.length_append, List.length_take, List.length_replicate]; omega
    simp only [laws_toIntS.l0, rd_nat l i hlt, wrap_succ i (by omega), Int.toNat_natCast]
    rw [if_pos (by omega), if_pos (by omega), if_pos z, e]
theorem laws_toIntS_ev (l : List Int) (hl : l.length ≤ 1048576) : Ev (fun k => laws_toIntS.f k l) l := by
  unfold laws_toIntS.f
  have z1 : (0 : Int) ≤ (l.length : Int) := by omega
  have z2 : (l.length : Int).toNat ≤ 35184372088832 := by omega
  simp only [if_pos z1, if_pos z2]
  have := laws_toIntS_l0 l hl l.length 0 (by omega)
  simpa using this

theorem impl_areGf_eq (l : List Int) : impl_areGf.f l = some (l.all isB) := by
  unfold impl_areGf.f
  have e : impl_areGf.bad = fun n => !isB n := by
    funext n
    simp only [impl_areGf.bad, isB]
  rw [e, List.all_eq_not_any_not]

theorem impl_arePieces_eq (m : List (List Int)) (a : Int) (hm : 0 < m.length) : impl_arePieces.f m a = some (areP m && decide ((m.length : Int) = a)) := by
  unfold impl_arePieces.f impl_areLong.f areP
  have e : impl_areGf.bad = fun n => !isB n := by
    funext n
    simp only [impl_areGf.bad, isB]
  have e2 : (m.all fun r => decide (r.length = (m.getD 0 []).length) && r.all isB) = ((!m.any (impl_areLong.bad m)) && !(m.any fun r => r.any impl_areGf.bad)) := by
    have h1 : impl_areLong.bad m = fun r => !decide (r.length = (m.getD 0 []).length) := by funext r; rfl
    rw [h1, e]
    have h2 : (fun r : List Int => r.any fun n => !isB n) = fun r => !r.all isB := by funext r; rw [List.all_eq_not_any_not, Bool.not_not]
    rw [h2, ← List.all_eq_not_any_not, ← List.all_eq_not_any_not]
    generalize (m.getD 0 []).length = c
    induction m with
    | nil => rfl
    | cons r m ih =>
      simp only [List.all_cons]
      by_cases hm0 : 0 < m.length
      · rw [ih hm0 rfl]
        cases decide (r.length = c) <;> cases r.all isB <;> simp
      · obtain rfl : m = [] := List.length_eq_zero_iff.1 (by omega)
        simp
  unfold areR
  rw [e2]
  by_cases h1 : (m.length : Int) = a
  · rw [if_pos h1, if_pos hm, Option.bind_some, decide_eq_true h1, Bool.and_true]
    cases decide ((m.getD 0 []).length ≤ 32) <;> cases m.any (impl_areLong.bad m) <;> simp
  · rw [if_neg h1, Option.bind_some, decide_eq_false h1, Bool.and_false]; simp

theorem slices_Equal_int_int_l0 (l m : List Int) (hlm : l.length = m.length) (hl : l.length ≤ 140737488351232) : ∀ d i : Nat, i + d = l.length → Ev (fun k => slices_Equal_int_int.l0 k l m (l.length : Int) (i : Int)) (decide (l.drop i = m.drop i)) := by
  intro d
  induction d with
  | zero =>
    intro i hi
    obtain rfl : i = l.length := by omega
    have e : decide (l.drop l.length = m.drop l.length) = true := by
      have e2 : m.drop l.length = [] := by rw [hlm, List.drop_length]
      rw [e2, List.drop_length]; rfl
    rw [e]
    exact Ev.step (f := fun _ => some true) (fun k => by rw [slices_Equal_int_int.l0.eq_2, if_neg (by omega)]) (Ev.now _)
  | succ d ih =>
    intro i hi
    have hlt : i < l.length := by omega
    have hlt2 : i < m.length := by omega
    rw [List.drop_eq_getElem_cons hlt, List.drop_eq_getElem_cons hlt2]
    by_cases e : l[i] = m[i]
    · have e2 : decide (l[i] :: l.drop (i + 1) = m[i] :: m.drop (i + 1)) = decide (l.drop (i + 1) = m.drop (i + 1)) := by simp only [List.cons.injEq, e, true_and]
      rw [e2]
      refine Ev.step (f := fun k => slices_Equal_int_int.l0 k l m (l.length : Int) ((i + 1 : Nat) : Int)) (fun k => ?_) (ih (i + 1) (by omega))
      rw [slices_Equal_int_int.l0.eq_2, if_pos (by omega), if_pos (by omega), if_pos (by omega), if_pos (by omega), rd_get l i hlt, rd_get m i hlt2, if_pos e, wrap_up i (by omega)]
    · have e2 : decide (l[i] :: l.drop (i + 1) = m[i] :: m.drop (i + 1)) = false := by simp only [List.cons.injEq, e, false_and, decide_false]
      rw [e2]
      refine Ev.step (f := fun _ => some false) (fun k => ?_) (Ev.now _)
      rw [slices_Equal_int_int.l0.eq_2, if_pos (by omega), if_pos (by omega), if_pos (by omega), if_pos (by omega), rd_get l i hlt, rd_get m i hlt2, if_neg e]
theorem slices_Equal_int_int_ev (l m : List Int) (hl : l.length ≤ 140737488351232) : Ev (fun k => slices_Equal_int_int.f k l m) (decide (l = m)) := by
  unfold slices_Equal_int_int.f
  by_cases h : l.length = m.length
  · simp only [if_pos (show (l.length : Int) = (m.length : Int) by omega)]
    exact slices_Equal_int_int_l0 l m h hl l.length 0 (by omega)
  · simp only [if_neg (show ¬ (l.length : Int) = (m.length : Int) by omega)]
    have : decide (l = m) = false := by simp only [decide_eq_false_iff_not]; rintro rfl; exact h rfl
    rw [this]
    exact Ev.now _

theorem laws_eqIntS_l0 (l m : List Int) (hlm : l.length = m.length) (hl : l.length ≤ 140737488351232) : ∀ d i : Nat, i + d = l.length → Ev (fun k => laws_eqIntS.l0 k l m (i : Int)) (decide (l.drop i = m.drop i)) := by
  intro d
  induction d with
  | zero =>
    intro i hi
    obtain rfl : i = l.length := by omega
    have e : decide (l.drop l.length = m.drop l.length) = true := by
      have e2 : m.drop l.length = [] := by rw [hlm, List.drop_length]
      rw [e2, List.drop_length]; rfl
    rw [e]
    exact Ev.step (f := fun _ => some true) (fun k => by simp only [laws_eqIntS.l0]; rw [if_neg (by omega)]) (Ev.now _)
  | succ d ih =>
    intro i hi
    have hlt : i < l.length := by omega
    have hlt2 : i < m.length := by omega
    rw [List.drop_eq_getElem_cons hlt, List.drop_eq_getElem_cons hlt2]
    by_cases e : l[i] = m[i]
    · have : decide (l[i] :: l.drop (i + 1) = m[i] :: m.drop (i + 1)) = decide (l.drop (i + 1) = m.drop (i + 1)) := by simp only [List.cons.injEq, e, true_and]
      rw [this]
      refine Ev.step (f := fun k => laws_eqIntS.l0 k l m ((i + 1 : Nat) : Int)) (fun k => ?_) (ih (i + 1) (by omega))
      simp only [laws_eqIntS.l0, rd_nat l i hlt, rd_nat m i hlt2, wrap_succ i (by omega)]
      rw [if_pos (by omega), if_pos (by omega), if_pos (by omega), if_pos e]
    · have : decide (l[i] :: l.drop (i + 1) = m[i] :: m.drop (i + 1)) = false := by simp only [List.cons.injEq, e, false_and, decide_false]
      rw [this]
      refine Ev.step (f := fun k => some false) (fun k => ?_) (Ev.now _)
      simp only [laws_eqIntS.l0, rd_nat l i hlt, rd_nat m i hlt2, wrap_succ i (by omega)]
      rw [if_pos (by omega), if_pos (by omega), if_pos (by omega), if_neg e]
theorem laws_eqIntS_ev (l m : List Int) (hl : l.length ≤ 140737488351232) : Ev (fun k => laws_eqIntS.f k l m) (decide (l = m)) := by
  unfold laws_eqIntS.f
  by_cases h : l.length = m.length
  · simp only [if_pos (show (l.length : Int) = (m.length : Int) by omega)]
    exact laws_eqIntS_l0 l m h hl l.length 0 (by omega)
  · simp only [if_neg (show ¬ (l.length : Int) = (m.length : Int) by omega)]
    have : decide (l = m) = false := by simp only [decide_eq_false_iff_not]; rintro rfl; exact h rfl
    rw [this]
    exact Ev.now _

theorem laws_eqIntSS_l0 (l m : List (List Int)) (hlm : l.length = m.length) (hl : l.length ≤ 140737488351232) (hr : ∀ r ∈ l, r.length ≤ 140737488351232) : ∀ d i : Nat, i + d = l.length → Ev (fun k => laws_eqIntSS.l0 k l m (i : Int)) (decide (l.drop i = m.drop i)) := by
  intro d
  induction d with
  | zero =>
    intro i hi
    obtain rfl : i = l.length := by omega
    have e : decide (l.drop l.length = m.drop l.length) = true := by
      have e2 : m.drop l.length = [] := by rw [hlm, List.drop_length]
      rw [e2, List.drop_length]; rfl
    rw [e]
    exact Ev.step (f := fun _ => some true) (fun k => by rw [laws_eqIntSS.l0.eq_2, if_neg (by omega)]) (Ev.now _)
  | succ d ih =>
    intro i hi
    have hlt : i < l.length := by omega
    have hlt2 : i < m.length := by omega
    rw [List.drop_eq_getElem_cons hlt, List.drop_eq_getElem_cons hlt2]
    have E := laws_eqIntS_ev l[i] m[i] (hr _ (List.getElem_mem hlt))
    refine Ev.step (f := fun k => (laws_eqIntS.f k l[i] m[i]).bind fun t => if t = true then laws_eqIntSS.l0 k l m ((i + 1 : Nat) : Int) else some false) (fun k => ?_) (Ev.bind (f := fun k t => if t = true then laws_eqIntSS.l0 k l m ((i + 1 : Nat) : Int) else some false) E ?_)
    · rw [laws_eqIntSS.l0.eq_2, if_pos (by omega), if_pos (by omega), if_pos (by omega), rdL_nat l i hlt, rdL_nat m i hlt2, wrap_succ i (by omega)]
    · by_cases e : l[i] = m[i]
      · have e2 : decide (l[i] :: l.drop (i + 1) = m[i] :: m.drop (i + 1)) = decide (l.drop (i + 1) = m.drop (i + 1)) := by simp only [List.cons.injEq, e, true_and]
        rw [e2, decide_eq_true e]
        simp only [if_true]
        exact ih (i + 1) (by omega)
      · have e2 : decide (l[i] :: l.drop (i + 1) = m[i] :: m.drop (i + 1)) = false := by simp only [List.cons.injEq, e, false_and, decide_false]
        rw [e2, decide_eq_false e]
        simp only [Bool.false_eq_true, if_false]
        exact Ev.now _
theorem laws_eqIntSS_ev (l m : List (List Int)) (hl : l.length ≤ 140737488351232) (hr : ∀ r ∈ l, r.length ≤ 140737488351232) : Ev (fun k => laws_eqIntSS.f k l m) (decide (l = m)) := by
  unfold laws_eqIntSS.f
  by_cases h : l.length = m.length
  · simp only [if_pos (show (l.length : Int) = (m.length : Int) by omega)]
    exact laws_eqIntSS_l0 l m h hl hr l.length 0 (by omega)
  · simp only [if_neg (show ¬ (l.length : Int) = (m.length : Int) by omega)]
    have : decide (l = m) = false := by simp only [decide_eq_false_iff_not]; rintro rfl; exact h rfl
    rw [this]
    exact Ev.now _
theorem laws_eqIntSS_same (l : List (List Int)) (hl : l.length ≤ 1048576) (hr : ∀ r ∈ l, r.length ≤ 1048576) : ∃ K, laws_eqIntSS.f K l l = some true := by
  have := laws_eqIntSS_ev l l (by omega) (fun r h => by have := hr r h; omega)
  rw [decide_eq_true rfl] at this
  exact this.rounds

theorem mk_rows {P : Program} (e : TypeId) (bytes : Nat) (t : TypeId) (ht : P.underlying t = some (.slice e)) (hinfo : (P.info? e).map (fun i => (i.zero, i.size, i.bytes)) = some (some (.slice none 0 0), 1, bytes)) (hb0 : 0 < bytes) (m : Nat) (hn : m * bytes ≤ 281474976710656) :
    ∀ W : World, (Instr.makeSlice t (.int .i64 (m : Int)) (.int .i64 (m : Int))).run P W = .ok (.slice (some ⟨W.heap.size, 0, none⟩) m m) (W.alloc (.cells (madeCells #[.slice none 0 0] m) e)) := by
  intro W
  have hm : m ≤ 281474976710656 := Nat.le_trans (Nat.le_mul_of_pos_right _ hb0) hn
  exact run_make_row' t e (.slice none 0 0) bytes ht hinfo rfl .i64 .i64 m (by rw [Nat.mul_comm]; exact hn) (by omega) W
/-- A row of m nils is made. -/
theorem mk_event {P : Program} {ops : Array Oper} {rest : List Oper} {o : Oper} {a : Act} {Q : Exit → Act → World → Prop} {W : World} (q : TypeId) (hgd : o.guard = none) {N : Tmp} (hd : o.dst = some N) (t e : TypeId) (x y : Operand) (ho : o.op = .makeSlice t x y) (m : Nat) (hx : a.eval x = .int .i64 (m : Int)) (hy : a.eval y = .int .i64 (m : Int)) (bytes : Nat)
    (ht : P.underlying t = some (.slice e)) (hinfo : (P.info? e).map (fun i => (i.zero, i.size, i.bytes)) = some (some (.slice none 0 0), 1, bytes)) (hb0 : 0 < bytes) (hn : m * bytes ≤ 281474976710656)
    (h : ∀ g w1, Mx.Mx e q w1 W.heap.size w1.heap.size (.slice (some ⟨g, 0, none⟩) m m) (List.replicate m []) (List.replicate m (.slice none 0 0)) → Below W.heap.size W w1 → wpList P ops Q rest (a.put o.dst (.slice (some ⟨g, 0, none⟩) m m)) w1) : wpList P ops Q (o :: rest) a W := by
  have hm : m ≤ 281474976710656 := Nat.le_trans (Nat.le_mul_of_pos_right _ hb0) hn
  have h1 : W.heap.size + 1 = (W.alloc (.cells (madeCells #[Value.slice none 0 0] m) e)).heap.size := by simp
  have hM := Mx.Mx.nils (e := e) (t := q) W W.heap.size m (Nat.le_refl _) (by omega)
  rw [h1] at hM
  exact Kd.event_run hgd (by simp [execOp, ho, hx, hy, mk_rows e bytes t ht hinfo hb0 m hn]) (h _ _ hM (below_alloc (Below.refl _ _) _))

theorem infoR : (Try.prog.info? 34).map (fun i => (i.zero, i.size, i.bytes)) = some (some (.slice none 0 0), 1, 24) := by kernel_rfl

set_option maxHeartbeats 4000000 in
set_option maxRecDepth 100000 in
/-- A copy of a list of rows, rows and all. -/
theorem toSS_calls (A : Option Addr) (c : Nat) (m : List (List Int)) (w : World) (hr0 : Kd.C (Kd.slice 3 (Kd.int .i64)) w A m.length m) (hc0 : m.length ≤ c) (hml : m.length ≤ 1048576) (hrow : ∀ r ∈ m, r.length ≤ 1048576) :
    Calls Try.prog 52 #[.slice A m.length c] w fun e w' => ∃ v vs, e = .returned v ∧ Mx.Mx 34 3 w' w.heap.size w'.heap.size v m vs ∧ Below w.heap.size w w' := by
  have HR := Aside0.mk hr0
  have HC := Aside0.mk hc0
  have HW := Aside0.mk hrow
  have HM := Aside0.mk hml
  clear hr0 hc0 hrow
  go_enter Try.func52, Try.ntmps52
  go_wp2_with (first | ((with_reducible refine gate_dst (N := 7) rfl ?_); refine mk_event 3 rfl rfl 63 34 _ _ rfl m.length rfl rfl 24 Try.underlying63 infoR (by decide) (by have := HM.out; omega) ?_; intro g w1 hM hb; have HX0 := Aside0.mk hM; have HB0 := Aside0.mk hb; clear hM hb))
  go_loopg [4] m.length (fun gg s4 wr => ∃ (i : Nat) (vs : List Value), i ≤ m.length ∧ m.length - i ≤ gg ∧ s4 = .int .i64 i ∧ Aside0 (Mx.Mx 34 3 wr w.heap.size wr.heap.size (.slice (some ⟨g, 0, none⟩) m.length m.length) (m.take i ++ List.replicate (m.length - i) []) vs) ∧ Aside0 (Below w.heap.size w wr))
  case atStart => exact ⟨0, _, Nat.zero_le _, by omega, rfl, ⟨by simpa using HX0.out⟩, HB0⟩
  case round =>
    clear HX0 HB0
    obtain ⟨i, vs, hi', hg, rfl, HX, HB⟩ := hrel
    by_cases hlt : i < m.length
    · have hM := HX.out
      have hlen : (m.take i ++ List.replicate (m.length - i) []).length = m.length := by rw [List.length_append, List.length_take, List.length_replicate]; omega
      obtain ⟨u, hu⟩ := hM.at_ (i := i) (by rw [hlen]; exact hlt)
      obtain ⟨g', cap, hv, hg0, hg1, _, _, hcell⟩ := hM.cells (by rw [hlen]; omega)
      have hc := (hcell i u hu).1
      have hf := (hcell i u hu).2
      clear hcell
      obtain ⟨ad, A1, c1, rfl, hx, hl1, hr1⟩ := Mx.rows_at HR.out i hlt hlt
      have hx' := pw_cell_below HB.out hx
      obtain ⟨K, hK⟩ := (laws_toIntS_ev m[i] (HW.out _ (List.getElem_mem hlt))).rounds
      have hcall := laws_toIntS.calls K A1 c1 m[i] m[i] wr (Kd.C_below hr1 HB.out) hl1 hK
      have hset : (m.take i ++ List.replicate (m.length - i) []).set i m[i] = m.take (i + 1) ++ List.replicate (m.length - (i + 1)) [] := by
        rw [List.set_append_right _ _ (by rw [List.length_take]; omega), List.length_take, Nat.min_eq_left hi', Nat.sub_self, show m.length - i = (m.length - (i + 1)) + 1 by omega, List.replicate_succ, List.set_cons_zero, List.take_succ_eq_append_getElem hlt, List.append_assoc]
        rfl
      have HU := Aside0.mk hu
      have HC2 := Aside0.mk hc
      have HF2 := Aside0.mk hf
      have HS := Aside0.mk hset
      have HL := Aside0.mk hlen
      clear hM hlen hu hset hx hc hf hr1 hK
      injection hv with hv1 hv2 hv3
      injection hv1 with hv1
      injection hv1 with hv1 _ _
      subst hv1
      clear hv2 hv3
      go_wp2_with (first
        | (go_at_call 23; refine hcall.mono ?_; rintro e w1 ⟨v1, rfl, hR1, hb1⟩; obtain ⟨A9, c9, rfl⟩ := Kd.R_slice hR1; have hc2 := pw_cell_below hb1 HC2.out; have hf2 := (hb1.frozen (World.block_lt_of_cell? _ _ HC2.out)).trans HF2.out; have HB1 := Aside0.mk hb1; have HR1 := Aside0.mk hR1; clear hb1 hR1)
        | ((with_reducible refine gate_store (t := 34) (p := 21) rfl ?_); refine store_event (t := 34) (p := 21) (v := ?vo) (w1 := (w1.setCell ⟨g, i, none⟩ (.slice A9 m[i].length c9))) ?hg ?ho ?hn ?hr ?_; (case ho => rfl); (case hg => rfl); (case hn => rfl); (case hr => first | (go_simp; done) | (go_simp; rfl)); intro w2 hw; have HW2 := Aside0.mk hw; clear hw hc2 hf2))
      have hlo := HB.out.size
      have hX1 := (HX.out.below HB1.out).widen (Nat.le_refl _) HB1.out.size
      have hR2 := Mx.row_made HR1.out hlo
      have hp := Mx.Mx.place (by rw [HL.out]; exact hX1) (by decide) (i := i) (by rw [HL.out]; exact hlt) hR2 (fun j u hu => HX.out.new HR1.out j u hu)
      rw [HL.out, HS.out, ← HW2.out] at hp
      have hb2 := hp.2.below (HB.out.trans (HB1.out.mono hlo)) (Nat.le_trans hlo HB1.out.size) hg0
      have hp1 := hp.1
      rw [show w1.heap.size = w2.heap.size by rw [HW2.out]; simp [World.setCell]] at hp1
      have HX2 := Aside0.mk hp1
      have HB2 := Aside0.mk hb2
      clear hX1 hR2 hp hp1 hb2 hlo
      go_roundg (m.length - (i + 1))
      case measure => omega
      case rel => exact ⟨i + 1, _, by omega, by omega, by go_num, HX2, HB2⟩
    · obtain rfl : i = m.length := by omega
      go_wp2
      go_ret
      have hx := HX.out
      rw [List.take_length, Nat.sub_self, List.replicate_zero, List.append_nil] at hx
      exact ⟨_, _, rfl, hx, HB.out⟩

theorem rows_len {w : World} {A : Option Addr} {n : Nat} {E : TypeId} {xs : List (List Int)} (h : Kd.C (Kd.slice E (Kd.int .i64)) w A n xs) : xs.length ≤ 9223372036854775807 ∧ ∀ r ∈ xs, r.length ≤ 9223372036854775807 := by
  have hn := h.1
  have hm := h.2.1
  refine ⟨by omega, fun r hr => ?_⟩
  obtain ⟨i, hi, rfl⟩ := List.getElem_of_mem hr
  obtain ⟨_, _, _, _, _, _, hC⟩ := Mx.rows_at h i (by omega) hi
  have := hC.2.1
  have := hC.1
  omega
theorem small_rows {m : List (List Int)} (h : m.length + tot m ≤ 1048576) : m.length ≤ 1048576 ∧ (∀ r ∈ m, r.length ≤ 1048576) ∧ tot m ≤ 1048576 := by
  have ht : ∀ (l : List (List Int)), ∀ r ∈ l, r.length ≤ tot l := by
    intro l
    induction l with
    | nil => intro r hr; cases hr
    | cons x l ih =>
      intro r hr
      rcases List.mem_cons.1 hr with rfl | hr
      · simp only [tot]; omega
      · have := ih r hr; simp only [tot]; omega
  exact ⟨by omega, fun r hr => by have := ht m r hr; omega, by omega⟩
theorem le_small {m : List (List Int)} {k : Nat} (h : m.length ≤ k ∧ ∀ r ∈ m, r.length ≤ k) (hk : k ≤ 1000 := by decide) : m.length ≤ 1000 ∧ ∀ r ∈ m, r.length ≤ 1000 := ⟨by omega, fun r hr => by have := h.2 r hr; omega⟩

theorem toSS_e {w0 w : World} {L : List (Value × Env.It)} (E : Env.Env 34 3 w0 w L) (A : Option Addr) (c : Nat) (m : List (List Int)) (hr0 : Kd.C (Kd.slice 3 (Kd.int .i64)) w0 A m.length m) (hc0 : m.length ≤ c) (hml : m.length ≤ 1048576) (hrow : ∀ r ∈ m, r.length ≤ 1048576) :
    Calls Try.prog 52 #[.slice A m.length c] w fun e w' => ∃ A1 c1, e = .returned (.slice A1 m.length c1) ∧ Env.Env 34 3 w0 w' ((.slice A1 m.length c1, .mat m) :: L) :=
  (toSS_calls A c m w (E.came hr0) hc0 hml hrow).mono fun e w' ⟨v, vs, he, hM, hb⟩ => by
    obtain ⟨A1, c1, hv, _, _⟩ := hM.C (by decide)
    subst hv
    exact ⟨A1, c1, he, E.mx hM hb⟩

theorem sz_c (A : Option Addr) (c : Nat) (m : List (List Int)) (a : Int) (w : World) (hr0 : Kd.C (Kd.slice 3 (Kd.int .i64)) w A m.length m) (hc0 : m.length ≤ c) (h0 : 0 ≤ a) (h1 : a ≤ 1048576) :
    Calls Try.prog 50 #[.slice A m.length c, .int .i64 a] w fun e w' => e = .returned (.int .i64 (szV m a)) ∧ Below w.heap.size w w' := by
  have hb := rows_len hr0
  obtain ⟨K, hK⟩ := (laws_szIntSS_ev m hb.1 hb.2 a h0 h1).rounds
  exact (laws_szIntSS.calls K A c m a _ w hr0 hc0 hK).mono fun e w' ⟨he, hd⟩ => ⟨he, hd.below⟩
theorem szV_big {m : List (List Int)} {a : Int} (h : a < (m.length + tot m : Nat)) : szV m a = -1 := by unfold szV; rw [if_pos (by omega)]
theorem szV_ok {m : List (List Int)} {a : Int} (h : ¬ a < (m.length + tot m : Nat)) : szV m a = a - (m.length + tot m : Nat) := by unfold szV; rw [if_neg (by omega)]

theorem eqSS_e {w0 w : World} {L : List (Value × Env.It)} (E : Env.Env 34 3 w0 w L) (i j : Nat) {A1 A2 : Option Addr} {c1 c2 : Nat} {it1 it2 : Env.It} {m : List (List Int)} (hi : L[i]? = some (.slice A1 m.length c1, it1)) (hj : L[j]? = some (.slice A2 m.length c2, it2)) (hm1 : it1.rows = some m) (hm2 : it2.rows = some m) (hl : m.length ≤ 1048576) (hr : ∀ r ∈ m, r.length ≤ 1048576) :
    Calls Try.prog 54 #[.slice A1 m.length c1, .slice A2 m.length c2] w fun e w' => e = .returned (.bool true) ∧ Env.Env 34 3 w0 w' L := by
  obtain ⟨K, hK⟩ := laws_eqIntSS_same m hl hr
  have h1 := E.Cq (by decide) i hi hm1
  have h2 := E.Cq (by decide) j hj hm2
  exact (laws_eqIntSS.calls K A1 c1 m A2 c2 m true w h1.2 h1.1 h2.2 h2.1 hK).mono fun e w' ⟨he, hd⟩ => ⟨he, E.below hd.below⟩

theorem fixed_reads {w0 w : World} {base : Nat} {ok : Nat → Prop} {v : Value} {m : List (List Int)} (h : (Kd.fixed (Kd.slice 3 (Kd.int .i64)) w0).R 34 w base ok v m) (hb : Below w0.heap.size w0 w) : ∃ A c, v = .slice A m.length c ∧ m.length ≤ c ∧ Kd.C (Kd.slice 3 (Kd.int .i64)) w A m.length m := by
  obtain ⟨A, c, rfl, hl, hC⟩ := Kd.R_reads h
  exact ⟨A, c, rfl, hl, ReadsRow.imp_ hC (Below.refl _ _) (fun _ _ hp => (Kd.slice 3 (Kd.int .i64)).K_below hb hp)⟩
theorem fixed_row {w0 w : World} {A : Option Addr} {n : Nat} {m : List (List Int)} (h : Kd.C (Kd.slice 3 (Kd.int .i64)) w0 A n m) (hb : Below w0.heap.size w0 w) : ReadsRow ((Kd.slice 3 (Kd.int .i64)).K w0) 1 w A n m := ReadsRow.imp_ h hb (fun _ _ hp => hp)
set_option maxHeartbeats 8000000 in
set_option maxRecDepth 100000 in
theorem cloneSS_e (A0 : Option Addr) (c0 : Nat) (l0 : List (List Int)) (w : World) (hr0 : Kd.C (Kd.slice 3 (Kd.int .i64)) w A0 l0.length l0) (hl : l0.length ≤ 1048576) :
    Calls Try.prog 99 #[.slice A0 l0.length c0] w fun e w' => ∃ v, e = .returned v ∧ (Kd.fixed (Kd.slice 3 (Kd.int .i64)) w).R 34 w' w.heap.size (fun _ => True) v l0 ∧ Below w.heap.size w w' := by
  have HR0 := Aside0.mk hr0
  have HL := Aside0.mk hl
  have HB := Aside0.mk (Below.refl w.heap.size w)
  have heq : ∀ w, (binOp .eql 63 (.slice A0 l0.length c0) (.slice none 0 0)).run Try.prog w = .ok (.bool A0.isNone) w := fun w => Lib.run_eql_slice_nil w 63 34 A0 l0.length c0 0 0 Try.underlying63
  clear hl
  cases A0 with
  | none =>
    have h0 : l0 = [] := by
      cases l0 with
      | nil => rfl
      | cons x r => obtain ⟨ad, h, _⟩ := hr0.2.2 (by simp); cases h
    subst h0
    clear hr0
    have heq0 : ∀ w, (binOp .eql 63 (.slice none 0 c0) (.slice none 0 0)).run Try.prog w = .ok (.bool true) w := fun w => Lib.run_eql_slice_nil w 63 34 none 0 c0 0 0 Try.underlying63
    go_enter Try.func99, Try.ntmps99
    go_wp2
    go_ret
    exact ⟨_, rfl, Kd.R_nil _ _ _ _ _, HB.out⟩
  | some ad =>
    clear hr0
    have e0 : (some ad).isNone = false := rfl
    go_enter Try.func99, Try.ntmps99
    go_wp2_with (first | ((with_reducible refine gate_dst (N := 5) rfl ?_); refine Kd.R_lit (Kd.fixed (Kd.slice 3 (Kd.int .i64)) w) _ 34 ?hg (N := 5) ?hd (xs := ([] : List (List Int))) (inner := []) (ok := fun _ => True) (okp := fun _ => True) ?hr ?hp (fun _ hk => hk) trivial (Below.refl _ _) (Nat.le_refl _) (by simp) ?_; (case hd => rfl); (case hg => rfl); (case hr => first | (go_simp; done) | (go_simp; rfl)); (case hp => exact (Reps.none _ _)); intro v183 w15 ho16 hb hg_ hnew_; clear hg_ hnew_; have HO := Aside0.mk (Kd.R_lower ho16 (below_size (by repeat (first | (with_reducible first | exact HB.out | apply below_alloc | apply pw_below_drewN | apply below_drew1) | exact HB.out)))); have HB1 := Aside0.mk (below_step (by repeat (first | (with_reducible first | exact HB.out | apply below_alloc | apply pw_below_drewN | apply below_drew1) | exact HB.out)) hb); clear HB hb ho16) | ((with_reducible refine gate_builtin (b := .append) (xs := #[.tmp 5, .tmp 6]) rfl ?_); at_builtin; refine Kd.R_append_rows (Kd.fixed (Kd.slice 3 (Kd.int .i64)) w) (w0 := w) w.heap.size rfl (.tmp 5) (.tmp 6) 63 34 (.slice none 0 0) 24 rfl Try.underlying63 infoR rfl Nat.one_pos (by omega) v183 [] l0 _ _ _ (fun _ => True) (fun _ => False) rfl rfl ?aO ?aR (fun _ _ h => h) (fun _ h => h.elim) ?aF ?aB ?aS ?aL ?_; (case aR => exact fixed_row HR0.out HB1.out); (case aB => exact HB1.out); (case aF => exact (fun _ _ => trivial)); (case aO => exact HO.out); (case aS => exact HB1.out.size); (case aL => have := HL.out; simp only [List.length_nil]; omega); intro v186 w17 ho hb hg hat; rw [List.nil_append] at ho; have HB2 := Aside0.mk hb; have HO2 := Aside0.mk ho; clear ho hb hg hat))
    go_ret
    exact ⟨_, rfl, HO2.out, HB2.out⟩

def impl_DistanceOf.f (l0 l1 : List (List Int)) : Option (Int × Bool) := if (l0.length ≤ 1048576 ∧ ∀ r ∈ l0, r.length ≤ 1048576) ∧ l1.length ≤ 1048576 then some (distV l0 l1) else none
theorem impl_DistanceOf_eq (l0 l1 : List (List Int)) (h1 : l0.length ≤ 1048576) (h2 : ∀ r ∈ l0, r.length ≤ 1048576) (h3 : l1.length ≤ 1048576) : impl_DistanceOf.f l0 l1 = some (distV l0 l1) := if_pos ⟨⟨h1, h2⟩, h3⟩
theorem unlikeN_drop (a b : List (List Int)) (i : Nat) (ha : i < a.length) (hb : i < b.length) : unlikeN (a.drop i) (b.drop i) = (if a.getD i [] = b.getD i [] then 0 else 1) + unlikeN (a.drop (i + 1)) (b.drop (i + 1)) := by
  rw [List.drop_eq_getElem_cons ha, List.drop_eq_getElem_cons hb, List.getD_eq_getElem?_getD, List.getD_eq_getElem?_getD, List.getElem?_eq_getElem ha, List.getElem?_eq_getElem hb]; rfl
set_option maxHeartbeats 8000000 in
set_option maxRecDepth 100000 in
theorem impl_DistanceOf.calls (A0 : Option Addr) (c0 : Nat) (l0 : List (List Int)) (A1 : Option Addr) (c1 : Nat) (l1 : List (List Int)) (r1 : Int) (r2 : Bool) (w : World) (hr0 : Kd.C (Kd.slice 3 (Kd.int .i64)) w A0 l0.length l0) (hc0 : l0.length ≤ c0) (hr1 : Kd.C (Kd.slice 3 (Kd.int .i64)) w A1 l1.length l1) (hc1 : l1.length ≤ c1) (h : impl_DistanceOf.f l0 l1 = some (r1, r2)) :
    Calls Try.prog 53 #[.slice A0 l0.length c0, .slice A1 l1.length c1] w fun e w' => e = .returned (.tuple #[.int .i64 r1, .bool r2]) ∧ Below w.heap.size w w' := by
  unfold impl_DistanceOf.f at h
  split at h
  rotate_left
  · cases h
  rename_i hs
  injection h with h
  have HL := Aside0.mk hs
  have HV := Aside0.mk h
  have HR0 := Aside0.mk hr0
  have HR1 := Aside0.mk hr1
  have HB := Aside0.mk (Below.refl w.heap.size w)
  obtain ⟨m, hm⟩ : ∃ m, m = l0 ++ l1 := ⟨_, rfl⟩
  have HM := Aside0.mk hm
  clear h hs hr0 hr1 hc0 hc1 hm
  go_enter Try.func53, Try.ntmps53
  go_upto_region 2 with (first | (go_at_call 99; refine (cloneSS_e A0 c0 l0 w HR0.out HL.out.1.1).mono ?_; rintro e w1 ⟨v, rfl, hR, hb⟩; have HO := Aside0.mk hR; have HB1 := Aside0.mk hb; clear hR hb) | ((with_reducible refine gate_builtin (b := .append) (xs := #[.tmp 10, .tmp 11]) rfl ?_); at_builtin; refine Kd.R_append_rows (Kd.fixed (Kd.slice 3 (Kd.int .i64)) w) (w0 := w) w.heap.size rfl (.tmp 10) (.tmp 11) 63 34 (.slice none 0 0) 24 rfl Try.underlying63 infoR rfl Nat.one_pos (by omega) v l0 l1 _ _ _ (fun _ => True) (fun _ => False) rfl rfl ?aO ?aR (fun _ _ h => h) (fun _ h => h.elim) ?aF ?aB ?aS ?aL ?_; (case aR => exact fixed_row HR1.out HB1.out); (case aB => exact HB1.out); (case aF => exact (fun _ _ => trivial)); (case aO => exact HO.out); (case aS => exact HB1.out.size); (case aL => have := HL.out; omega); intro v9 w9 ho hb hg hat; rw [← HM.out] at ho; obtain ⟨A9, c9, rfl, hl9, hC9⟩ := fixed_reads ho hb; have HB2 := Aside0.mk hb; have HP := Aside0.mk hC9; have HC9 := Aside0.mk hl9; clear ho hb hg hat hl9 hC9))
  go_cut [34] (fun v34 wc => ∃ b, v34 = .bool b ∧ Aside0 ((b = true → (0, false) = (r1, r2)) ∧ (b = false → l0.length = l1.length ∧ l0.length ≤ 10 ∧ (((unlikeN l0 l1 : Nat) : Int), true) = (r1, r2))) ∧ Aside0 (Below w.heap.size w wc))
  case first =>
    by_cases h1 : l0.length = l1.length
    rotate_left
    · have n1 : ((l0.length : Int) != (l1.length : Int)) = true := by rw [bne_iff_ne]; omega
      have HX := Aside0.mk (show distV l0 l1 = (0, false) from distV_off (fun h => h1 h.1))
      clear h1
      go_wp2
      go_meet
      case rel => exact ⟨true, rfl, ⟨fun _ => HX.out.symm.trans HV.out, fun h => by cases h⟩, HB2⟩
    have n1 : ((l0.length : Int) != (l1.length : Int)) = false := by rw [bne_eq_false_iff_eq]; omega
    by_cases h10 : l0.length ≤ 10
    rotate_left
    · have n2 : decide ((10 : Int) < (l0.length : Int)) = true := decide_eq_true (by omega)
      have n3 : decide (10 < l0.length) = true := decide_eq_true (by omega)
      have HX := Aside0.mk (show distV l0 l1 = (0, false) from distV_off (fun h => h10 h.2.1))
      clear h1 h10
      go_wp2
      go_meet
      case rel => exact ⟨true, rfl, ⟨fun _ => HX.out.symm.trans HV.out, fun h => by cases h⟩, HB2⟩
    have n2 : decide ((10 : Int) < (l0.length : Int)) = false := decide_eq_false (by omega)
    have n3 : decide (10 < l0.length) = false := decide_eq_false (by omega)
    have HE := Aside0.mk (And.intro h1 h10)
    by_cases h0 : 0 < l0.length
    · have n4 : decide ((0 : Int) < (l0.length : Int)) = true := decide_eq_true (by omega)
      have n5 : decide (0 < l0.length) = true := decide_eq_true h0
      have hE := impl_arePieces_eq m (m.length : Int) (by rw [HM.out, List.length_append]; omega)
      rw [decide_eq_true rfl, Bool.and_true] at hE
      cases hb : areP m with
      | true =>
        rw [hb] at hE
        have H9 := Aside0.mk hE
        have HX := Aside0.mk (distV_on h1 h10 (HM.out ▸ hb))
        clear h1 h10 h0 hE hb
        go_wp2_with (go_at_call 100; refine (impl_arePieces.calls A9 c9 m (m.length : Int) true _ HP.out HC9.out H9.out).mono ?_; rintro e w3 ⟨rfl, hb⟩; have HB3 := Aside0.mk (below_step HB2.out hb); clear hb)
        go_meet
        case rel => exact ⟨false, rfl, ⟨fun h => (by cases h), fun _ => ⟨HE.out.1, HE.out.2, HX.out.symm.trans HV.out⟩⟩, HB3⟩
      | false =>
        rw [hb] at hE
        have H9 := Aside0.mk hE
        have HX := Aside0.mk (show distV l0 l1 = (0, false) from distV_off (fun h => by rw [← HM.out, hb] at h; exact absurd h.2.2 (by decide)))
        clear h1 h10 h0 hE hb
        go_wp2_with (go_at_call 100; refine (impl_arePieces.calls A9 c9 m (m.length : Int) false _ HP.out HC9.out H9.out).mono ?_; rintro e w3 ⟨rfl, hb⟩; have HB3 := Aside0.mk (below_step HB2.out hb); clear hb)
        go_meet
        case rel => exact ⟨true, rfl, ⟨fun _ => HX.out.symm.trans HV.out, fun h => by cases h⟩, HB3⟩
    · have n4 : decide ((0 : Int) < (l0.length : Int)) = false := decide_eq_false (by omega)
      have n5 : decide (0 < l0.length) = false := decide_eq_false h0
      have e0 : l0 = [] := List.length_eq_zero_iff.1 (by omega)
      have e1 : l1 = [] := List.length_eq_zero_iff.1 (by omega)
      have HX := Aside0.mk (distV_on h1 h10 (by rw [e0, e1]; rfl))
      clear h1 h10 h0 e0 e1
      go_wp2
      go_meet
      case rel => exact ⟨false, rfl, ⟨fun h => (by cases h), fun _ => ⟨HE.out.1, HE.out.2, HX.out.symm.trans HV.out⟩⟩, HB2⟩
  case rest =>
    clear HO HB1 HB2 HP HC9 HB
    obtain ⟨b, rfl, HX, HB⟩ := hcut
    cases b with
    | true =>
      have hx := HX.out.1 rfl
      injection hx with e1 e2
      subst e1 e2
      go_wp2
      go_ret2
      exact ⟨rfl, HB.out⟩
    | false =>
      have HY := Aside0.mk (HX.out.2 rfl)
      have HRA := Aside0.mk (Kd.C_below HR0.out HB.out)
      have HRB := Aside0.mk (Kd.C_below HR1.out HB.out)
      have HWR := Aside0.mk HL.out.1.2
      clear HX HV HR0 HR1 HM HL
      go_wp2
      go_loopg [7, 37] l0.length (fun gg v7 v37 wq => ∃ i n : Nat, i ≤ l0.length ∧ l0.length - i ≤ gg ∧ v7 = .int .i64 n ∧ v37 = .int .i64 i ∧ Aside0 (n + unlikeN (l0.drop i) (l1.drop i) = unlikeN l0 l1 ∧ n ≤ i) ∧ Drawn0 wc wq)
      case atStart => exact ⟨0, 0, Nat.zero_le _, by omega, rfl, rfl, ⟨by rw [List.drop_zero, List.drop_zero, Nat.zero_add], Nat.le_refl _⟩, Drawn0.refl _⟩
      case round =>
        obtain ⟨i, n, hi', hgi, rfl, rfl, HN, ⟨m1, rfl⟩⟩ := hrel
        have z0 : (0 : Int) ≤ (i : Int) := by omega
        have z1 : (i : Int) ≤ 100 := by have := HY.out; omega
        have z2 : (n : Int) ≤ 100 := by have := HN.out; omega
        have z3 : (0 : Int) ≤ (n : Int) := by omega
        by_cases hlt : i < l0.length
        · have hlt1 : i < l1.length := by have := HY.out.1; omega
          have j1 : ((i : Int) < (l0.length : Int)) = True := eq_true (by omega)
          have j2 : (i < l0.length) = True := eq_true hlt
          have j3 : ((i : Int) < (l1.length : Int)) = True := eq_true (by omega)
          have j4 : (i < l1.length) = True := eq_true hlt1
          obtain ⟨ad, A5, c5, eA, hx, hl5, hC5⟩ := at_L1 HRA.out (i : Int) z0 (by omega)
          obtain ⟨bd, A6, c6, eB, hy, hl6, hC6⟩ := at_L1 HRB.out (i : Int) z0 (by omega)
          cases eA
          cases eB
          have e0 := unlikeN_drop l0 l1 i hlt hlt1
          have ex : rd_L1 l0 (i : Int) = l0.getD i [] := by unfold rd_L1; rw [Int.toNat_natCast]
          have ey : rd_L1 l1 (i : Int) = l1.getD i [] := by unfold rd_L1; rw [Int.toNat_natCast]
          rw [ex] at hx hl5 hC5
          rw [ey] at hy hl6 hC6
          have hxl : (l0.getD i []).length ≤ 1048576 := by
            rw [List.getD_eq_getElem?_getD, List.getElem?_eq_getElem hlt]; exact HWR.out _ (List.getElem_mem hlt)
          generalize l0.getD i [] = x at hx hl5 hC5 e0 hxl
          generalize l1.getD i [] = y at hy hl6 hC6 e0
          obtain ⟨K, hK⟩ := (slices_Equal_int_int_ev x y (by omega)).rounds
          have HX5 := Aside0.mk (And.intro hl5 hC5)
          have HX6 := Aside0.mk (And.intro hl6 hC6)
          rw [Int.toNat_natCast] at hx hy
          by_cases e : x = y
          · rw [decide_eq_true e] at hK
            have HK := Aside0.mk hK
            rw [if_pos e, Nat.zero_add] at e0
            have HE := Aside0.mk e0
            clear hK e0 ex ey hl5 hC5 hl6 hC6 hxl e
            go_wp2
            go_quiet (first | (go_at_call 101; refine (slices_Equal_int_int.calls K A5 c5 x A6 c6 y true _ ?side1 HX5.out.1 ?side2 HX6.out.1 HK.out).mono ?_; (case side1 => repeat (first | exact HX5.out.2 | (with_reducible refine Kd.C_drewN ?_ _) | (with_reducible refine Kd.C_drew ?_))); (case side2 => repeat (first | exact HX6.out.2 | (with_reducible refine Kd.C_drewN ?_ _) | (with_reducible refine Kd.C_drew ?_))); rintro e w' ⟨rfl, ⟨nd, rfl⟩⟩; (try first | exact ⟨rfl, _, World.drewN_drewN _ _ _⟩ | exact ⟨rfl, _, Eq.trans (World.drewN_drewN _ _ _) (congrArg (World.drewN _) (Nat.add_assoc _ _ _))⟩)))
            go_wp2
            go_roundg (l0.length - (i + 1))
            case measure => omega
            case rel => exact ⟨i + 1, n, by omega, by omega, rfl, by go_num, ⟨HE.out ▸ HN.out.1, by have := HN.out.2; omega⟩, by repeat (first | exact Drawn0.refl _ | apply Drawn0.step)⟩
          · rw [decide_eq_false e] at hK
            have HK := Aside0.mk hK
            rw [if_neg e] at e0
            have HE := Aside0.mk e0
            clear hK e0 ex ey hl5 hC5 hl6 hC6 hxl e
            go_wp2
            go_quiet (first | (go_at_call 101; refine (slices_Equal_int_int.calls K A5 c5 x A6 c6 y false _ ?side1 HX5.out.1 ?side2 HX6.out.1 HK.out).mono ?_; (case side1 => repeat (first | exact HX5.out.2 | (with_reducible refine Kd.C_drewN ?_ _) | (with_reducible refine Kd.C_drew ?_))); (case side2 => repeat (first | exact HX6.out.2 | (with_reducible refine Kd.C_drewN ?_ _) | (with_reducible refine Kd.C_drew ?_))); rintro e w' ⟨rfl, ⟨nd, rfl⟩⟩; (try first | exact ⟨rfl, _, World.drewN_drewN _ _ _⟩ | exact ⟨rfl, _, Eq.trans (World.drewN_drewN _ _ _) (congrArg (World.drewN _) (Nat.add_assoc _ _ _))⟩)))
            go_wp2
            go_roundg (l0.length - (i + 1))
            case measure => omega
            case rel => exact ⟨i + 1, n + 1, by omega, by omega, by go_num, by go_num, ⟨by have := HN.out.1; rw [HE.out] at this; omega, by have := HN.out.2; omega⟩, by repeat (first | exact Drawn0.refl _ | apply Drawn0.step)⟩
        · have j1 : ((i : Int) < (l0.length : Int)) = False := eq_false (by omega)
          have j2 : (i < l0.length) = False := eq_false hlt
          have hx := HY.out.2.2
          have hn : n = unlikeN l0 l1 := by
            have := HN.out.1
            rw [List.drop_of_length_le (by omega), List.drop_of_length_le (by have := HY.out.1; omega)] at this
            exact this
          rw [← hn] at hx
          injection hx with e1 e2
          subst e1 e2
          clear hn hlt
          go_wp2
          go_ret2
          exact ⟨rfl, pw_below_drewN HB.out _⟩

set_option maxHeartbeats 8000000 in
set_option maxRecDepth 100000 in
theorem laws_FnExactDistanceOf_calls (A0 : Option Addr) (c0 : Nat) (l0 : List (List Int)) (A1 : Option Addr) (c1 : Nat) (l1 : List (List Int)) (w : World) (hr0 : Kd.C (Kd.slice 3 (Kd.int .i64)) w A0 l0.length l0) (hc0 : l0.length ≤ c0) (hw0 : ∀ r ∈ l0, ∀ x ∈ r, (Lit.int .i64 x).wf = true) (hr1 : Kd.C (Kd.slice 3 (Kd.int .i64)) w A1 l1.length l1) (hc1 : l1.length ≤ c1) (hw1 : ∀ r ∈ l1, ∀ x ∈ r, (Lit.int .i64 x).wf = true) :
    Calls Try.prog 9 #[.slice A0 l0.length c0, .slice A1 l1.length c1] w fun e w' => e = .returned (.bool true) ∧ Below w.heap.size w w' := by
  have HR0 := Aside0.mk hr0
  have HC0 := Aside0.mk hc0
  have HG0 := Aside0.mk hw0
  clear hr0 hc0 hw0
  have HR1 := Aside0.mk hr1
  have HC1 := Aside0.mk hc1
  have HG1 := Aside0.mk hw1
  clear hr1 hc1 hw1
  have ENV := Aside0.mk (Env.Env.start (e := 34) (t := 3) w)
  have HZ0 := Aside0.mk (show (0 : Int) ≤ (1048576 : Int) ∧ (1048576 : Int) ≤ 1048576 by decide)
  by_cases s0 : (1048576 : Int) < ((l0.length + tot l0 : Nat) : Int)
  · have HV0 := Aside0.mk (szV_big s0)
    clear s0
    go_enter Try.func9, Try.ntmps9
    go_wp2_with fail
    refine (sz_c A0 c0 l0 _ _ (ENV.out.came HR0.out) HC0.out HZ0.out.1 HZ0.out.2).mono ?_
    rintro e w1 ⟨he_, hb_⟩
    rw [HV0.out] at he_
    subst he_
    replace ENV := Aside0.mk (ENV.out.below hb_)
    clear hb_
    go_wp2
    go_ret
    exact ⟨rfl, ENV.out.1⟩
  obtain ⟨z0, hz0⟩ : ∃ z : Int, z = szV l0 (1048576 : Int) := ⟨_, rfl⟩
  have HV0 := Aside0.mk hz0.symm
  have hz0' := hz0
  rw [szV_ok s0] at hz0'
  have HN0 := Aside0.mk (show 0 ≤ z0 ∧ z0 ≤ (1048576 : Int) ∧ l0.length + tot l0 ≤ 1048576 by have := HZ0.out; omega)
  have q0 : decide (z0 < 0) = false := decide_eq_false (by have := HN0.out; omega)
  have HS0 := Aside0.mk (small_rows HN0.out.2.2)
  clear s0 hz0 hz0'
  have HZ1 := Aside0.mk (show (0 : Int) ≤ z0 ∧ z0 ≤ 1048576 by have := HN0.out; have := HZ0.out; omega)
  by_cases s1 : z0 < ((l1.length + tot l1 : Nat) : Int)
  · have HV1 := Aside0.mk (szV_big s1)
    clear s1
    go_enter Try.func9, Try.ntmps9
    go_wp2_with fail
    refine (sz_c A0 c0 l0 _ _ (ENV.out.came HR0.out) HC0.out HZ0.out.1 HZ0.out.2).mono ?_
    rintro e w1 ⟨he_, hb_⟩
    rw [HV0.out] at he_
    subst he_
    replace ENV := Aside0.mk (ENV.out.below hb_)
    clear hb_
    go_wp2_with fail
    refine (sz_c A1 c1 l1 _ _ (ENV.out.came HR1.out) HC1.out HZ1.out.1 HZ1.out.2).mono ?_
    rintro e w1 ⟨he_, hb_⟩
    rw [HV1.out] at he_
    subst he_
    replace ENV := Aside0.mk (ENV.out.below hb_)
    clear hb_
    go_wp2
    go_ret
    exact ⟨rfl, ENV.out.1⟩
  obtain ⟨z1, hz1⟩ : ∃ z : Int, z = szV l1 z0 := ⟨_, rfl⟩
  have HV1 := Aside0.mk hz1.symm
  have hz1' := hz1
  rw [szV_ok s1] at hz1'
  have HN1 := Aside0.mk (show 0 ≤ z1 ∧ z1 ≤ z0 ∧ l1.length + tot l1 ≤ 1048576 by have := HZ1.out; omega)
  have q1 : decide (z1 < 0) = false := decide_eq_false (by have := HN1.out; omega)
  have HS1 := Aside0.mk (small_rows HN1.out.2.2)
  clear s1 hz1 hz1'
  obtain ⟨K91, h91⟩ := (spec_DistanceOf_ev l0 l1 HS0.out.1 HS0.out.2.1 HS1.out.1 HS1.out.2.1).rounds
  have h92 := impl_DistanceOf_eq l0 l1 HS0.out.1 HS0.out.2.1 HS1.out.1
  generalize distV l0 l1 = g at h91 h92
  obtain ⟨r0, r1⟩ := g
  have cc91 := fun A0_ c0_ A1_ c1_ w_ h0_ b0_ h1_ b1_ => spec_DistanceOf.calls K91 A0_ c0_ l0 A1_ c1_ l1 r0 r1 w_ h0_ b0_ h1_ b1_ h91
  have cc92 := fun A0_ c0_ A1_ c1_ w_ h0_ b0_ h1_ b1_ => impl_DistanceOf.calls A0_ c0_ l0 A1_ c1_ l1 r0 r1 w_ h0_ b0_ h1_ b1_ h92
  have e0 : (r0 != r0) = false := by simp
  have e0b : (r0 == r0) = true := by simp
  have e1 : (r1 != r1) = false := by simp
  have e1b : (r1 == r1) = true := by simp
  clear h91 h92
  go_enter Try.func9, Try.ntmps9
  go_wp2_with fail
  refine (sz_c A0 c0 l0 _ _ (ENV.out.came HR0.out) HC0.out HZ0.out.1 HZ0.out.2).mono ?_
  rintro e wz0 ⟨he_, hb_⟩
  rw [HV0.out] at he_
  subst he_
  replace ENV := Aside0.mk (ENV.out.below hb_)
  clear hb_
  go_wp2_with fail
  refine (sz_c A1 c1 l1 _ _ (ENV.out.came HR1.out) HC1.out HZ1.out.1 HZ1.out.2).mono ?_
  rintro e wz1 ⟨he_, hb_⟩
  rw [HV1.out] at he_
  subst he_
  replace ENV := Aside0.mk (ENV.out.below hb_)
  clear hb_
  go_wp2_with fail
  refine (toSS_e ENV.out A0 c0 l0 HR0.out HC0.out HS0.out.1 HS0.out.2.1).mono ?_
  rintro e w1 ⟨B1, d1, rfl, hE_⟩
  replace ENV := Aside0.mk hE_
  clear hE_
  go_wp2_with fail
  refine (toSS_e ENV.out A1 c1 l1 HR1.out HC1.out HS1.out.1 HS1.out.2.1).mono ?_
  rintro e w2 ⟨B2, d2, rfl, hE_⟩
  replace ENV := Aside0.mk hE_
  clear hE_
  go_wp2_with fail
  refine (cc91 B1 d1 B2 d2 _ (ENV.out.C (A := B1) (n := l0.length) (c := d1) (by decide) 1 rfl) (ENV.out.cap (A := B1) (n := l0.length) (c := d1) (by decide) 1 rfl) (ENV.out.C (A := B2) (n := l1.length) (c := d2) (by decide) 0 rfl) (ENV.out.cap (A := B2) (n := l1.length) (c := d2) (by decide) 0 rfl)).mono ?_
  rintro e w3 ⟨rfl, hb_⟩
  replace ENV := Aside0.mk (ENV.out.below (by first | exact hb_ | exact hb_.below))
  clear hb_
  go_wp2_with fail
  refine (toSS_e ENV.out A0 c0 l0 HR0.out HC0.out HS0.out.1 HS0.out.2.1).mono ?_
  rintro e w4 ⟨B4, d4, rfl, hE_⟩
  replace ENV := Aside0.mk hE_
  clear hE_
  go_wp2_with fail
  refine (toSS_e ENV.out A1 c1 l1 HR1.out HC1.out HS1.out.1 HS1.out.2.1).mono ?_
  rintro e w5 ⟨B5, d5, rfl, hE_⟩
  replace ENV := Aside0.mk hE_
  clear hE_
  go_wp2_with fail
  refine (cc92 B4 d4 B5 d5 _ (ENV.out.C (A := B4) (n := l0.length) (c := d4) (by decide) 1 rfl) (ENV.out.cap (A := B4) (n := l0.length) (c := d4) (by decide) 1 rfl) (ENV.out.C (A := B5) (n := l1.length) (c := d5) (by decide) 0 rfl) (ENV.out.cap (A := B5) (n := l1.length) (c := d5) (by decide) 0 rfl)).mono ?_
  rintro e w6 ⟨rfl, hb_⟩
  replace ENV := Aside0.mk (ENV.out.below (by first | exact hb_ | exact hb_.below))
  clear hb_
  go_wp2_with fail
  refine (toSS_e ENV.out A0 c0 l0 HR0.out HC0.out HS0.out.1 HS0.out.2.1).mono ?_
  rintro e w7 ⟨B7, d7, rfl, hE_⟩
  replace ENV := Aside0.mk hE_
  clear hE_
  go_wp2_with fail
  refine (eqSS_e ENV.out 2 0 (A1 := B4) (A2 := B7) (c1 := d4) (c2 := d7) rfl rfl rfl rfl HS0.out.1 HS0.out.2.1).mono ?_
  rintro e w8 ⟨rfl, hE_⟩
  replace ENV := Aside0.mk hE_
  clear hE_
  go_wp2_with fail
  refine (toSS_e ENV.out A1 c1 l1 HR1.out HC1.out HS1.out.1 HS1.out.2.1).mono ?_
  rintro e w9 ⟨B9, d9, rfl, hE_⟩
  replace ENV := Aside0.mk hE_
  clear hE_
  go_wp2_with fail
  refine (eqSS_e ENV.out 2 0 (A1 := B5) (A2 := B9) (c1 := d5) (c2 := d9) rfl rfl rfl rfl HS1.out.1 HS1.out.2.1).mono ?_
  rintro e w10 ⟨rfl, hE_⟩
  replace ENV := Aside0.mk hE_
  clear hE_
  go_wp2
  go_ret
  exact ⟨rfl, ENV.out.1⟩

end Go.Proofs.Ytekadhniinpdfaa.Pure
