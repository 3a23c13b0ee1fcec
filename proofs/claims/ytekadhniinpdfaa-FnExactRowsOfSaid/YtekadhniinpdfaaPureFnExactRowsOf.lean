/- RowsOf answers as the reference's RowsOf does, turns nothing that it was handed, and answers in memory of its own: the walk of the law. No conditions beyond the row's own. -/
import Derived.Test.YtekadhniinpdfaaMFnExactRowsOfx3
import Derived.Test.YtekadhniinpdfaaMFnExactRowsOfx0
import Derived.Test.YtekadhniinpdfaaMFnExactRowsOfx1
import Derived.Test.YtekadhniinpdfaaMFnExactRowsOfx2
import Derived.Test.YtekadhniinpdfaaBit
import Derived.Test.YtekadhniinpdfaaPoly
import Derived.Test.YtekadhniinpdfaaMat
import Derived.Test.YtekadhniinpdfaaMx
import Derived.Test.YtekadhniinpdfaaEnv
set_option linter.unusedVariables false
set_option linter.unusedSimpArgs false
namespace Go.Proofs.Ytekadhniinpdfaa.Pure
open Go.RowKit Go.Proofs.Ytekadhniinpdfaa Go.Proofs.Ytekadhniinpdfaa.MFnExactRowsOf Go.Proofs.YtekadhniinpdfaaW.PrintWords Go.Proofs.YtekadhniinpdfaaW.PrintLast Go.Proofs.Ytekadhniinpdfaa.Bit

theorem impl_within_eq (a b c : Int) : impl_within.f a b c = some (decide (b ≤ a ∧ a ≤ c)) := by
  unfold impl_within.f
  by_cases h : a ≥ b
  · rw [if_pos h]; congr 1; simp [show b ≤ a from h]
  · rw [if_neg h]; congr 1; simp; omega

/-- Is a number an element? -/
def isB (a : Int) : Bool := decide (0 ≤ a ∧ a ≤ 255)
theorem isB_nat {a : Int} (h : isB a = true) : ∃ n : Nat, a = (n : Int) ∧ n < 256 := by
  simp only [isB, decide_eq_true_eq] at h
  exact ⟨a.toNat, by omega, by omega⟩
theorem isB_cast {n : Nat} (h : n < 256) : isB (n : Int) = true := by simp only [isB, decide_eq_true_eq]; omega

theorem impl_isGf_eq (a : Int) : impl_isGf.f a = some (isB a) := by
  unfold impl_isGf.f; rw [impl_within_eq]; rfl

theorem rd_nat (l : List Int) (i : Nat) (h : i < l.length) : rd l (i : Int) = l[i] := by
  unfold rd
  simp [List.getD_eq_getElem?_getD, List.getElem?_eq_getElem h]
theorem wrap_succ (i : Nat) (h : i < 9223372036854775807) : wrap64 ((i : Int) + 1) = ((i + 1 : Nat) : Int) := by rw [wrap_id (by omega) (by omega)]; omega

theorem laws_toIntS_l0 (l : List Int) (hl : l.length ≤ 1048576) : ∀ d i : Nat, i + d = l.length → Ev (fun k => laws_toIntS.l0 k l (l.take i ++ List.replicate d 0) (i : Int)) l := by
  intro d
  induction d with
  | zero =>
    intro i hi
    obtain rfl : i = l.length := by omega
    exact Ev.step (f := fun _ => some l) (fun k => by simp only [laws_toIntS.l0]; rw [if_neg (by omega)]; simp) (Ev.now _)
  | succ d ih =>
    intro i hi
    have hlt : i < l.length := by omega
    refine Ev.step (f := fun k => laws_toIntS.l0 k l (l.take (i + 1) ++ List.replicate d 0) ((i + 1 : Nat) : Int)) (fun k => ?_) (ih (i + 1) (by omega))
    have e : ((l.take i ++ List.replicate (d + 1) 0).set i l[i]) = l.take (i + 1) ++ List.replicate d 0 := by
      rw [List.set_append_right _ _ (by simp; omega)]
      simp only [List.length_take, Nat.min_eq_left (Nat.le_of_lt hlt), Nat.sub_self, List.replicate_succ, List.set_cons_zero]
      rw [List.take_succ_eq_append_getElem hlt, List.append_assoc]; rfl
    have z : (i : Int) < ((l.take i ++ List.replicate (d + 1) (0 : Int)).length : Int) := by simp only [List.length_append, List.length_take, List.length_replicate]; omega
    simp only [laws_toIntS.l0, rd_nat l i hlt, wrap_succ i (by omega), Int.toNat_natCast]
    rw [if_pos (by omega), if_pos (by omega), if_pos z, e]
theorem laws_toIntS_ev (l : List Int) (hl : l.length ≤ 1048576) : Ev (fun k => laws_toIntS.f k l) l := by
  unfold laws_toIntS.f
  have z1 : (0 : Int) ≤ (l.length : Int) := by omega
  have z2 : (l.length : Int).toNat ≤ 35184372088832 := by omega
  simp only [if_pos z1, if_pos z2]
  have := laws_toIntS_l0 l hl l.length 0 (by omega)
  simpa using this

theorem laws_eqIntS_l0 (l m : List Int) (hlm : l.length = m.length) (hl : l.length ≤ 140737488351232) : ∀ d i : Nat, i + d = l.length → Ev (fun k => laws_eqIntS.l0 k l m (i : Int)) (decide (l.drop i = m.drop i)) := by
  intro d
  induction d with
  | zero =>
    intro i hi
    obtain rfl : i = l.length := by omega
    have e : decide (l.drop l.length = m.drop l.length) = true := by
      have e2 : m.drop l.length = [] := by rw [hlm, List.drop_length]
      rw [e2, List.drop_length]; rfl
    rw [e]
    exact Ev.step (f := fun _ => some true) (fun k => by simp only [laws_eqIntS.l0]; rw [if_neg (by omega)]) (Ev.now _)
  | succ d ih =>
    intro i hi
    have hlt : i < l.length := by omega
    have hlt2 : i < m.length := by omega
    rw [List.drop_eq_getElem_cons hlt, List.drop_eq_getElem_cons hlt2]
    by_cases e : l[i] = m[i]
    · have : decide (l[i] :: l.drop (i + 1) = m[i] :: m.drop (i + 1)) = decide (l.drop (i + 1) = m.drop (i + 1)) := by simp only [List.cons.injEq, e, true_and]
      rw [this]
      refine Ev.step (f := fun k => laws_eqIntS.l0 k l m ((i + 1 : Nat) : Int)) (fun k => ?_) (ih (i + 1) (by omega))
      simp only [laws_eqIntS.l0, rd_nat l i hlt, rd_nat m i hlt2, wrap_succ i (by omega)]
      rw [if_pos (by omega), if_pos (by omega), if_pos (by omega), if_pos e]
    · have : decide (l[i] :: l.drop (i + 1) = m[i] :: m.drop (i + 1)) = false := by simp only [List.cons.injEq, e, false_and, decide_false]
      rw [this]
      refine Ev.step (f := fun k => some false) (fun k => ?_) (Ev.now _)
      simp only [laws_eqIntS.l0, rd_nat l i hlt, rd_nat m i hlt2, wrap_succ i (by omega)]
      rw [if_pos (by omega), if_pos (by omega), if_pos (by omega), if_neg e]
theorem laws_eqIntS_ev (l m : List Int) (hl : l.length ≤ 140737488351232) : Ev (fun k => laws_eqIntS.f k l m) (decide (l = m)) := by
  unfold laws_eqIntS.f
  by_cases h : l.length = m.length
  · simp only [if_pos (show (l.length : Int) = (m.length : Int) by omega)]
    exact laws_eqIntS_l0 l m h hl l.length 0 (by omega)
  · simp only [if_neg (show ¬ (l.length : Int) = (m.length : Int) by omega)]
    have : decide (l = m) = false := by simp only [decide_eq_false_iff_not]; rintro rfl; exact h rfl
    rw [this]
    exact Ev.now _

/-- The numbers m, m + 1, .., n of them. -/
def marks (m n : Nat) : List Int := (List.range n).map fun j => ((m + j : Nat) : Int)
theorem marks_length (m n : Nat) : (marks m n).length = n := by simp [marks]
theorem marks_succ (m n : Nat) : marks m (n + 1) = marks m n ++ [((m + n : Nat) : Int)] := by simp [marks, List.range_succ]
theorem marks_get (m n i : Nat) (h : i < (marks m n).length) : (marks m n)[i] = ((m + i : Nat) : Int) := by simp [marks]

theorem laws_markIntS_l0 (l : List Int) (m : Nat) (hl : l.length ≤ 1048576) (hm : m ≤ 1000000000) : ∀ d i : Nat, i + d = l.length → Ev (fun k => laws_markIntS.l0 k (marks m i ++ l.drop i) ((m + i : Nat) : Int) (i : Int)) (((m + l.length : Nat) : Int), marks m l.length) := by
  intro d
  induction d with
  | zero =>
    intro i hi
    obtain rfl : i = l.length := by omega
    refine Ev.step (f := fun _ => some (((m + l.length : Nat) : Int), marks m l.length)) (fun k => ?_) (Ev.now _)
    simp only [laws_markIntS.l0, List.drop_length, List.append_nil, marks_length]
    rw [if_neg (by omega)]
  | succ d ih =>
    intro i hi
    have hlt : i < l.length := by omega
    refine Ev.step (f := fun k => laws_markIntS.l0 k (marks m (i + 1) ++ l.drop (i + 1)) ((m + (i + 1) : Nat) : Int) ((i + 1 : Nat) : Int)) (fun k => ?_) (ih (i + 1) (by omega))
    have e : (marks m i ++ l.drop i).set i ((m + i : Nat) : Int) = marks m (i + 1) ++ l.drop (i + 1) := by
      rw [List.set_append_right _ _ (by rw [marks_length]; omega), marks_length, Nat.sub_self, List.drop_eq_getElem_cons hlt, List.set_cons_zero, marks_succ, List.append_assoc]
      rfl
    have hlen : (marks m i ++ l.drop i).length = l.length := by rw [List.length_append, marks_length, List.length_drop]; omega
    have e2 : wrap64 (((m + i : Nat) : Int) + 1) = ((m + (i + 1) : Nat) : Int) := by rw [wrap_id (by omega) (by omega)]; omega
    simp only [laws_markIntS.l0, hlen, Int.toNat_natCast, e, e2, wrap_succ i (by omega)]
    rw [if_pos (by omega), if_pos (by omega)]
theorem laws_markIntS_ev (l : List Int) (m : Nat) (hl : l.length ≤ 1048576) (hm : m ≤ 1000000000) : Ev (fun k => laws_markIntS.f k l (m : Int)) (((m + l.length : Nat) : Int), marks m l.length) := by
  have := laws_markIntS_l0 l m hl hm l.length 0 (by omega)
  simp only [marks, List.range_zero, List.map_nil, List.nil_append, List.drop_zero, Nat.add_zero] at this
  exact this

theorem nat_nn (n : Nat) : ((n : Int) < 0) = False := by simp
theorem one_nat : (1 : Int) = ((1 : Nat) : Int) := rfl
theorem one_nn (n : Nat) : (((n : Nat) : Int) = ((n : Nat) : Int)) = True := by simp

theorem laws_szIntS_eq (l : List Int) (a : Int) (h0 : 0 ≤ a) (h1 : a ≤ 1048576) (hl : l.length ≤ 9223372036854775807) : laws_szIntS.f l a = some (if a - l.length < 0 then -1 else a - l.length) := by
  unfold laws_szIntS.f
  rw [wrap_id (by omega) (by omega)]
  split <;> rfl

/-- All places numbered from a on. -/
def marksS : Nat → List (List Int) → List (List Int)
  | _, [] => []
  | a, r :: m => marks a r.length :: marksS (a + r.length) m
def tot : List (List Int) → Nat
  | [] => 0
  | r :: m => r.length + tot m
theorem marksS_length : ∀ (a : Nat) (m : List (List Int)), (marksS a m).length = m.length
  | _, [] => rfl
  | a, r :: m => by simp only [marksS, List.length_cons, marksS_length]
theorem tot_append : ∀ (l m : List (List Int)), tot (l ++ m) = tot l + tot m
  | [], m => by simp [tot]
  | r :: l, m => by simp only [List.cons_append, tot, tot_append l m]; omega
theorem tot_take (m : List (List Int)) (i : Nat) : tot (m.take i) ≤ tot m := by
  have := tot_append (m.take i) (m.drop i)
  rw [List.take_append_drop] at this; omega
theorem tot_succ (m : List (List Int)) (i : Nat) (h : i < m.length) : tot (m.take (i + 1)) = tot (m.take i) + m[i].length := by
  rw [List.take_succ_eq_append_getElem h, tot_append]
  simp [tot]
theorem marksS_append : ∀ (a : Nat) (l m : List (List Int)), marksS a (l ++ m) = marksS a l ++ marksS (a + tot l) m
  | a, [], m => by simp [marksS, tot]
  | a, r :: l, m => by simp only [List.cons_append, marksS, tot, marksS_append (a + r.length) l m, Nat.add_assoc]
theorem tot_marksS : ∀ (a : Nat) (m : List (List Int)), tot (marksS a m) = tot m
  | _, [] => rfl
  | a, r :: m => by simp only [marksS, tot, marks_length, tot_marksS]
theorem tot_le : ∀ {m : List (List Int)} {b : Nat}, (∀ r ∈ m, r.length ≤ b) → tot m ≤ m.length * b
  | [], _, _ => by simp [tot]
  | r :: m, b, h => by
    have h1 := h r List.mem_cons_self
    have h2 := tot_le (m := m) (fun x hx => h x (List.mem_cons_of_mem _ hx))
    simp only [tot, List.length_cons, Nat.succ_mul]; omega
theorem marksS_get : ∀ (a : Nat) (m : List (List Int)) (i : Nat) (h : i < m.length) (h' : i < (marksS a m).length), (marksS a m)[i] = marks (a + tot (m.take i)) m[i].length
  | a, r :: m, 0, _, _ => by simp [marksS, tot]
  | a, r :: m, i + 1, h, h' => by
    simp only [marksS, List.getElem_cons_succ, List.take_succ_cons, tot]
    rw [marksS_get (a + r.length) m i (by simpa using h)]
    rw [Nat.add_assoc]

theorem rdL_nat (l : List (List Int)) (i : Nat) (h : i < l.length) : rd_L1 l (i : Int) = l[i] := by
  unfold rd_L1
  simp [List.getD_eq_getElem?_getD, List.getElem?_eq_getElem h]

/-- What is left of a measure. -/
def szV (m : List (List Int)) (a : Int) : Int := if a - (m.length + tot m : Nat) < 0 then -1 else a - (m.length + tot m : Nat)
theorem laws_szIntSS_l0 (m : List (List Int)) (hm : m.length ≤ 9223372036854775807) (hr : ∀ r ∈ m, r.length ≤ 9223372036854775807) : ∀ (d i : Nat) (a : Int), i + d = m.length → 0 ≤ a → a ≤ 1048576 →
    Ev (fun k => laws_szIntSS.l0 k m a (i : Int)) (if a - (tot (m.drop i) : Nat) < 0 then -1 else a - (tot (m.drop i) : Nat)) := by
  intro d
  induction d with
  | zero =>
    intro i a hi h0 h1
    obtain rfl : i = m.length := by omega
    rw [List.drop_length, show tot [] = 0 from rfl, if_neg (by omega), show a - ((0 : Nat) : Int) = a by omega]
    exact Ev.step (f := fun _ => some a) (fun k => by rw [laws_szIntSS.l0.eq_2, if_neg (by omega)]) (Ev.now _)
  | succ d ih =>
    intro i a hi h0 h1
    have hlt : i < m.length := by omega
    have hx := hr _ (List.getElem_mem hlt)
    have et : tot (m.drop i) = m[i].length + tot (m.drop (i + 1)) := by rw [List.drop_eq_getElem_cons hlt]; rfl
    rw [et]
    by_cases hn : a - (m[i].length : Int) < 0
    · rw [if_pos (by omega)]
      refine Ev.step (f := fun _ => some (-1)) (fun k => ?_) (Ev.now _)
      rw [laws_szIntSS.l0.eq_2, if_pos (by omega), if_pos (by omega), rdL_nat m i hlt, laws_szIntS_eq _ a h0 h1 hx, if_pos hn, Option.bind_some, if_pos (by omega)]
    · have e := ih (i + 1) (a - (m[i].length : Int)) (by omega) (by omega) (by omega)
      rw [show a - (m[i].length : Int) - ((tot (m.drop (i + 1)) : Nat) : Int) = a - ((m[i].length + tot (m.drop (i + 1)) : Nat) : Int) by omega] at e
      refine Ev.step (f := fun k => laws_szIntSS.l0 k m (a - (m[i].length : Int)) ((i + 1 : Nat) : Int)) (fun k => ?_) e
      rw [laws_szIntSS.l0.eq_2, if_pos (by omega), if_pos (by omega), rdL_nat m i hlt, laws_szIntS_eq _ a h0 h1 hx, if_neg hn, Option.bind_some, if_neg hn, wrap_succ i (by omega)]
theorem laws_szIntSS_ev (m : List (List Int)) (hm : m.length ≤ 9223372036854775807) (hr : ∀ r ∈ m, r.length ≤ 9223372036854775807) (a : Int) (h0 : 0 ≤ a) (h1 : a ≤ 1048576) : Ev (fun k => laws_szIntSS.f k m a) (szV m a) := by
  unfold laws_szIntSS.f szV
  rw [wrap_id (by omega) (by omega)]
  by_cases hn : a - (m.length : Int) < 0
  · simp only [if_pos hn, if_pos (show a - ((m.length + tot m : Nat) : Int) < 0 by omega)]
    exact Ev.now _
  · simp only [if_neg hn]
    have := laws_szIntSS_l0 m hm hr m.length 0 (a - m.length) (by omega) (by omega) (by omega)
    rw [List.drop_zero, show a - (m.length : Int) - ((tot m : Nat) : Int) = a - ((m.length + tot m : Nat) : Int) by omega] at this
    exact this

theorem laws_eqIntSS_l0 (l m : List (List Int)) (hlm : l.length = m.length) (hl : l.length ≤ 140737488351232) (hr : ∀ r ∈ l, r.length ≤ 140737488351232) : ∀ d i : Nat, i + d = l.length → Ev (fun k => laws_eqIntSS.l0 k l m (i : Int)) (decide (l.drop i = m.drop i)) := by
  intro d
  induction d with
  | zero =>
    intro i hi
    obtain rfl : i = l.length := by omega
    have e : decide (l.drop l.length = m.drop l.length) = true := by
      have e2 : m.drop l.length = [] := by rw [hlm, List.drop_length]
      rw [e2, List.drop_length]; rfl
    rw [e]
    exact Ev.step (f := fun _ => some true) (fun k => by rw [laws_eqIntSS.l0.eq_2, if_neg (by omega)]) (Ev.now _)
  | succ d ih =>
    intro i hi
    have hlt : i < l.length := by omega
    have hlt2 : i < m.length := by omega
    rw [List.drop_eq_getElem_cons hlt, List.drop_eq_getElem_cons hlt2]
    have E := laws_eqIntS_ev l[i] m[i] (hr _ (List.getElem_mem hlt))
    refine Ev.step (f := fun k => (laws_eqIntS.f k l[i] m[i]).bind fun t => if t = true then laws_eqIntSS.l0 k l m ((i + 1 : Nat) : Int) else some false) (fun k => ?_) (Ev.bind (f := fun k t => if t = true then laws_eqIntSS.l0 k l m ((i + 1 : Nat) : Int) else some false) E ?_)
    · rw [laws_eqIntSS.l0.eq_2, if_pos (by omega), if_pos (by omega), if_pos (by omega), rdL_nat l i hlt, rdL_nat m i hlt2, wrap_succ i (by omega)]
    · by_cases e : l[i] = m[i]
      · have e2 : decide (l[i] :: l.drop (i + 1) = m[i] :: m.drop (i + 1)) = decide (l.drop (i + 1) = m.drop (i + 1)) := by simp only [List.cons.injEq, e, true_and]
        rw [e2, decide_eq_true e]
        simp only [if_true]
        exact ih (i + 1) (by omega)
      · have e2 : decide (l[i] :: l.drop (i + 1) = m[i] :: m.drop (i + 1)) = false := by simp only [List.cons.injEq, e, false_and, decide_false]
        rw [e2, decide_eq_false e]
        simp only [Bool.false_eq_true, if_false]
        exact Ev.now _
theorem laws_eqIntSS_ev (l m : List (List Int)) (hl : l.length ≤ 140737488351232) (hr : ∀ r ∈ l, r.length ≤ 140737488351232) : Ev (fun k => laws_eqIntSS.f k l m) (decide (l = m)) := by
  unfold laws_eqIntSS.f
  by_cases h : l.length = m.length
  · simp only [if_pos (show (l.length : Int) = (m.length : Int) by omega)]
    exact laws_eqIntSS_l0 l m h hl hr l.length 0 (by omega)
  · simp only [if_neg (show ¬ (l.length : Int) = (m.length : Int) by omega)]
    have : decide (l = m) = false := by simp only [decide_eq_false_iff_not]; rintro rfl; exact h rfl
    rw [this]
    exact Ev.now _
theorem laws_eqIntSS_same (l : List (List Int)) (hl : l.length ≤ 1048576) (hr : ∀ r ∈ l, r.length ≤ 1048576) : ∃ K, laws_eqIntSS.f K l l = some true := by
  have := laws_eqIntSS_ev l l (by omega) (fun r h => by have := hr r h; omega)
  rw [decide_eq_true rfl] at this
  exact this.rounds

theorem spec_l1In_eq (a b c : Int) : spec_l1In.f a b c = some (decide (b ≤ a ∧ a ≤ c)) := by
  unfold spec_l1In.f
  by_cases h : a ≥ b
  · rw [if_pos h]; congr 1; simp [show b ≤ a from h]
  · rw [if_neg h]; congr 1; simp; omega

theorem spec_l1Gf_eq (a : Int) : spec_l1Gf.f a = some (isB a) := by
  unfold spec_l1Gf.f; rw [spec_l1In_eq]; rfl

theorem rd_get (l : List Int) (i : Nat) (h : i < l.length) : rd l (i : Int) = l[i] := by
  unfold rd
  simp [List.getD_eq_getElem?_getD, List.getElem?_eq_getElem h]
theorem wrap_up (i : Nat) (h : i < 9223372036854775807) : wrap64 ((i : Int) + 1) = ((i + 1 : Nat) : Int) := by rw [wrap_id (by omega) (by omega)]; omega
theorem wrap_down (a : Nat) (h : a ≤ 9223372036854775807) : wrap64 ((a : Int) - 1) = (a : Int) - 1 := wrap_id (by omega) (by omega)
theorem allB_up {l : List Int} (h : l.all isB = true) : ∃ m : List Nat, l = Poly.up m ∧ Poly.AllB m := by
  refine Poly.up_of fun x hx => ?_
  have := List.all_eq_true.1 h x hx
  simpa [isB] using this
theorem up_allB {m : List Nat} (h : Poly.AllB m) : (Poly.up m).all isB = true := by
  rw [List.all_eq_true]
  intro x hx
  have := Poly.up_bytes h x hx
  simp only [isB, decide_eq_true_eq]; omega

theorem spec_l1All_l0 (l : List Int) (hl : l.length ≤ 140737488351232) : ∀ d i : Nat, i + d = l.length → Ev (fun k => spec_l1All.l0 k l (l.length : Int) (i : Int)) ((l.drop i).all isB) := by
  intro d
  induction d with
  | zero =>
    intro i hi
    obtain rfl : i = l.length := by omega
    rw [List.drop_length]
    exact Ev.step (f := fun _ => some true) (fun k => by simp only [spec_l1All.l0]; rw [if_neg (by omega)]) (Ev.now _)
  | succ d ih =>
    intro i hi
    have hlt : i < l.length := by omega
    rw [List.drop_eq_getElem_cons hlt, List.all_cons]
    cases hb : isB l[i] with
    | true =>
      refine Ev.step (f := fun k => spec_l1All.l0 k l (l.length : Int) ((i + 1 : Nat) : Int)) (fun k => ?_) (ih (i + 1) (by omega))
      simp only [spec_l1All.l0, rd_get l i hlt, wrap_up i (by omega), spec_l1Gf_eq, hb, Option.bind_some, if_true]
      rw [if_pos (by omega), if_pos (by omega), if_pos (by omega)]
    | false =>
      refine Ev.step (f := fun _ => some false) (fun k => ?_) (Ev.now _)
      simp only [spec_l1All.l0, rd_get l i hlt, wrap_up i (by omega), spec_l1Gf_eq, hb, Option.bind_some]
      rw [if_pos (by omega), if_pos (by omega), if_pos (by omega)]; rfl
theorem spec_l1All_ev (l : List Int) (hl : l.length ≤ 140737488351232) : Ev (fun k => spec_l1All.f k l) (l.all isB) := spec_l1All_l0 l hl l.length 0 (by omega)

theorem xor_up {a b : Nat} (ha : a < 256) (hb : b < 256) : Go.bits .xor .i64 (a : Int) (b : Int) = ((a ^^^ b : Nat) : Int) := xor_nat (by omega) (by omega)
theorem wrap_nat (n : Nat) (h : n ≤ 9223372036854775807) : wrap64 (n : Int) = (n : Int) := wrap_id (by omega) (by omega)
theorem wrap_add (a b : Nat) (h : a + b ≤ 9223372036854775807) : wrap64 ((a : Int) + (b : Int)) = ((a + b : Nat) : Int) := by rw [wrap_id (by omega) (by omega)]; omega
theorem wrap_pred (a : Nat) (h : a ≤ 9223372036854775807) (h0 : 0 < a) : wrap64 ((a : Int) - 1) = ((a - 1 : Nat) : Int) := by rw [wrap_id (by omega) (by omega)]; omega

/-- Lists of rows of natural numbers as Go's. -/
def upM (m : List (List Nat)) : List (List Int) := m.map Poly.up
def dnM (m : List (List Int)) : List (List Nat) := m.map fun r => r.map Int.toNat
theorem upM_length (m : List (List Nat)) : (upM m).length = m.length := by simp [upM]
theorem upM_snoc (m : List (List Nat)) (r : List Nat) : upM m ++ [Poly.up r] = upM (m ++ [r]) := by simp [upM]
theorem upM_append (l m : List (List Nat)) : upM l ++ upM m = upM (l ++ m) := by simp [upM]
theorem upM_set (m : List (List Nat)) (i : Nat) (r : List Nat) : (upM m).set i (Poly.up r) = upM (m.set i r) := by simp [upM, List.map_set]
theorem upM_nil : ([] : List (List Int)) = upM [] := rfl
theorem upM_getD (m : List (List Nat)) (i : Nat) : (upM m).getD i [] = Poly.up (m.getD i []) := by
  unfold upM
  rw [List.getD_eq_getElem?_getD, List.getElem?_map, List.getD_eq_getElem?_getD]
  cases m[i]? <;> rfl
theorem rdL_up (m : List (List Nat)) (i : Nat) : rd_L1 (upM m) (i : Int) = Poly.up (m.getD i []) := by
  unfold rd_L1
  rw [Int.toNat_natCast]
  exact upM_getD m i
theorem rdL_up0 (m : List (List Nat)) : rd_L1 (upM m) 0 = Poly.up (m.getD 0 []) := rdL_up m 0
theorem dn_up (l : List Nat) : (Poly.up l).map Int.toNat = l := by
  unfold Poly.up
  rw [List.map_map]
  exact (List.map_congr_left (fun x _ => Int.toNat_natCast x)).trans (List.map_id' l)
theorem dnM_upM (m : List (List Nat)) : dnM (upM m) = m := by
  unfold dnM upM
  rw [List.map_map]
  exact (List.map_congr_left (fun x _ => dn_up x)).trans (List.map_id' m)
theorem upM_inj {l m : List (List Nat)} (h : upM l = upM m) : l = m := by rw [← dnM_upM l, h, dnM_upM]
/-- Rows of c elements. -/
def areR (c : Nat) (m : List (List Int)) : Bool := m.all fun r => decide (r.length = c) && r.all isB
theorem areR_up {c : Nat} : ∀ {m : List (List Int)}, areR c m = true → ∃ n, m = upM n ∧ Mat.MB' c n
  | [], _ => ⟨[], rfl, fun r hr => by cases hr⟩
  | r :: m, h => by
    simp only [areR, List.all_cons, Bool.and_eq_true, decide_eq_true_eq] at h
    obtain ⟨n, rfl, hn⟩ := areR_up (m := m) (by simpa [areR] using h.2)
    obtain ⟨q, rfl, hq⟩ := allB_up h.1.2
    refine ⟨q :: n, rfl, fun x hx => ?_⟩
    rcases List.mem_cons.1 hx with rfl | hx
    · exact ⟨by simpa [Poly.up_length] using h.1.1, hq⟩
    · exact hn x hx
theorem up_areR {c : Nat} {n : List (List Nat)} (h : Mat.MB' c n) : areR c (upM n) = true := by
  unfold areR upM
  rw [List.all_eq_true]
  intro x hx
  obtain ⟨r, hr, rfl⟩ := List.mem_map.1 hx
  rw [Bool.and_eq_true, decide_eq_true_eq, Poly.up_length]
  exact ⟨(h r hr).1, up_allB (h r hr).2⟩
def goodM (m : List (List Int)) : Bool := decide (1 ≤ m.length ∧ m.length ≤ 8) && (decide (1 ≤ (m.getD 0 []).length ∧ (m.getD 0 []).length ≤ 8) && areR (m.getD 0 []).length m)
theorem goodM_up {m : List (List Int)} (h : goodM m = true) : ∃ c n, m = upM n ∧ Mat.MB' c n ∧ (m.getD 0 []).length = c ∧ m.length = n.length ∧ 1 ≤ n.length ∧ n.length ≤ 8 ∧ 1 ≤ c ∧ c ≤ 8 := by
  simp only [goodM, Bool.and_eq_true, decide_eq_true_eq] at h
  obtain ⟨n, hn, hB⟩ := areR_up h.2.2
  exact ⟨_, n, hn, hB, rfl, by rw [hn, upM_length], by rw [← upM_length, ← hn]; exact h.1.1, by rw [← upM_length, ← hn]; exact h.1.2, h.2.1.1, h.2.1.2⟩
theorem up_goodM {c : Nat} {n : List (List Nat)} (h : Mat.MB' c n) (h1 : 1 ≤ n.length) (h2 : n.length ≤ 8) (h3 : 1 ≤ c) (h4 : c ≤ 8) : goodM (upM n) = true := by
  have e : ((upM n).getD 0 []).length = c := by rw [upM_getD, Poly.up_length]; exact (h.get (by omega)).1
  unfold goodM
  rw [e, up_areR h, upM_length, decide_eq_true (by omega), decide_eq_true (by omega)]; rfl
theorem goodM_rows {m : List (List Int)} (h : goodM m = true) : m.length ≤ 8 ∧ ∀ r ∈ m, r.length ≤ 8 := by
  obtain ⟨c, n, rfl, hB, _, _, _, h2, _, h4⟩ := goodM_up h
  refine ⟨by rw [upM_length]; exact h2, fun r hr => ?_⟩
  obtain ⟨q, hq, rfl⟩ := List.mem_map.1 hr
  rw [Poly.up_length, (hB q hq).1]; exact h4
theorem upM_small {c k : Nat} {n : List (List Nat)} (h : Mat.MB' c n) (hl : n.length ≤ k) (hc : c ≤ k) : (upM n).length ≤ k ∧ ∀ r ∈ upM n, r.length ≤ k := by
  refine ⟨by rw [upM_length]; exact hl, fun r hr => ?_⟩
  obtain ⟨q, hq, rfl⟩ := List.mem_map.1 hr
  rw [Poly.up_length, (h q hq).1]; exact hc

theorem spec_GoodMatrix_l0 (m : List (List Int)) (hl : m.length ≤ 140737488351232) (hr : ∀ r ∈ m, r.length ≤ 140737488351232) : ∀ d i : Nat, i + d = m.length →
    Ev (fun k => spec_GoodMatrix.l0 k m m (m.length : Int) (i : Int)) (decide (1 ≤ m.length ∧ m.length ≤ 8) && (decide (1 ≤ (m.getD 0 []).length ∧ (m.getD 0 []).length ≤ 8) && areR (m.getD 0 []).length (m.drop i))) := by
  intro d
  induction d with
  | zero =>
    intro i hi
    obtain rfl : i = m.length := by omega
    have e0 : areR (m.getD 0 []).length (m.drop m.length) = true := by rw [List.drop_length]; rfl
    rw [e0, Bool.and_true]
    have hz : rd_L1 m 0 = m.getD 0 [] := rfl
    by_cases h1 : 1 ≤ m.length ∧ m.length ≤ 8
    · refine Ev.step (f := fun _ => some (decide (1 ≤ m.length ∧ m.length ≤ 8) && decide (1 ≤ (m.getD 0 []).length ∧ (m.getD 0 []).length ≤ 8))) (fun k => ?_) (Ev.now _)
      rw [spec_GoodMatrix.l0.eq_2, if_neg (by omega), spec_l1In_eq, Option.bind_some, decide_eq_true (by omega), if_pos rfl, if_pos (by omega), spec_l1In_eq, hz, decide_eq_true h1, Bool.true_and]
      exact congrArg some (decide_eq_decide.2 (by omega))
    · refine Ev.step (f := fun _ => some (decide (1 ≤ m.length ∧ m.length ≤ 8) && decide (1 ≤ (m.getD 0 []).length ∧ (m.getD 0 []).length ≤ 8))) (fun k => ?_) (Ev.now _)
      rw [spec_GoodMatrix.l0.eq_2, if_neg (by omega), spec_l1In_eq, Option.bind_some, decide_eq_false (by omega), if_neg (by decide), decide_eq_false h1, Bool.false_and]
  | succ d ih =>
    intro i hi
    have hlt : i < m.length := by omega
    have hz : rd_L1 m 0 = m.getD 0 [] := rfl
    have eR : areR (m.getD 0 []).length (m.drop i) = (decide (m[i].length = (m.getD 0 []).length) && m[i].all isB && areR (m.getD 0 []).length (m.drop (i + 1))) := by
      rw [List.drop_eq_getElem_cons hlt]; rfl
    rw [eR]
    have E := spec_l1All_ev m[i] (hr _ (List.getElem_mem hlt))
    by_cases h1 : m[i].length = (m.getD 0 []).length
    · refine Ev.step (f := fun k => (spec_l1All.f k m[i]).bind fun t => if t = true then spec_GoodMatrix.l0 k m m (m.length : Int) ((i + 1 : Nat) : Int) else some false) (fun k => ?_) (Ev.bind (f := fun k t => if t = true then spec_GoodMatrix.l0 k m m (m.length : Int) ((i + 1 : Nat) : Int) else some false) E ?_)
      · rw [spec_GoodMatrix.l0.eq_2, if_pos (by omega), if_pos (by omega), if_pos (by omega), if_pos (by omega), rdL_nat m i hlt, hz, if_pos (by omega), wrap_succ i (by omega)]
      · rw [decide_eq_true h1, Bool.true_and]
        cases m[i].all isB
        · rw [Bool.false_and, Bool.and_false, Bool.and_false]
          exact Ev.now _
        · rw [Bool.true_and]
          simp only [if_true]
          exact ih (i + 1) (by omega)
    · rw [decide_eq_false h1, Bool.false_and, Bool.false_and, Bool.and_false, Bool.and_false]
      refine Ev.step (f := fun _ => some false) (fun k => ?_) (Ev.now _)
      rw [spec_GoodMatrix.l0.eq_2, if_pos (by omega), if_pos (by omega), if_pos (by omega), if_pos (by omega), rdL_nat m i hlt, hz, if_neg (by omega)]
theorem spec_GoodMatrix_ev (m : List (List Int)) (hl : m.length ≤ 140737488351232) (hr : ∀ r ∈ m, r.length ≤ 140737488351232) : Ev (fun k => spec_GoodMatrix.f k m) (goodM m) := spec_GoodMatrix_l0 m hl hr m.length 0 (by omega)

def rowsIn (m : List (List Int)) (rows : List Int) : Bool := !rows.any fun i => !decide (0 ≤ i ∧ i < (m.length : Int))
def rowsL (m : List (List Int)) (rows : List Int) : List (List Int) := rows.map fun i => m.getD i.toNat []
def rowsV (m : List (List Int)) (rows : List Int) : List (List Int) × Bool := if goodM m && decide (1 ≤ rows.length ∧ rows.length ≤ 8) && rowsIn m rows then (rowsL m rows, true) else ([], false)
theorem rowsL_length (m : List (List Int)) (rows : List Int) : (rowsL m rows).length = rows.length := by simp [rowsL]
theorem getD_rows {m : List (List Int)} {k : Nat} (h : ∀ r ∈ m, r.length ≤ k) (i : Nat) : (m.getD i []).length ≤ k := by
  rw [List.getD_eq_getElem?_getD]
  cases hi : m[i]? with
  | none => simp
  | some r => exact h r (List.mem_of_getElem? hi)
theorem rowsV_small (m : List (List Int)) (rows : List Int) : (rowsV m rows).1.length ≤ 8 ∧ ∀ r ∈ (rowsV m rows).1, r.length ≤ 8 := by
  unfold rowsV
  split
  · rename_i h
    simp only [Bool.and_eq_true, decide_eq_true_eq] at h
    refine ⟨by rw [rowsL_length]; omega, fun r hr => ?_⟩
    obtain ⟨i, _, rfl⟩ := List.mem_map.1 hr
    exact getD_rows (goodM_rows h.1.1).2 _
  · exact ⟨by simp, fun r hr => by cases hr⟩
theorem rowsIn_at {m : List (List Int)} {rows : List Int} (h : rowsIn m rows = true) : ∀ i ∈ rows, 0 ≤ i ∧ i < (m.length : Int) := fun i hi => by
  simp only [rowsIn, Bool.not_eq_true', List.any_eq_false, Bool.not_eq_true', decide_eq_false_iff_not, Classical.not_not, Bool.not_eq_true] at h
  have := h i hi
  simpa using this

theorem spec_l2Rows_l0 (m : List (List Int)) (rows : List Int) (hm : m.length ≤ 1000) (hr : ∀ r ∈ m, r.length ≤ 1000) (hi : ∀ i ∈ rows, 0 ≤ i ∧ i < (m.length : Int)) (hrl : rows.length ≤ 1000) : ∀ (d i : Nat) (out : List (List Int)), i + d = rows.length → out.length = i →
    Ev (fun k => spec_l2Rows.l0 k m out rows (rows.length : Int) (i : Int)) (out ++ rowsL m (rows.drop i)) := by
  intro d
  induction d with
  | zero =>
    intro i out hid hol
    obtain rfl : i = rows.length := by omega
    rw [List.drop_length]
    exact Ev.step (f := fun _ => some (out ++ rowsL m [])) (fun k => by rw [spec_l2Rows.l0.eq_2, if_neg (by omega)]; simp [rowsL]) (Ev.now _)
  | succ d ih =>
    intro i out hid hol
    have hlt : i < rows.length := by omega
    have hx := hi _ (List.getElem_mem hlt)
    have hL : rd_L1 m rows[i] = m.getD rows[i].toNat [] := rfl
    have hLl := getD_rows hr rows[i].toNat
    have e1 : rowsL m (rows.drop i) = m.getD rows[i].toNat [] :: rowsL m (rows.drop (i + 1)) := by rw [List.drop_eq_getElem_cons hlt]; rfl
    rw [e1]
    have := ih (i + 1) (out ++ [m.getD rows[i].toNat []]) (by omega) (by simp [hol])
    rw [List.append_assoc] at this
    refine Ev.step (f := fun k => spec_l2Rows.l0 k m (out ++ [m.getD rows[i].toNat []]) rows (rows.length : Int) ((i + 1 : Nat) : Int)) (fun k => ?_) this
    rw [spec_l2Rows.l0.eq_2, if_pos (by omega), if_pos (by omega), if_pos (by omega), Option.bind_some, rd_get rows i hlt, if_pos hx.1, if_pos hx.2, hL, List.nil_append, if_pos (by simp only [List.length_nil]; omega), if_pos (by omega), wrap_succ i (by omega)]
theorem spec_l2Rows_ev (m : List (List Int)) (rows : List Int) (hm : m.length ≤ 1000) (hr : ∀ r ∈ m, r.length ≤ 1000) (hi : ∀ i ∈ rows, 0 ≤ i ∧ i < (m.length : Int)) (hrl : rows.length ≤ 1000) : Ev (fun k => spec_l2Rows.f k m rows) (rowsL m rows) :=
  spec_l2Rows_l0 m rows hm hr hi hrl rows.length 0 [] (by omega) rfl

theorem spec_RowsOf_l0 (m : List (List Int)) (rows : List Int) (hm : m.length ≤ 8) (hr : ∀ r ∈ m, r.length ≤ 8) (hrl : rows.length ≤ 8) : ∀ (d i : Nat), i + d = rows.length → (∀ j : Nat, (h : j < rows.length) → j < i → 0 ≤ rows[j] ∧ rows[j] < (m.length : Int)) →
    Ev (fun k => spec_RowsOf.l0 k m rows rows (rows.length : Int) (i : Int)) (if rowsIn m (rows.drop i) then (rowsL m rows, true) else ([], false)) := by
  intro d
  induction d with
  | zero =>
    intro i hid hdone
    obtain rfl : i = rows.length := by omega
    rw [List.drop_length, if_pos (by rfl)]
    have E := spec_l2Rows_ev m rows (by omega) (fun r h => by have := hr r h; omega) (fun x hx => by obtain ⟨j, hj, rfl⟩ := List.getElem_of_mem hx; exact hdone j hj hj) (by omega)
    refine Ev.step (f := fun k => (spec_l2Rows.f k m rows).bind fun t => some (t, true)) (fun k => ?_) (Ev.bind (f := fun _ t => some (t, true)) E (Ev.now _))
    rw [spec_RowsOf.l0.eq_2, if_neg (by omega)]
  | succ d ih =>
    intro i hid hdone
    have hlt : i < rows.length := by omega
    have e1 : rowsIn m (rows.drop i) = (decide (0 ≤ rows[i] ∧ rows[i] < (m.length : Int)) && rowsIn m (rows.drop (i + 1))) := by
      unfold rowsIn
      rw [List.drop_eq_getElem_cons hlt, List.any_cons, Bool.not_or, Bool.not_not]
    rw [e1]
    by_cases hx : 0 ≤ rows[i] ∧ rows[i] < (m.length : Int)
    · rw [decide_eq_true hx, Bool.true_and]
      refine Ev.step (f := fun k => spec_RowsOf.l0 k m rows rows (rows.length : Int) ((i + 1 : Nat) : Int)) (fun k => ?_) (ih (i + 1) (by omega) (fun j hj hji => by
        by_cases e : j = i
        · subst e; exact hx
        · exact hdone j hj (by omega)))
      rw [spec_RowsOf.l0.eq_2, if_pos (by omega), if_pos (by omega), if_pos (by omega), rd_get rows i hlt, if_neg (by omega), if_neg (by omega), wrap_succ i (by omega)]
    · rw [decide_eq_false hx, Bool.false_and, if_neg (by decide)]
      refine Ev.step (f := fun _ => some ([], false)) (fun k => ?_) (Ev.now _)
      rw [spec_RowsOf.l0.eq_2, if_pos (by omega), if_pos (by omega), if_pos (by omega), rd_get rows i hlt]
      by_cases h0 : rows[i] < 0
      · rw [if_pos h0]
      · rw [if_neg h0, if_pos (by omega)]
theorem spec_RowsOf_ev (m : List (List Int)) (rows : List Int) (ha : m.length ≤ 1048576) (har : ∀ r ∈ m, r.length ≤ 1048576) (hb : rows.length ≤ 1048576) : Ev (fun k => spec_RowsOf.f k m rows) (rowsV m rows) := by
  unfold spec_RowsOf.f rowsV
  refine Ev.bind (spec_GoodMatrix_ev m (by omega) (fun r h => by have := har r h; omega)) ?_
  cases g1 : goodM m
  · simp only [Bool.false_eq_true, if_false, Bool.false_and]
    exact Ev.step (f := fun _ => some ([], false)) (fun k => by rw [spec_RowsOf.j0.eq_2, if_pos rfl]) (Ev.now _)
  have hg := goodM_rows g1
  simp only [if_true, Bool.true_and, spec_l1In_eq, Option.bind_some]
  by_cases h1 : 1 ≤ rows.length ∧ rows.length ≤ 8
  · have e1 : decide (1 ≤ (rows.length : Int) ∧ (rows.length : Int) ≤ 8) = true := decide_eq_true (by omega)
    rw [decide_eq_true h1, Bool.true_and]
    simp only [e1]
    have E := spec_RowsOf_l0 m rows hg.1 hg.2 h1.2 rows.length 0 (by omega) (fun j hj h => by omega)
    rw [List.drop_zero] at E
    exact Ev.step (f := fun k => spec_RowsOf.l0 k m rows rows (rows.length : Int) ((0 : Nat) : Int)) (fun k => by rw [spec_RowsOf.j0.eq_2, if_neg (by decide)]; rfl) E
  · have e1 : decide (1 ≤ (rows.length : Int) ∧ (rows.length : Int) ≤ 8) = false := decide_eq_false (by omega)
    rw [decide_eq_false h1, Bool.false_and]
    simp only [e1]
    exact Ev.step (f := fun _ => some ([], false)) (fun k => by rw [spec_RowsOf.j0.eq_2, if_pos (by decide)]) (Ev.now _)

theorem impl_areGf_eq (l : List Int) : impl_areGf.f l = some (l.all isB) := by
  unfold impl_areGf.f
  have e : impl_areGf.bad = fun n => !isB n := by
    funext n
    simp only [impl_areGf.bad, isB]
  rw [e, List.all_eq_not_any_not]

theorem impl_GoodMatrix_eq (m : List (List Int)) : impl_GoodMatrix.f m = some (goodM m) := by
  unfold impl_GoodMatrix.f goodM areR
  have e : impl_areGf.bad = fun n => !isB n := by
    funext n
    simp only [impl_areGf.bad, isB]
  have e2 : impl_GoodMatrix.bad m = fun r => !(decide (r.length = (m.getD 0 []).length) && r.all isB) := by
    funext r
    unfold impl_GoodMatrix.bad
    rw [e, List.all_eq_not_any_not]
  rw [e2, List.all_eq_not_any_not]



theorem laws_heldIntS_l0 (m n : Nat) (h : m + n ≤ 2000000000) : ∀ d i : Nat, i + d = n → Ev (fun k => laws_heldIntS.l0 k (marks m n) ((m + i : Nat) : Int) (i : Int)) ((m + n : Nat) : Int) := by
  intro d
  induction d with
  | zero =>
    intro i hi
    obtain rfl : i = n := by omega
    refine Ev.step (f := fun _ => some ((m + i : Nat) : Int)) (fun k => ?_) (Ev.now _)
    simp only [laws_heldIntS.l0, marks_length]
    rw [if_neg (by omega)]
  | succ d ih =>
    intro i hi
    refine Ev.step (f := fun k => laws_heldIntS.l0 k (marks m n) ((m + (i + 1) : Nat) : Int) ((i + 1 : Nat) : Int)) (fun k => ?_) (ih (i + 1) (by omega))
    have hlt : i < (marks m n).length := by rw [marks_length]; omega
    have e2 : wrap64 (((m + i : Nat) : Int) + 1) = ((m + (i + 1) : Nat) : Int) := by rw [wrap_id (by omega) (by omega)]; omega
    simp only [laws_heldIntS.l0, rd_nat _ i hlt, marks_get, marks_length, e2, wrap_succ i (by omega)]
    rw [if_pos (by omega), if_pos (by omega)]
    simp
theorem laws_heldIntS_ev (m n : Nat) (h : m + n ≤ 2000000000) : Ev (fun k => laws_heldIntS.f k (marks m n) (m : Int)) ((m + n : Nat) : Int) := laws_heldIntS_l0 m n h n 0 (by omega)

theorem laws_heldIntSS_l0 (a : Nat) (m : List (List Int)) (h : a + tot m ≤ 2000000000) (hl : m.length ≤ 1048576) : ∀ d i : Nat, i + d = m.length → Ev (fun k => laws_heldIntSS.l0 k (marksS a m) ((a + tot (m.take i) : Nat) : Int) (i : Int)) ((a + tot m : Nat) : Int) := by
  intro d
  induction d with
  | zero =>
    intro i hi
    obtain rfl : i = m.length := by omega
    refine Ev.step (f := fun _ => some ((a + tot m : Nat) : Int)) (fun k => ?_) (Ev.now _)
    rw [laws_heldIntSS.l0.eq_2, marksS_length, if_neg (by omega), List.take_length]
  | succ d ih =>
    intro i hi
    have hlt : i < m.length := by omega
    have hlt2 : i < (marksS a m).length := by rw [marksS_length]; exact hlt
    have ht := tot_succ m i hlt
    have hb := tot_take m (i + 1)
    have E := laws_heldIntS_ev (a + tot (m.take i)) m[i].length (by omega)
    refine Ev.step (f := fun k => (laws_heldIntS.f k (marks (a + tot (m.take i)) m[i].length) ((a + tot (m.take i) : Nat) : Int)).bind fun t => if t < 0 then some (-1) else laws_heldIntSS.l0 k (marksS a m) t ((i + 1 : Nat) : Int)) (fun k => ?_)
      (Ev.bind (f := fun k t => if t < 0 then some (-1) else laws_heldIntSS.l0 k (marksS a m) t ((i + 1 : Nat) : Int)) E ?_)
    · rw [laws_heldIntSS.l0.eq_2, marksS_length, if_pos (by omega), if_pos (by omega), rdL_nat _ i hlt2, marksS_get a m i hlt, wrap_succ i (by omega)]
    · have e : a + tot (m.take i) + m[i].length = a + tot (m.take (i + 1)) := by omega
      simp only [e, if_neg (show ¬ ((a + tot (m.take (i + 1)) : Nat) : Int) < 0 by omega)]
      exact ih (i + 1) (by omega)
theorem laws_heldIntSS_ev (a : Nat) (m : List (List Int)) (h : a + tot m ≤ 2000000000) (hl : m.length ≤ 1048576) : ∃ K, laws_heldIntSS.f K (marksS a m) (a : Int) = some ((a + tot m : Nat) : Int) := by
  have := laws_heldIntSS_l0 a m h hl m.length 0 (by omega)
  exact this.rounds

theorem mk_rows {P : Program} (e : TypeId) (bytes : Nat) (t : TypeId) (ht : P.underlying t = some (.slice e)) (hinfo : (P.info? e).map (fun i => (i.zero, i.size, i.bytes)) = some (some (.slice none 0 0), 1, bytes)) (hb0 : 0 < bytes) (m : Nat) (hn : m * bytes ≤ 281474976710656) :
    ∀ W : World, (Instr.makeSlice t (.int .i64 (m : Int)) (.int .i64 (m : Int))).run P W = .ok (.slice (some ⟨W.heap.size, 0, none⟩) m m) (W.alloc (.cells (madeCells #[.slice none 0 0] m) e)) := by
  intro W
  have hm : m ≤ 281474976710656 := Nat.le_trans (Nat.le_mul_of_pos_right _ hb0) hn
  exact run_make_row' t e (.slice none 0 0) bytes ht hinfo rfl .i64 .i64 m (by rw [Nat.mul_comm]; exact hn) (by omega) W
/-- A row of m nils is made. -/
theorem mk_event {P : Program} {ops : Array Oper} {rest : List Oper} {o : Oper} {a : Act} {Q : Exit → Act → World → Prop} {W : World} (q : TypeId) (hgd : o.guard = none) {N : Tmp} (hd : o.dst = some N) (t e : TypeId) (x y : Operand) (ho : o.op = .makeSlice t x y) (m : Nat) (hx : a.eval x = .int .i64 (m : Int)) (hy : a.eval y = .int .i64 (m : Int)) (bytes : Nat)
    (ht : P.underlying t = some (.slice e)) (hinfo : (P.info? e).map (fun i => (i.zero, i.size, i.bytes)) = some (some (.slice none 0 0), 1, bytes)) (hb0 : 0 < bytes) (hn : m * bytes ≤ 281474976710656)
    (h : ∀ g w1, Mx.Mx e q w1 W.heap.size w1.heap.size (.slice (some ⟨g, 0, none⟩) m m) (List.replicate m []) (List.replicate m (.slice none 0 0)) → Below W.heap.size W w1 → wpList P ops Q rest (a.put o.dst (.slice (some ⟨g, 0, none⟩) m m)) w1) : wpList P ops Q (o :: rest) a W := by
  have hm : m ≤ 281474976710656 := Nat.le_trans (Nat.le_mul_of_pos_right _ hb0) hn
  have h1 : W.heap.size + 1 = (W.alloc (.cells (madeCells #[Value.slice none 0 0] m) e)).heap.size := by simp
  have hM := Mx.Mx.nils (e := e) (t := q) W W.heap.size m (Nat.le_refl _) (by omega)
  rw [h1] at hM
  exact Kd.event_run hgd (by simp [execOp, ho, hx, hy, mk_rows e bytes t ht hinfo hb0 m hn]) (h _ _ hM (below_alloc (Below.refl _ _) _))

theorem infoR : (Try.prog.info? 34).map (fun i => (i.zero, i.size, i.bytes)) = some (some (.slice none 0 0), 1, 24) := by kernel_rfl

set_option maxHeartbeats 4000000 in
set_option maxRecDepth 100000 in
/-- A copy of a list of rows, rows and all. -/
theorem toSS_calls (A : Option Addr) (c : Nat) (m : List (List Int)) (w : World) (hr0 : Kd.C (Kd.slice 3 (Kd.int .i64)) w A m.length m) (hc0 : m.length ≤ c) (hml : m.length ≤ 1048576) (hrow : ∀ r ∈ m, r.length ≤ 1048576) :
    Calls Try.prog 52 #[.slice A m.length c] w fun e w' => ∃ v vs, e = .returned v ∧ Mx.Mx 34 3 w' w.heap.size w'.heap.size v m vs ∧ Below w.heap.size w w' := by
  have HR := Aside0.mk hr0
  have HC := Aside0.mk hc0
  have HW := Aside0.mk hrow
  have HM := Aside0.mk hml
  clear hr0 hc0 hrow
  go_enter Try.func52, Try.ntmps52
  go_wp2_with (first | ((with_reducible refine gate_dst (N := 7) rfl ?_); refine mk_event 3 rfl rfl 63 34 _ _ rfl m.length rfl rfl 24 Try.underlying63 infoR (by decide) (by have := HM.out; omega) ?_; intro g w1 hM hb; have HX0 := Aside0.mk hM; have HB0 := Aside0.mk hb; clear hM hb))
  go_loopg [4] m.length (fun gg s4 wr => ∃ (i : Nat) (vs : List Value), i ≤ m.length ∧ m.length - i ≤ gg ∧ s4 = .int .i64 i ∧ Aside0 (Mx.Mx 34 3 wr w.heap.size wr.heap.size (.slice (some ⟨g, 0, none⟩) m.length m.length) (m.take i ++ List.replicate (m.length - i) []) vs) ∧ Aside0 (Below w.heap.size w wr))
  case atStart => exact ⟨0, _, Nat.zero_le _, by omega, rfl, ⟨by simpa using HX0.out⟩, HB0⟩
  case round =>
    clear HX0 HB0
    obtain ⟨i, vs, hi', hg, rfl, HX, HB⟩ := hrel
    by_cases hlt : i < m.length
    · have hM := HX.out
      have hlen : (m.take i ++ List.replicate (m.length - i) []).length = m.length := by rw [List.length_append, List.length_take, List.length_replicate]; omega
      obtain ⟨u, hu⟩ := hM.at_ (i := i) (by rw [hlen]; exact hlt)
      obtain ⟨g', cap, hv, hg0, hg1, _, _, hcell⟩ := hM.cells (by rw [hlen]; omega)
      have hc := (hcell i u hu).1
      have hf := (hcell i u hu).2
      clear hcell
      obtain ⟨ad, A1, c1, rfl, hx, hl1, hr1⟩ := Mx.rows_at HR.out i hlt hlt
      have hx' := pw_cell_below HB.out hx
      obtain ⟨K, hK⟩ := (laws_toIntS_ev m[i] (HW.out _ (List.getElem_mem hlt))).rounds
      have hcall := laws_toIntS.calls K A1 c1 m[i] m[i] wr (Kd.C_below hr1 HB.out) hl1 hK
      have hset : (m.take i ++ List.replicate (m.length - i) []).set i m[i] = m.take (i + 1) ++ List.replicate (m.length - (i + 1)) [] := by
        rw [List.set_append_right _ _ (by rw [List.length_take]; omega), List.length_take, Nat.min_eq_left hi', Nat.sub_self, show m.length - i = (m.length - (i + 1)) + 1 by omega, List.replicate_succ, List.set_cons_zero, List.take_succ_eq_append_getElem hlt, List.append_assoc]
        rfl
      have HU := Aside0.mk hu
      have HC2 := Aside0.mk hc
      have HF2 := Aside0.mk hf
      have HS := Aside0.mk hset
      have HL := Aside0.mk hlen
      clear hM hlen hu hset hx hc hf hr1 hK
      injection hv with hv1 hv2 hv3
      injection hv1 with hv1
      injection hv1 with hv1 _ _
      subst hv1
      clear hv2 hv3
      go_wp2_with (first
        | (go_at_call 23; refine hcall.mono ?_; rintro e w1 ⟨v1, rfl, hR1, hb1⟩; obtain ⟨A9, c9, rfl⟩ := Kd.R_slice hR1; have hc2 := pw_cell_below hb1 HC2.out; have hf2 := (hb1.frozen (World.block_lt_of_cell? _ _ HC2.out)).trans HF2.out; have HB1 := Aside0.mk hb1; have HR1 := Aside0.mk hR1; clear hb1 hR1)
        | ((with_reducible refine gate_store (t := 34) (p := 21) rfl ?_); refine store_event (t := 34) (p := 21) (v := ?vo) (w1 := (w1.setCell ⟨g, i, none⟩ (.slice A9 m[i].length c9))) ?hg ?ho ?hn ?hr ?_; (case ho => rfl); (case hg => rfl); (case hn => rfl); (case hr => first | (go_simp; done) | (go_simp; rfl)); intro w2 hw; have HW2 := Aside0.mk hw; clear hw hc2 hf2))
      have hlo := HB.out.size
      have hX1 := (HX.out.below HB1.out).widen (Nat.le_refl _) HB1.out.size
      have hR2 := Mx.row_made HR1.out hlo
      have hp := Mx.Mx.place (by rw [HL.out]; exact hX1) (by decide) (i := i) (by rw [HL.out]; exact hlt) hR2 (fun j u hu => HX.out.new HR1.out j u hu)
      rw [HL.out, HS.out, ← HW2.out] at hp
      have hb2 := hp.2.below (HB.out.trans (HB1.out.mono hlo)) (Nat.le_trans hlo HB1.out.size) hg0
      have hp1 := hp.1
      rw [show w1.heap.size = w2.heap.size by rw [HW2.out]; simp [World.setCell]] at hp1
      have HX2 := Aside0.mk hp1
      have HB2 := Aside0.mk hb2
      clear hX1 hR2 hp hp1 hb2 hlo
      go_roundg (m.length - (i + 1))
      case measure => omega
      case rel => exact ⟨i + 1, _, by omega, by omega, by go_num, HX2, HB2⟩
    · obtain rfl : i = m.length := by omega
      go_wp2
      go_ret
      have hx := HX.out
      rw [List.take_length, Nat.sub_self, List.replicate_zero, List.append_nil] at hx
      exact ⟨_, _, rfl, hx, HB.out⟩

theorem rows_len {w : World} {A : Option Addr} {n : Nat} {E : TypeId} {xs : List (List Int)} (h : Kd.C (Kd.slice E (Kd.int .i64)) w A n xs) : xs.length ≤ 9223372036854775807 ∧ ∀ r ∈ xs, r.length ≤ 9223372036854775807 := by
  have hn := h.1
  have hm := h.2.1
  refine ⟨by omega, fun r hr => ?_⟩
  obtain ⟨i, hi, rfl⟩ := List.getElem_of_mem hr
  obtain ⟨_, _, _, _, _, _, hC⟩ := Mx.rows_at h i (by omega) hi
  have := hC.2.1
  have := hC.1
  omega
theorem small_rows {m : List (List Int)} (h : m.length + tot m ≤ 1048576) : m.length ≤ 1048576 ∧ (∀ r ∈ m, r.length ≤ 1048576) ∧ tot m ≤ 1048576 := by
  have ht : ∀ (l : List (List Int)), ∀ r ∈ l, r.length ≤ tot l := by
    intro l
    induction l with
    | nil => intro r hr; cases hr
    | cons x l ih =>
      intro r hr
      rcases List.mem_cons.1 hr with rfl | hr
      · simp only [tot]; omega
      · have := ih r hr; simp only [tot]; omega
  exact ⟨by omega, fun r hr => by have := ht m r hr; omega, by omega⟩
theorem le_small {m : List (List Int)} {k : Nat} (h : m.length ≤ k ∧ ∀ r ∈ m, r.length ≤ k) (hk : k ≤ 1000 := by decide) : m.length ≤ 1000 ∧ ∀ r ∈ m, r.length ≤ 1000 := ⟨by omega, fun r hr => by have := h.2 r hr; omega⟩

theorem toSS_e {w0 w : World} {L : List (Value × Env.It)} (E : Env.Env 34 3 w0 w L) (A : Option Addr) (c : Nat) (m : List (List Int)) (hr0 : Kd.C (Kd.slice 3 (Kd.int .i64)) w0 A m.length m) (hc0 : m.length ≤ c) (hml : m.length ≤ 1048576) (hrow : ∀ r ∈ m, r.length ≤ 1048576) :
    Calls Try.prog 52 #[.slice A m.length c] w fun e w' => ∃ A1 c1, e = .returned (.slice A1 m.length c1) ∧ Env.Env 34 3 w0 w' ((.slice A1 m.length c1, .mat m) :: L) :=
  (toSS_calls A c m w (E.came hr0) hc0 hml hrow).mono fun e w' ⟨v, vs, he, hM, hb⟩ => by
    obtain ⟨A1, c1, hv, _, _⟩ := hM.C (by decide)
    subst hv
    exact ⟨A1, c1, he, E.mx hM hb⟩

theorem toS_e {w0 w : World} {L : List (Value × Env.It)} (E : Env.Env 34 3 w0 w L) (A : Option Addr) (c : Nat) (x : List Int) (hr0 : Kd.C (Kd.int .i64) w0 A x.length x) (hc0 : x.length ≤ c) (hxl : x.length ≤ 1048576) :
    Calls Try.prog 23 #[.slice A x.length c] w fun e w' => ∃ A1 c1, e = .returned (.slice A1 x.length c1) ∧ Env.Env 34 3 w0 w' ((.slice A1 x.length c1, .row x) :: L) := by
  obtain ⟨K, hK⟩ := (laws_toIntS_ev x hxl).rounds
  exact (laws_toIntS.calls K A c x x w (E.camer hr0) hc0 hK).mono fun e w' ⟨v, he, hR, hb⟩ => by
    obtain ⟨A1, c1, hv, hE⟩ := E.madeR hR hb
    subst hv
    exact ⟨A1, c1, he, hE⟩

theorem sz_c (A : Option Addr) (c : Nat) (m : List (List Int)) (a : Int) (w : World) (hr0 : Kd.C (Kd.slice 3 (Kd.int .i64)) w A m.length m) (hc0 : m.length ≤ c) (h0 : 0 ≤ a) (h1 : a ≤ 1048576) :
    Calls Try.prog 50 #[.slice A m.length c, .int .i64 a] w fun e w' => e = .returned (.int .i64 (szV m a)) ∧ Below w.heap.size w w' := by
  have hb := rows_len hr0
  obtain ⟨K, hK⟩ := (laws_szIntSS_ev m hb.1 hb.2 a h0 h1).rounds
  exact (laws_szIntSS.calls K A c m a _ w hr0 hc0 hK).mono fun e w' ⟨he, hd⟩ => ⟨he, hd.below⟩
theorem szV_big {m : List (List Int)} {a : Int} (h : a < (m.length + tot m : Nat)) : szV m a = -1 := by unfold szV; rw [if_pos (by omega)]
theorem szV_ok {m : List (List Int)} {a : Int} (h : ¬ a < (m.length + tot m : Nat)) : szV m a = a - (m.length + tot m : Nat) := by unfold szV; rw [if_neg (by omega)]

theorem eqSS_e {w0 w : World} {L : List (Value × Env.It)} (E : Env.Env 34 3 w0 w L) (i j : Nat) {A1 A2 : Option Addr} {c1 c2 : Nat} {it1 it2 : Env.It} {m : List (List Int)} (hi : L[i]? = some (.slice A1 m.length c1, it1)) (hj : L[j]? = some (.slice A2 m.length c2, it2)) (hm1 : it1.rows = some m) (hm2 : it2.rows = some m) (hl : m.length ≤ 1048576) (hr : ∀ r ∈ m, r.length ≤ 1048576) :
    Calls Try.prog 54 #[.slice A1 m.length c1, .slice A2 m.length c2] w fun e w' => e = .returned (.bool true) ∧ Env.Env 34 3 w0 w' L := by
  obtain ⟨K, hK⟩ := laws_eqIntSS_same m hl hr
  have h1 := E.Cq (by decide) i hi hm1
  have h2 := E.Cq (by decide) j hj hm2
  exact (laws_eqIntSS.calls K A1 c1 m A2 c2 m true w h1.2 h1.1 h2.2 h2.1 hK).mono fun e w' ⟨he, hd⟩ => ⟨he, E.below hd.below⟩

theorem eqS_e {w0 w : World} {L : List (Value × Env.It)} (E : Env.Env 34 3 w0 w L) (i j : Nat) {A1 A2 : Option Addr} {c1 c2 : Nat} {x : List Int} (hi : L[i]? = some (.slice A1 x.length c1, .row x)) (hj : L[j]? = some (.slice A2 x.length c2, .row x)) (hl : x.length ≤ 1048576) :
    Calls Try.prog 25 #[.slice A1 x.length c1, .slice A2 x.length c2] w fun e w' => e = .returned (.bool true) ∧ Env.Env 34 3 w0 w' L := by
  obtain ⟨K, hK⟩ := (laws_eqIntS_ev x x (by omega)).rounds
  rw [decide_eq_true rfl] at hK
  exact (laws_eqIntS.calls K A1 c1 x A2 c2 x true w (E.Cr i hi) (E.capr i hi) (E.Cr j hj) (E.capr j hj) hK).mono fun e w' ⟨he, hd⟩ => ⟨he, E.below hd.below⟩

set_option maxHeartbeats 4000000 in
set_option maxRecDepth 100000 in
/-- All places of rows of one's own are numbered: they are apart, so each keeps its number. -/
theorem markSS_calls (lo hi : Nat) (A : Option Addr) (c : Nat) (m : List (List Int)) (vs : List Value) (a : Nat) (w0 w : World) (hB : Below w0.heap.size w0 w) (hlo : w0.heap.size ≤ lo) (hc0 : m.length ≤ c)
    (hM : Mx.Mx 34 3 w lo hi (.slice A m.length c) m vs) (hs : a + tot m ≤ 1000000000) (hr : ∀ r ∈ m, r.length ≤ 1048576) (hml : m.length ≤ 1048576) :
    Calls Try.prog 63 #[.slice A m.length c, .int .i64 (a : Int)] w fun e w' => e = .returned (.int .i64 ((a + tot m : Nat) : Int)) ∧ Mx.Mx 34 3 w' lo hi (.slice A m.length c) (marksS a m) vs ∧ Mx.Only lo hi w w' := by
  have HB := Aside0.mk hB
  have HM := Aside0.mk hM
  have HC := Aside0.mk hc0
  clear hB hM hc0
  go_enter Try.func63, Try.ntmps63
  go_wp2
  go_loopg [1, 5] m.length (fun gg s1 s5 wr => ∃ i : Nat, i ≤ m.length ∧ m.length - i ≤ gg ∧ s5 = .int .i64 i ∧ s1 = .int .i64 ((a + tot (m.take i) : Nat) : Int) ∧ Aside0 (Mx.Mx 34 3 wr lo hi (.slice A m.length c) (marksS a (m.take i) ++ m.drop i) vs) ∧ Aside0 (Mx.Only lo hi w wr))
  case atStart => exact ⟨0, Nat.zero_le _, by omega, rfl, by simp [tot], ⟨by simpa [marksS] using HM.out⟩, ⟨Mx.Only.refl _ _ _⟩⟩
  case round =>
    obtain ⟨i, hi', hg, rfl, rfl, HX, HO⟩ := hrel
    by_cases hlt : i < m.length
    · have hM := HX.out
      have hlen : (marksS a (m.take i) ++ m.drop i).length = m.length := by rw [List.length_append, marksS_length, ← List.length_append, List.take_append_drop]
      have hat : (marksS a (m.take i) ++ m.drop i)[i]? = some m[i] := by
        rw [List.getElem?_append_right (by rw [marksS_length, List.length_take]; omega), marksS_length, List.length_take, Nat.min_eq_left hi', Nat.sub_self, List.drop_eq_getElem_cons hlt]; rfl
      obtain ⟨u, hu⟩ := hM.at_ (i := i) (by rw [hlen]; exact hlt)
      have hrow := hM.row i m[i] u hat hu
      obtain ⟨g, cap, hv, hg0, hg1, _, _, hcell⟩ := hM.cells (by rw [hlen]; omega)
      have hc := (hcell i u hu).1
      clear hcell
      obtain ⟨K, hK⟩ := (laws_markIntS_ev m[i] (a + tot (m.take i)) (hr _ (List.getElem_mem hlt)) (by have := tot_take m i; omega)).rounds
      have hcall := laws_markIntS.calls K (fun k => some k = u.ownBlock) u m[i] _ _ _ w0 wr (HO.out.below HB.out HB.out.size hlo) (Kd.R_lower (Kd.R_tight rfl hrow) hlo) hK
      have hset : (marksS a (m.take i) ++ m.drop i).set i (marks (a + tot (m.take i)) m[i].length) = marksS a (m.take (i + 1)) ++ m.drop (i + 1) := by
        rw [List.set_append_right _ _ (by rw [marksS_length, List.length_take]; omega), marksS_length, List.length_take, Nat.min_eq_left hi', Nat.sub_self, List.drop_eq_getElem_cons hlt, List.set_cons_zero, List.take_succ_eq_append_getElem hlt, marksS_append, List.append_assoc]
        rfl
      have ht := tot_succ m i hlt
      obtain ⟨Au, cu, hus⟩ := Kd.R_slice hrow
      have HU := Aside0.mk hu
      have HR := Aside0.mk hrow
      have HA := Aside0.mk hat
      have HS := Aside0.mk hset
      have HT := Aside0.mk ht
      clear hM hlen hat hu hrow hK hset ht
      injection hv with hv1 hv2 hv3
      subst hv1
      clear hv2 hv3
      subst hus
      go_wp2_with (go_at_call 26; refine hcall.mono ?_; rintro e w1 ⟨rfl, hR1, hb1, hk1⟩)
      go_roundg (m.length - (i + 1))
      case measure => omega
      case rel =>
        refine ⟨i + 1, by omega, by omega, by go_num, by rw [HT.out]; congr 1; omega, ⟨?_⟩, ⟨HO.out.trans ?_⟩⟩
        · rw [← HS.out]
          exact HX.out.put (by decide) HU.out (fun k hk hne => hk1.2 k hk (fun he => hne he)) (Mx.row_base hR1 (fun k hk => ⟨(Mx.row_lo HR.out k hk).1, (Mx.row_lo HR.out k hk).2.1⟩))
        · exact Mx.Only.of_kept (HO.out.below HB.out HB.out.size hlo) hb1 hk1 (fun k hk => ⟨(Mx.row_lo HR.out k hk.symm).1, (Mx.row_lo HR.out k hk.symm).2.1⟩)
    · obtain rfl : i = m.length := by omega
      go_wp2
      go_ret
      have hx := HX.out
      rw [List.take_length, List.drop_length, List.append_nil] at hx
      exact ⟨by first | rfl | simp, hx, HO.out⟩
theorem markSS_one (lo hi : Nat) (A : Option Addr) (c : Nat) (m : List (List Int)) (vs : List Value) (w0 w : World) (hB : Below w0.heap.size w0 w) (hlo : w0.heap.size ≤ lo)
    (hM : Mx.Mx 34 3 w lo hi (.slice A m.length c) m vs) (hl : m.length ≤ 100) (hr : ∀ r ∈ m, r.length ≤ 1048576) (hs : tot m ≤ 100000000) :
    Calls Try.prog 63 #[.slice A m.length c, .int .i64 1] w fun e w' => e = .returned (.int .i64 ((1 + tot m : Nat) : Int)) ∧ Mx.Mx 34 3 w' lo hi (.slice A m.length c) (marksS 1 m) vs ∧ Mx.Only lo hi w w' := by
  have := markSS_calls lo hi A c m vs 1 w0 w hB hlo (hM.C' (by decide)).2.1 hM (by omega) hr (by omega)
  rwa [show ((1 : Nat) : Int) = 1 from rfl] at this

theorem markSS_e {w0 w : World} {L : List (Value × Env.It)} (E : Env.Env 34 3 w0 w L) (i : Nat) {A : Option Addr} {c : Nat} {m : List (List Int)} (hi : L[i]? = some (.slice A m.length c, .mat m)) (a : Nat) (z : Int) (hz : z = (a : Int)) (n : Nat) (hn : n = a + tot m) (hml : m.length ≤ 1048576) (hr : ∀ r ∈ m, r.length ≤ 1048576) (hs : n ≤ 1000000000) :
    Calls Try.prog 63 #[.slice A m.length c, .int .i64 z] w fun e w' => e = .returned (.int .i64 (n : Int)) ∧ Env.Env 34 3 w0 w' (L.set i (.slice A m.length c, .mat (marksS a m))) := by
  subst hz hn
  obtain ⟨lo, hi', h1, h2, ⟨vs, hM⟩, h4⟩ := E.turn i hi
  exact (markSS_calls lo hi' A c m vs a w0 w E.1 h1 (hM.C' (by decide)).2.1 hM hs hr hml).mono fun e w' ⟨he, hM', ho⟩ => ⟨he, h4 w' (.mat (marksS a m)) ho ⟨vs, hM'⟩⟩
theorem heldSS_e {w0 w : World} {L : List (Value × Env.It)} (E : Env.Env 34 3 w0 w L) (i : Nat) {A : Option Addr} {c : Nat} {m : List (List Int)} (a : Nat) (hi : L[i]? = some (.slice A m.length c, .mat (marksS a m))) (z : Int) (hz : z = (a : Int)) (n : Nat) (hn : n = a + tot m) (hml : m.length ≤ 1048576) (hs : n ≤ 1000000000) :
    Calls Try.prog 64 #[.slice A m.length c, .int .i64 z] w fun e w' => e = .returned (.int .i64 (n : Int)) ∧ Env.Env 34 3 w0 w' L := by
  subst hz hn
  obtain ⟨K, hK⟩ := laws_heldIntSS_ev a m (by omega) hml
  have hC := E.C (by decide) i hi
  have := laws_heldIntSS.calls K A c (marksS a m) (a : Int) _ w hC (by rw [marksS_length]; exact E.cap (by decide) i hi) hK
  rw [marksS_length] at this
  exact this.mono fun e w' ⟨he, hd⟩ => ⟨he, E.below hd.below⟩

theorem markS_e {w0 w : World} {L : List (Value × Env.It)} (E : Env.Env 34 3 w0 w L) (i : Nat) {A : Option Addr} {c : Nat} {x : List Int} (hi : L[i]? = some (.slice A x.length c, .row x)) (a : Nat) (z : Int) (hz : z = (a : Int)) (n : Nat) (hn : n = a + x.length) (hl : x.length ≤ 1048576) (hs : n ≤ 500000000) :
    Calls Try.prog 26 #[.slice A x.length c, .int .i64 z] w fun e w' => e = .returned (.int .i64 (n : Int)) ∧ Env.Env 34 3 w0 w' (L.set i (.slice A x.length c, .row (marks a x.length))) := by
  subst hz hn
  obtain ⟨lo, hi', h1, h2, hR, h4⟩ := E.turn i hi
  obtain ⟨K, hK⟩ := (laws_markIntS_ev x a hl (by omega)).rounds
  have hcall := laws_markIntS.calls K (fun k => some k = (Value.slice A x.length c).ownBlock) (.slice A x.length c) x _ _ _ w0 w E.1 (Kd.R_lower (Kd.R_tight rfl hR) h1) hK
  refine hcall.mono fun e w' => ?_
  rintro ⟨he, hR1, hb1, hk1⟩
  refine ⟨he, h4 w' (.row (marks a x.length)) (Mx.Only.of_kept E.1 hb1 hk1 (fun k hk => ?_)) (Mx.row_base hR1 (fun k hk => ?_))⟩
  · exact ⟨(Mx.row_lo hR k hk.symm).1, (Mx.row_lo hR k hk.symm).2.1⟩
  · exact ⟨(Mx.row_lo hR k hk).1, (Mx.row_lo hR k hk).2.1⟩

/-- A row made since is put behind a list of rows: 'out = append(out, row)'. -/
theorem app_event {ops : Array Oper} {rest : List Oper} {o : Oper} {a : Act} {Q : Exit → Act → World → Prop} {w0 wr W : World} (base : Nat) (hgd : o.guard = none) (s x : Operand)
    (ho : o.op = .call { callee := .builtin .append, args := #[s, x], argTypes := #[63, 63] }) (v : Value) (m : List (List Int)) (Au : Option Addr) (cu : Nat) (row : List Int) (hs : a.eval s = v) (hx : a.eval x = .slice (some ⟨W.heap.size, 0, none⟩) 1 1)
    (hS : (Kd.slice 3 (Kd.int .i64)).S 34 wr base (fun _ => True) v m) (hb : Below wr.heap.size wr W) (hR : (Kd.int .i64).R 3 W wr.heap.size (fun _ => True) (.slice Au row.length cu) row) (HB : Below base w0 W) (hbase : base ≤ wr.heap.size) (hl : m.length ≤ 1000000)
    (h : ∀ A1 c1 w1, (Kd.slice 3 (Kd.int .i64)).S 34 w1 base (fun _ => True) (.slice A1 (m.length + 1) c1) (m ++ [row]) → Below base w0 w1 → Aside0 (∀ (g tq : Nat) (cs : Array Value), tq ≠ 34 → wr.heap[g]? = some (.cells cs tq (0, 0)) → w1.heap[g]? = some (.cells cs tq (0, 0))) → wpList Try.prog ops Q rest (a.put o.dst (.slice A1 (m.length + 1) c1)) w1) :
    wpList Try.prog ops Q (o :: rest) a (W.alloc (.cells #[.slice Au row.length cu] 34)) := by
  have hlt := Kd.S_lt hS
  have hty := Kd.S_typed hS
  have hnew : ∀ k, some k = (Value.slice Au row.length cu).ownBlock → wr.heap.size ≤ k := fun k hk => Kd.R_base hR k hk.symm
  refine Kd.S_append (Kd.slice 3 (Kd.int .i64)) (w0 := w0) base hgd s x 63 34 (.slice none 0 0) 24 ho Try.underlying63 infoR rfl (by decide) (by omega) v m row [.slice Au row.length cu] (fun _ => True) (fun k => some k = (Value.slice Au row.length cu).ownBlock) hs hx
    (Kd.M_row (Kd.R_mono (Kd.R_tight rfl (Kd.R_lower hR hbase)) (fun _ h_ => h_))) (fun k hk => ⟨trivial, fun he => by have h1 := hnew k hk; have h2 := hlt k he.symm; omega⟩) (fun _ _ => trivial)
    (Kd.S_mono (Kd.S_old hS hb) (fun k hk => ⟨trivial, fun he => by have h1 := hnew k he; have h2 := hk.2; omega⟩)) HB (Nat.le_trans hbase hb.size) (by omega) ?_
  intro v1 w1 h1 h2 h3 _
  obtain ⟨A1, c1, rfl⟩ := Kd.S_slice h1
  rw [show (m ++ [row]).length = m.length + 1 by simp] at h1 ⊢
  exact h A1 c1 w1 h1 h2 ⟨fun g tq cs hne hg => blk_grown (blk_below hg hb) h3 (fun he => by
    obtain ⟨cells, hc⟩ := hty g he.symm
    rw [hc] at hg
    injection hg with hg
    injection hg with _ hg
    exact hne hg.symm)⟩
theorem S_empty {e : TypeId} {w : World} {base : Nat} {ok : Nat → Prop} {v : Value} (h : (Kd.slice 3 (Kd.int .i64)).R e w base ok v []) : (Kd.slice 3 (Kd.int .i64)).S e w base ok v [] := by
  obtain ⟨h0, inner, ho, hr⟩ := h
  exact ⟨fun _ => 0, h0, inner, ho, hr.1, fun j p hj => by simp at hj⟩

set_option maxHeartbeats 4000000 in
theorem scan_rowsOf_idx (p : Int → Bool) (k0 : Value) (A : Option Addr) (c : Nat) (l : List Int) (w : World) (hr : (Kd.int .i64).C w A l.length l) (hc : l.length ≤ c) (hone : ∀ (q : Nat) (x : Int), Calls Try.prog 113 #[.int .i64 x, k0] (w.drewN q) fun e w' => e = .returned (.bool (p x)) ∧ ∃ q', w' = (w.drewN q).drewN q') :
    Calls Try.prog 149 #[.slice A l.length c, .func (.func 113) #[] #[k0]] w fun e w' => e = .returned (.int .i64 (fidx p l 0)) ∧ Drawn0 w w' := by
  have hn : l.length ≤ 9223372036854775807 := hr.2.1
  have HR := Aside0.mk hr
  have HC := Aside0.mk hc
  have HO := Aside0.mk hone
  clear hr hc hone
  have eg : ∀ args w, (callFunc 113 args).run Try.prog w = .ok (.enter 113 args) w := enters_of Try.func113 (by kernel_rfl) rfl
  go_enter Try.func149, Try.ntmps149
  go_wp2
  go_loopg [5, 8] l.length (fun gg _ s8 wr => ∃ kk q : Nat, kk ≤ l.length ∧ l.length - kk ≤ gg ∧ s8 = .int .i64 kk ∧ wr = w.drewN q ∧ Aside0 (fidx p (l.drop kk) kk = fidx p l 0))
  case atStart => exact ⟨0, 0, Nat.zero_le _, by omega, rfl, rfl, ⟨rfl⟩⟩
  case round =>
    obtain ⟨kk, q, hkk, hg, rfl, rfl, E⟩ := hrel
    by_cases hlt : kk < l.length
    · have hltz : (kk : Int) < (l.length : Int) := by omega
      obtain ⟨ad, ea, hx⟩ := Kd.at_int HR.out (kk : Int) (by omega) hltz
      cases ea
      have ER : rd l (kk : Int) = l[kk] := by unfold rd; simp [List.getD_eq_getElem?_getD, List.getElem?_eq_getElem hlt]
      rw [ER, Int.toNat_natCast] at hx
      have E2 := Aside0.mk (List.drop_eq_getElem_cons hlt)
      have ED := E.out
      rw [E2.out, fidx_cons] at ED
      clear ER
      have hcall := HO.out q l[kk]
      generalize l[kk] = y at hx hcall ED
      cases hq : p y with
      | true =>
        rw [if_pos hq] at ED
        have ED' := Aside0.mk ED
        clear ED
        rw [hq] at hcall
        go_wp2_with (go_at_fn 113; refine hcall.mono ?_; rintro e w' ⟨rfl, q', rfl⟩)
        go_ret
        exact ⟨congrArg (fun z => Ending.returned (Value.int .i64 z)) ED'.out, ⟨_, rfl⟩⟩
      | false =>
        rw [if_neg (by rw [hq]; decide)] at ED
        have ED' := Aside0.mk ED
        clear ED
        rw [hq] at hcall
        go_wp2_with (go_at_fn 113; refine hcall.mono ?_; rintro e w' ⟨rfl, q', rfl⟩)
        go_roundg (l.length - (kk + 1))
        case measure => omega
        case rel => exact ⟨kk + 1, _, by omega, by omega, by go_num, rfl, ⟨by rw [← ED'.out]; congr 1⟩⟩
    · have : kk = l.length := by omega
      subst this
      go_wp2
      go_ret
      refine ⟨?_, ⟨q, rfl⟩⟩
      have := E.out
      rw [List.drop_length] at this
      rw [← this]
      rfl
set_option maxHeartbeats 2000000 in
theorem scan_rowsOf_has (p : Int → Bool) (k0 : Value) (A : Option Addr) (c : Nat) (l : List Int) (w : World) (hr : (Kd.int .i64).C w A l.length l) (hc : l.length ≤ c) (hone : ∀ (q : Nat) (x : Int), Calls Try.prog 113 #[.int .i64 x, k0] (w.drewN q) fun e w' => e = .returned (.bool (p x)) ∧ ∃ q', w' = (w.drewN q).drewN q') :
    Calls Try.prog 112 #[.slice A l.length c, .func (.func 113) #[] #[k0]] w fun e w' => e = .returned (.bool (l.any p)) ∧ Drawn0 w w' := by
  have hcon := scan_rowsOf_idx p k0 A c l w hr hc hone
  have E := Aside0.mk (fidx_any p l 0 (Int.le_refl _))
  generalize fidx p l 0 = r at hcon E
  clear hr hc hone
  go_enter Try.func112, Try.ntmps112
  go_wp2_with (go_at_call 149; refine hcon.mono ?_; rintro e w' ⟨rfl, ⟨nd, rfl⟩⟩)
  go_ret
  exact ⟨congrArg (fun z => Ending.returned (Value.bool z)) E.out, ⟨_, rfl⟩⟩

def impl_RowsOf.f (m : List (List Int)) (rows : List Int) : Option (List (List Int) × Bool) := some (rowsV m rows)
theorem impl_RowsOf_eq (m : List (List Int)) (rows : List Int) : impl_RowsOf.f m rows = some (rowsV m rows) := rfl
set_option maxHeartbeats 4000000 in
theorem impl_RowsOf_one (g : Nat) (A0 : Option Addr) (c0 : Nat) (m : List (List Int)) (x : Int) (w : World) (hg : w.cell? ⟨g, 0, none⟩ = some (.slice A0 m.length c0)) (hm : m.length ≤ 1048576) :
    Calls Try.prog 113 #[.int .i64 x, .pointer (some ⟨g, 0, none⟩)] w fun e w' => e = .returned (.bool (!decide (0 ≤ x ∧ x < (m.length : Int)))) ∧ ∃ q', w' = w.drewN q' := by
  have e : impl_within.f x 0 ((m.length : Int) - 1) = some (decide (0 ≤ x ∧ x < (m.length : Int))) := by
    rw [impl_within_eq]
    exact congrArg some (decide_eq_decide.2 (by omega))
  have H := Aside0.mk e
  clear e
  generalize decide (0 ≤ x ∧ x < (m.length : Int)) = b at H ⊢
  have h0 : (0 : Int) ≤ (m.length : Int) := by omega
  have h1 : (m.length : Int) ≤ 1048576 := by omega
  clear hm
  go_enter Try.func113, Try.ntmps113
  go_wp2_with (go_at_call 76; refine (impl_within.calls x 0 ((m.length : Int) - 1) b _ H.out).mono ?_; rintro e w' ⟨rfl, ⟨nd, rfl⟩⟩)
  go_ret
  exact ⟨rfl, _, rfl⟩
set_option maxHeartbeats 8000000 in
set_option maxRecDepth 100000 in
theorem impl_RowsOf.calls (A0 : Option Addr) (c0 : Nat) (l0 : List (List Int)) (A1 : Option Addr) (c1 : Nat) (l1 : List Int) (r1 : List (List Int)) (r2 : Bool) (w : World) (hr0 : Kd.C (Kd.slice 3 (Kd.int .i64)) w A0 l0.length l0) (hc0 : l0.length ≤ c0) (hr1 : Kd.C (Kd.int .i64) w A1 l1.length l1) (hc1 : l1.length ≤ c1) (h : impl_RowsOf.f l0 l1 = some (r1, r2)) :
    Calls Try.prog 62 #[.slice A0 l0.length c0, .slice A1 l1.length c1] w fun e w' => ∃ v0_ : Value, e = .returned (.tuple #[v0_, .bool r2]) ∧ Kd.S (Kd.slice 3 (Kd.int .i64)) 34 w' w.heap.size (fun _ => True) v0_ r1 ∧ Below w.heap.size w w' := by
  have HR0 := Aside0.mk hr0
  have HC0 := Aside0.mk hc0
  have HR1 := Aside0.mk hr1
  have HC1 := Aside0.mk hc1
  have HB := Aside0.mk (Below.refl w.heap.size w)
  clear hr0 hc0 hr1 hc1
  unfold impl_RowsOf.f rowsV at h
  have H := Option.some.inj h
  clear h
  have hone := fun (g : Nat) (w : World) (hm : l0.length ≤ 1048576) (hg : w.cell? ⟨g, 0, none⟩ = some (.slice A0 l0.length c0)) => scan_rowsOf_has (fun i => !decide (0 ≤ i ∧ i < (l0.length : Int))) (.pointer (some ⟨g, 0, none⟩)) A1 c1 l1 w
  have ewi : impl_within.f (l1.length : Int) 1 8 = some (decide (1 ≤ l1.length ∧ l1.length ≤ 8)) := by
    rw [impl_within_eq]
    exact congrArg some (decide_eq_decide.2 (by omega))
  have HW := Aside0.mk ewi
  clear ewi
  cases g1 : goodM l0 with
  | false =>
    rw [g1] at H
    injection H with H1 H2
    subst H1 H2
    have hg0 := impl_GoodMatrix_eq l0
    rw [g1] at hg0
    have HG := Aside0.mk hg0
    clear hone hg0 g1
    go_enter Try.func62, Try.ntmps62
    go_wp2_with (first | ((with_reducible refine gate_dst (N := 2) rfl ?_); refine box_event ?hg (N := 2) ?hd (cs := #[.slice A0 l0.length c0]) (t := 63) ?hr ?_; (case hd => rfl); (case hg => rfl); (case hr => first | (go_simp; done) | (go_simp; rfl)); intro g1 hg w1 hbox hb; have HB1 := Aside0.mk (below_step HB.out hb); have y0 : w1.cell? ⟨g1, 0, none⟩ = some (.slice A0 l0.length c0) := (blk_cell hbox 0).trans rfl; clear hb hbox hg) | (go_at_call 111; refine (impl_GoodMatrix.calls A0 c0 l0 false _ (Kd.C_below HR0.out HB1.out) HC0.out HG.out).mono ?_; rintro e w' ⟨rfl, hb⟩; have HB2 := Aside0.mk (below_step HB1.out hb); clear hb))
    go_ret2
    exact ⟨_, rfl, Kd.S_nil _ _ _ _ _, HB2.out⟩
  | true =>
    rw [g1, Bool.true_and] at H
    have hg0 := impl_GoodMatrix_eq l0
    rw [g1] at hg0
    have HG := Aside0.mk hg0
    have hl0 := (goodM_rows g1).1
    have HRR := Aside0.mk (goodM_rows g1).2
    clear hg0 g1
    cases g2 : decide (1 ≤ l1.length ∧ l1.length ≤ 8) with
    | false =>
      rw [g2] at H HW
      injection H with H1 H2
      subst H1 H2
      clear hone g2
      go_enter Try.func62, Try.ntmps62
      go_wp2_with (first | ((with_reducible refine gate_dst (N := 2) rfl ?_); refine box_event ?hg (N := 2) ?hd (cs := #[.slice A0 l0.length c0]) (t := 63) ?hr ?_; (case hd => rfl); (case hg => rfl); (case hr => first | (go_simp; done) | (go_simp; rfl)); intro g1 hg w1 hbox hb; have HB1 := Aside0.mk (below_step HB.out hb); have y0 : w1.cell? ⟨g1, 0, none⟩ = some (.slice A0 l0.length c0) := (blk_cell hbox 0).trans rfl; clear hb hbox hg) | (go_at_call 111; refine (impl_GoodMatrix.calls A0 c0 l0 true _ (Kd.C_below HR0.out HB1.out) HC0.out HG.out).mono ?_; rintro e w' ⟨rfl, hb⟩; have HB2 := Aside0.mk (below_step HB1.out hb); clear hb) | (go_at_call 76; refine (impl_within.calls (l1.length : Int) 1 8 false _ HW.out).mono ?_; rintro e w' ⟨rfl, ⟨nd, rfl⟩⟩))
      go_ret2
      exact ⟨_, rfl, Kd.S_nil _ _ _ _ _, pw_below_drewN HB2.out _⟩
    | true =>
      rw [g2, Bool.true_and] at H
      rw [g2] at HW
      have hl1 : l1.length ≤ 8 := (of_decide_eq_true g2).2
      clear g2
      unfold rowsIn at H
      cases g3 : l1.any (fun i => !decide (0 ≤ i ∧ i < (l0.length : Int))) with
      | true =>
        rw [g3] at H
        injection H with H1 H2
        subst H1 H2
        have hone' := fun (g : Nat) (w : World) (hg : w.cell? ⟨g, 0, none⟩ = some (.slice A0 l0.length c0)) (hC : (Kd.int .i64).C w A1 l1.length l1) => hone g w (by omega) hg hC HC1.out (fun q x => impl_RowsOf_one g A0 c0 l0 x (w.drewN q) hg (by omega))
        rw [g3] at hone'
        have HO := Aside0.mk hone'
        clear hone hone' g3
        go_enter Try.func62, Try.ntmps62
        go_wp2_with (first | ((with_reducible refine gate_dst (N := 2) rfl ?_); refine box_event ?hg (N := 2) ?hd (cs := #[.slice A0 l0.length c0]) (t := 63) ?hr ?_; (case hd => rfl); (case hg => rfl); (case hr => first | (go_simp; done) | (go_simp; rfl)); intro g1 hg w1 hbox hb; have HB1 := Aside0.mk (below_step HB.out hb); have y0 : w1.cell? ⟨g1, 0, none⟩ = some (.slice A0 l0.length c0) := (blk_cell hbox 0).trans rfl; have HY1 := Aside0.mk y0; clear hb hbox hg) | (go_at_call 111; refine (impl_GoodMatrix.calls A0 c0 l0 true _ (Kd.C_below HR0.out HB1.out) HC0.out HG.out).mono ?_; rintro e w' ⟨rfl, hb⟩; have HB2 := Aside0.mk (below_step HB1.out hb); have HY2 := Aside0.mk (pw_cell_below hb HY1.out); clear hb) | (go_at_call 76; refine (impl_within.calls (l1.length : Int) 1 8 true _ HW.out).mono ?_; rintro e w' ⟨rfl, ⟨nd, rfl⟩⟩) | (go_at_call 112; refine (HO.out g1 _ ?s1 ?s2).mono ?_; (case s1 => exact HY2.out); (case s2 => exact Kd.C_drewN (Kd.C_below HR1.out HB2.out) _); rintro e w' ⟨rfl, ⟨nd2, rfl⟩⟩))
        go_ret2
        exact ⟨_, rfl, Kd.S_nil _ _ _ _ _, by repeat (first | exact HB2.out | apply pw_below_drewN)⟩
      | false =>
        rw [g3] at H
        injection H with H1 H2
        subst H1 H2
        have hin : rowsIn l0 l1 = true := by unfold rowsIn; rw [g3]; rfl
        have HI := Aside0.mk (rowsIn_at hin)
        have hone' := fun (g : Nat) (w : World) (hg : w.cell? ⟨g, 0, none⟩ = some (.slice A0 l0.length c0)) (hC : (Kd.int .i64).C w A1 l1.length l1) => hone g w (by omega) hg hC HC1.out (fun q x => impl_RowsOf_one g A0 c0 l0 x (w.drewN q) hg (by omega))
        rw [g3] at hone'
        have HO := Aside0.mk hone'
        clear hone hone' g3 hin
        go_enter Try.func62, Try.ntmps62
        go_wp2_with (first | ((with_reducible refine gate_dst (N := 2) rfl ?_); refine box_event ?hg (N := 2) ?hd (cs := #[.slice A0 l0.length c0]) (t := 63) ?hr ?_; (case hd => rfl); (case hg => rfl); (case hr => first | (go_simp; done) | (go_simp; rfl)); intro g1 hg w1 hbox hb; have HB1 := Aside0.mk (below_step HB.out hb); have y0 : w1.cell? ⟨g1, 0, none⟩ = some (.slice A0 l0.length c0) := (blk_cell hbox 0).trans rfl; have HY1 := Aside0.mk hbox; clear hb hbox hg) | (go_at_call 111; refine (impl_GoodMatrix.calls A0 c0 l0 true _ (Kd.C_below HR0.out HB1.out) HC0.out HG.out).mono ?_; rintro e w' ⟨rfl, hb⟩; have HB2 := Aside0.mk (below_step HB1.out hb); have HY2 := Aside0.mk (blk_below HY1.out hb); clear hb) | (go_at_call 76; refine (impl_within.calls (l1.length : Int) 1 8 true _ HW.out).mono ?_; rintro e w' ⟨rfl, ⟨nd, rfl⟩⟩) | (go_at_call 112; refine (HO.out g1 _ ?s1 ?s2).mono ?_; (case s1 => exact (blk_cell HY2.out 0).trans rfl); (case s2 => exact Kd.C_drewN (Kd.C_below HR1.out HB2.out) _); rintro e w' ⟨rfl, ⟨nd2, rfl⟩⟩) | ((with_reducible refine gate_dst (N := 23) rfl ?_); refine Kd.R_lit (Kd.slice 3 (Kd.int .i64)) _ 34 ?hg (N := 23) ?hd (xs := ([] : List (List Int))) (inner := []) (ok := fun _ => True) (okp := fun _ => True) ?hr ?hp (fun _ hk => hk) trivial (Below.refl _ _) (Nat.le_refl _) (by simp) ?_; (case hd => rfl); (case hg => rfl); (case hr => first | (go_simp; done) | (go_simp; rfl)); (case hp => exact (Reps.none _ _)); intro v23 w23 ho23 hb23 _ _; have HBL0 := Aside0.mk (below_step (pw_below_drewN HB2.out _) hb23); have HYL0 := Aside0.mk (blk_below (blk_drewN HY2.out _) hb23); have HSL0 := Aside0.mk (Kd.S_lower (S_empty ho23) HB2.out.size); clear ho23 hb23))
        go_loopg [6, 26] l1.length (fun gg v6 v26 wr => ∃ i : Nat, i ≤ l1.length ∧ l1.length - i ≤ gg ∧ v26 = .int .i64 i ∧ Aside0 ((Kd.slice 3 (Kd.int .i64)).S 34 wr w.heap.size (fun _ => True) v6 (rowsL l0 (l1.take i))) ∧ Aside0 (Below w.heap.size w wr) ∧ Aside0 (wr.heap[g1]? = some (.cells #[.slice A0 l0.length c0] 63 (0, 0))))
        case atStart => exact ⟨0, Nat.zero_le _, by omega, rfl, HSL0, HBL0, HYL0⟩
        case round =>
          clear HBL0 HYL0 HSL0 HB2 HY2 HB1 HY1 y0
          obtain ⟨i, hi', hg, rfl, HS, HB, HY⟩ := hrel
          by_cases hlt : i < l1.length
          · have hltz : (i : Int) < (l1.length : Int) := by omega
            obtain ⟨ad, ea, hx⟩ := Kd.at_int HR1.out (i : Int) (by omega) hltz
            cases ea
            have hx1 := HI.out _ (List.getElem_mem hlt)
            rw [rd_get l1 i hlt, Int.toNat_natCast] at hx
            have eR := Aside0.mk (show rowsL l0 (l1.take (i + 1)) = rowsL l0 (l1.take i) ++ [l0.getD l1[i].toNat []] by unfold rowsL; rw [List.take_succ_eq_append_getElem hlt, List.map_append]; rfl)
            generalize l1[i] = y at hx hx1 eR
            obtain ⟨n, rfl⟩ := nat_of hx1.1
            have hn : n < l0.length := by omega
            obtain ⟨ad0, A2, c2, rfl, hx2, hl2, hr2⟩ := Mx.rows_at HR0.out n hn hn
            have hrr := HRR.out _ (List.getElem_mem hn)
            have eR2 := Aside0.mk (show l0.getD (n : Int).toNat [] = l0[n] by rw [Int.toNat_natCast, List.getD_eq_getElem?_getD, List.getElem?_eq_getElem hn]; rfl)
            have hxa := pw_cell_below HB.out hx
            have hxb := pw_cell_below HB.out hx2
            have hy : wr.cell? ⟨g1, 0, none⟩ = some (.slice (some ad0) l0.length c0) := (blk_cell HY.out 0).trans rfl
            have hcl := slices_Clone_int_int.calls A2 c2 l0[n] l0[n] wr (Kd.C_below hr2 HB.out) hl2 (by unfold slices_Clone_int_int.f; rw [if_pos (by omega)])
            generalize l0[n] = row at hxb hl2 hcl eR2
            have p1 : (0 ≤ (n : Int)) = True := eq_true (by omega)
            have p2 : ((n : Int) < (l0.length : Int)) = True := eq_true (by omega)
            have p3 : (n < l0.length) = True := eq_true hn
            have HSL := Aside0.mk (show (rowsL l0 (l1.take i)).length ≤ 1000000 by rw [rowsL_length, List.length_take]; omega)
            clear hx hx2 hx1 hr2 hrr hn hltz
            go_wp2_with (first
              | (go_at_call 114; refine hcl.mono ?_; rintro e w1 ⟨v1, rfl, hR1, hb1⟩; obtain ⟨A9, c9, rfl⟩ := Kd.R_slice hR1; have HB1 := Aside0.mk hb1; have HR3 := Aside0.mk hR1; clear hb1 hR1)
              | ((with_reducible refine gate_builtin (b := .append) (xs := #[.tmp 30, .tmp 36]) rfl ?_); at_builtin; refine app_event (w0 := w) w.heap.size rfl (.tmp 30) (.tmp 36) rfl _ (rowsL l0 (l1.take i)) A9 c9 row rfl rfl HS.out HB1.out HR3.out ?aB ?aS HSL.out ?_; (case aB => exact below_step HB.out HB1.out); (case aS => exact HB.out.size); intro A10 c10 w2 hS2 hB2 HK2; rw [← eR2.out, ← eR.out] at hS2; have HS2 := Aside0.mk hS2; have HB2 := Aside0.mk hB2; clear hS2 hB2))
            go_roundg (l1.length - (i + 1))
            case measure => omega
            case rel => exact ⟨i + 1, by omega, by omega, by go_num, HS2, HB2, ⟨HK2.out _ _ _ (by decide) HY.out⟩⟩
          · obtain rfl : i = l1.length := by omega
            have hS := HS.out
            rw [List.take_length] at hS
            have HS' := Aside0.mk hS
            clear hS
            go_wp2
            go_ret2
            exact ⟨_, rfl, HS'.out, HB.out⟩

set_option maxHeartbeats 8000000 in
set_option maxRecDepth 100000 in
theorem laws_FnExactRowsOf_calls (A0 : Option Addr) (c0 : Nat) (l0 : List (List Int)) (A1 : Option Addr) (c1 : Nat) (l1 : List Int) (w : World) (hr0 : Kd.C (Kd.slice 3 (Kd.int .i64)) w A0 l0.length l0) (hc0 : l0.length ≤ c0) (hw0 : ∀ r ∈ l0, ∀ x ∈ r, (Lit.int .i64 x).wf = true) (hr1 : (Kd.int .i64).C w A1 l1.length l1) (hc1 : l1.length ≤ c1) (y1 : l1.length * 8 ≤ 140737488351232) (hw1 : ∀ x ∈ l1, (Lit.int .i64 x).wf = true) :
    Calls Try.prog 12 #[.slice A0 l0.length c0, .slice A1 l1.length c1] w fun e w' => e = .returned (.bool true) ∧ Below w.heap.size w w' := by
  have HR0 := Aside0.mk hr0
  have HC0 := Aside0.mk hc0
  have HG0 := Aside0.mk hw0
  clear hr0 hc0 hw0
  have HR1 := Aside0.mk hr1
  have HC1 := Aside0.mk hc1
  have HG1 := Aside0.mk hw1
  clear hr1 hc1 hw1
  clear y1
  have ENV := Aside0.mk (Env.Env.start (e := 34) (t := 3) w)
  by_cases g1 : l1.length ≤ 1048576
  rotate_left
  · have t1 : decide (1048576 < (l1.length : Int)) = true := decide_eq_true (by omega)
    have t1b : decide (1048576 < l1.length) = true := decide_eq_true (by omega)
    clear g1
    go_enter Try.func12, Try.ntmps12
    go_wp2
    go_ret
    exact ⟨rfl, ENV.out.1⟩
  have t1 : decide (1048576 < (l1.length : Int)) = false := decide_eq_false (by omega)
  have t1b : decide (1048576 < l1.length) = false := decide_eq_false (by omega)
  have HL1 := Aside0.mk g1
  clear g1
  have HZ0 := Aside0.mk (show (0 : Int) ≤ (1048576 : Int) ∧ (1048576 : Int) ≤ 1048576 by decide)
  by_cases s0 : (1048576 : Int) < ((l0.length + tot l0 : Nat) : Int)
  · have HV0 := Aside0.mk (szV_big s0)
    clear s0
    go_enter Try.func12, Try.ntmps12
    go_wp2_with fail
    refine (sz_c A0 c0 l0 _ _ (ENV.out.came HR0.out) HC0.out HZ0.out.1 HZ0.out.2).mono ?_
    rintro e w1 ⟨he_, hb_⟩
    rw [HV0.out] at he_
    subst he_
    replace ENV := Aside0.mk (ENV.out.below hb_)
    clear hb_
    go_wp2
    go_ret
    exact ⟨rfl, ENV.out.1⟩
  obtain ⟨z0, hz0⟩ : ∃ z : Int, z = szV l0 (1048576 : Int) := ⟨_, rfl⟩
  have HV0 := Aside0.mk hz0.symm
  have hz0' := hz0
  rw [szV_ok s0] at hz0'
  have HN0 := Aside0.mk (show 0 ≤ z0 ∧ z0 ≤ (1048576 : Int) ∧ l0.length + tot l0 ≤ 1048576 by have := HZ0.out; omega)
  have q0 : decide (z0 < 0) = false := decide_eq_false (by have := HN0.out; omega)
  have HS0 := Aside0.mk (small_rows HN0.out.2.2)
  clear s0 hz0 hz0'
  obtain ⟨K91, h91⟩ := (spec_RowsOf_ev l0 l1 HS0.out.1 HS0.out.2.1 HL1.out).rounds
  have h92 := impl_RowsOf_eq l0 l1
  have hsm := le_small (rowsV_small l0 l1)
  generalize rowsV l0 l1 = g at h91 h92 hsm
  obtain ⟨r0, r1⟩ := g
  obtain ⟨hl_, hq_⟩ : r0.length ≤ 1000 ∧ ∀ r ∈ r0, r.length ≤ 1000 := hsm
  have hT_ := tot_le hq_
  have HP := Aside0.mk (show r0.length ≤ 1048576 ∧ (∀ r ∈ r0, r.length ≤ 1048576) ∧ tot r0 ≤ 1000000 from ⟨by omega, fun r h => by have := hq_ r h; omega, by have := Nat.mul_le_mul_right 1000 hl_; omega⟩)
  clear hl_ hq_ hT_
  have cc91 := fun A0_ c0_ A1_ c1_ w_ h0_ b0_ h1_ b1_ => spec_RowsOf.calls K91 A0_ c0_ l0 A1_ c1_ l1 r0 r1 w_ h0_ b0_ h1_ b1_ h91
  have cc92 := fun A0_ c0_ A1_ c1_ w_ h0_ b0_ h1_ b1_ => impl_RowsOf.calls A0_ c0_ l0 A1_ c1_ l1 r0 r1 w_ h0_ b0_ h1_ b1_ h92
  have e1 : (r1 != r1) = false := by simp
  have e1b : (r1 == r1) = true := by simp
  clear h91 h92
  obtain ⟨k0, hk0⟩ : ∃ n : Nat, n = 1 + tot l0 := ⟨_, rfl⟩
  have HK0 := Aside0.mk hk0
  clear hk0
  have HKB0 := Aside0.mk (show k0 ≤ 1048577 by have := HK0.out; have := HS0.out.2.2; omega)
  obtain ⟨k1, hk1⟩ : ∃ n : Nat, n = k0 + l1.length := ⟨_, rfl⟩
  have HK1 := Aside0.mk hk1
  clear hk1
  have HKB1 := Aside0.mk (show k1 ≤ 2097153 by have := HK1.out; have := HL1.out; have := HKB0.out; omega)
  have qk : decide ((k1 : Int) < 0) = false := decide_eq_false (by omega)
  obtain ⟨kg, hkg⟩ : ∃ n : Nat, n = 1 + tot r0 := ⟨_, rfl⟩
  have HKG := Aside0.mk hkg
  have HKGB := Aside0.mk (show kg ≤ 2000000 by have := HP.out.2.2; omega)
  clear hkg
  have qg : decide ((kg : Int) < 0) = false := decide_eq_false (by omega)
  have qg2 : ((kg : Int) != (kg : Int)) = false := by simp
  have qg3 : ((kg : Int) == (kg : Int)) = true := by simp
  go_enter Try.func12, Try.ntmps12
  go_wp2_with fail
  refine (sz_c A0 c0 l0 _ _ (ENV.out.came HR0.out) HC0.out HZ0.out.1 HZ0.out.2).mono ?_
  rintro e wz0 ⟨he_, hb_⟩
  rw [HV0.out] at he_
  subst he_
  replace ENV := Aside0.mk (ENV.out.below hb_)
  clear hb_
  go_wp2_with fail
  refine (toSS_e ENV.out A0 c0 l0 HR0.out HC0.out HS0.out.1 HS0.out.2.1).mono ?_
  rintro e w1 ⟨B1, d1, rfl, hE_⟩
  replace ENV := Aside0.mk hE_
  clear hE_
  go_wp2_with fail
  refine (toS_e ENV.out A1 c1 l1 HR1.out HC1.out HL1.out).mono ?_
  rintro e w2 ⟨B2, d2, rfl, hE_⟩
  replace ENV := Aside0.mk hE_
  clear hE_
  go_wp2_with fail
  refine (cc91 B1 d1 B2 d2 _ (ENV.out.C (A := B1) (n := l0.length) (c := d1) (by decide) 1 rfl) (ENV.out.cap (A := B1) (n := l0.length) (c := d1) (by decide) 1 rfl) (ENV.out.Cr (A := B2) (n := l1.length) (c := d2) 0 rfl) (ENV.out.capr (A := B2) (n := l1.length) (c := d2) 0 rfl)).mono ?_
  rintro e w3 ⟨v_, rfl, hS_, hb_⟩
  obtain ⟨B3, d3, rfl, hE_⟩ := ENV.out.madeS (by decide) hS_ hb_
  clear hS_ hb_
  replace ENV := Aside0.mk hE_
  clear hE_
  go_wp2_with fail
  refine (toSS_e ENV.out A0 c0 l0 HR0.out HC0.out HS0.out.1 HS0.out.2.1).mono ?_
  rintro e w4 ⟨B4, d4, rfl, hE_⟩
  replace ENV := Aside0.mk hE_
  clear hE_
  go_wp2_with fail
  refine (toS_e ENV.out A1 c1 l1 HR1.out HC1.out HL1.out).mono ?_
  rintro e w5 ⟨B5, d5, rfl, hE_⟩
  replace ENV := Aside0.mk hE_
  clear hE_
  go_wp2_with fail
  refine (cc92 B4 d4 B5 d5 _ (ENV.out.C (A := B4) (n := l0.length) (c := d4) (by decide) 1 rfl) (ENV.out.cap (A := B4) (n := l0.length) (c := d4) (by decide) 1 rfl) (ENV.out.Cr (A := B5) (n := l1.length) (c := d5) 0 rfl) (ENV.out.capr (A := B5) (n := l1.length) (c := d5) 0 rfl)).mono ?_
  rintro e w6 ⟨v_, rfl, hS_, hb_⟩
  obtain ⟨B6, d6, rfl, hE_⟩ := ENV.out.madeS (by decide) hS_ hb_
  clear hS_ hb_
  replace ENV := Aside0.mk hE_
  clear hE_
  go_wp2_with fail
  refine (eqSS_e ENV.out 0 3 (A1 := B6) (A2 := B3) (c1 := d6) (c2 := d3) rfl rfl rfl rfl HP.out.1 HP.out.2.1).mono ?_
  rintro e w7 ⟨rfl, hE_⟩
  replace ENV := Aside0.mk hE_
  clear hE_
  go_wp2_with fail
  refine (toSS_e ENV.out A0 c0 l0 HR0.out HC0.out HS0.out.1 HS0.out.2.1).mono ?_
  rintro e w8 ⟨B8, d8, rfl, hE_⟩
  replace ENV := Aside0.mk hE_
  clear hE_
  go_wp2_with fail
  refine (eqSS_e ENV.out 3 0 (A1 := B4) (A2 := B8) (c1 := d4) (c2 := d8) rfl rfl rfl rfl HS0.out.1 HS0.out.2.1).mono ?_
  rintro e w9 ⟨rfl, hE_⟩
  replace ENV := Aside0.mk hE_
  clear hE_
  go_wp2_with fail
  refine (toS_e ENV.out A1 c1 l1 HR1.out HC1.out HL1.out).mono ?_
  rintro e w10 ⟨B10, d10, rfl, hE_⟩
  replace ENV := Aside0.mk hE_
  clear hE_
  go_wp2_with fail
  refine (eqS_e ENV.out 3 0 (A1 := B5) (A2 := B10) (c1 := d5) (c2 := d10) rfl rfl HL1.out).mono ?_
  rintro e w11 ⟨rfl, hE_⟩
  replace ENV := Aside0.mk hE_
  clear hE_
  go_wp2_with fail
  refine (markSS_e ENV.out 4 (A := B4) (c := d4) rfl 1 _ rfl k0 HK0.out HS0.out.1 HS0.out.2.1 (by have := HKB0.out; omega)).mono ?_
  rintro e w12 ⟨rfl, hE_⟩
  replace ENV := Aside0.mk hE_
  clear hE_
  go_wp2_with fail
  refine (markS_e ENV.out 3 (A := B5) (c := d5) rfl k0 _ rfl k1 HK1.out HL1.out (by have := HKB1.out; omega)).mono ?_
  rintro e w13 ⟨rfl, hE_⟩
  replace ENV := Aside0.mk hE_
  clear hE_
  go_wp2_with fail
  refine (eqSS_e ENV.out 2 5 (A1 := B6) (A2 := B3) (c1 := d6) (c2 := d3) rfl rfl rfl rfl HP.out.1 HP.out.2.1).mono ?_
  rintro e w14 ⟨rfl, hE_⟩
  replace ENV := Aside0.mk hE_
  clear hE_
  go_wp2_with fail
  refine (markSS_e ENV.out 2 (A := B6) (c := d6) rfl 1 _ rfl kg HKG.out HP.out.1 HP.out.2.1 (by have := HKGB.out; omega)).mono ?_
  rintro e w15 ⟨rfl, hE_⟩
  replace ENV := Aside0.mk hE_
  clear hE_
  go_wp2_with fail
  refine (heldSS_e ENV.out 2 (A := B6) (c := d6) (m := r0) 1 rfl _ rfl kg HKG.out HP.out.1 (by have := HKGB.out; omega)).mono ?_
  rintro e w16 ⟨rfl, hE_⟩
  replace ENV := Aside0.mk hE_
  clear hE_
  go_wp2_with fail
  refine (toSS_e ENV.out A0 c0 l0 HR0.out HC0.out HS0.out.1 HS0.out.2.1).mono ?_
  rintro e w17 ⟨B17, d17, rfl, hE_⟩
  replace ENV := Aside0.mk hE_
  clear hE_
  go_wp2_with fail
  refine (toS_e ENV.out A1 c1 l1 HR1.out HC1.out HL1.out).mono ?_
  rintro e w18 ⟨B18, d18, rfl, hE_⟩
  replace ENV := Aside0.mk hE_
  clear hE_
  go_wp2_with fail
  refine (cc92 B17 d17 B18 d18 _ (ENV.out.C (A := B17) (n := l0.length) (c := d17) (by decide) 1 rfl) (ENV.out.cap (A := B17) (n := l0.length) (c := d17) (by decide) 1 rfl) (ENV.out.Cr (A := B18) (n := l1.length) (c := d18) 0 rfl) (ENV.out.capr (A := B18) (n := l1.length) (c := d18) 0 rfl)).mono ?_
  rintro e w19 ⟨v_, rfl, hS_, hb_⟩
  obtain ⟨B19, d19, rfl, hE_⟩ := ENV.out.madeS (by decide) hS_ hb_
  clear hS_ hb_
  replace ENV := Aside0.mk hE_
  clear hE_
  go_wp2_with fail
  refine (eqSS_e ENV.out 0 8 (A1 := B19) (A2 := B3) (c1 := d19) (c2 := d3) rfl rfl rfl rfl HP.out.1 HP.out.2.1).mono ?_
  rintro e w20 ⟨rfl, hE_⟩
  replace ENV := Aside0.mk hE_
  clear hE_
  go_wp2_with fail
  refine (heldSS_e ENV.out 5 (A := B6) (c := d6) (m := r0) 1 rfl _ rfl kg HKG.out HP.out.1 (by have := HKGB.out; omega)).mono ?_
  rintro e w21 ⟨rfl, hE_⟩
  replace ENV := Aside0.mk hE_
  clear hE_
  go_wp2
  go_ret
  exact ⟨rfl, ENV.out.1⟩

end Go.Proofs.Ytekadhniinpdfaa.Pure
