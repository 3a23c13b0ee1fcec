/- WrongPlaces answers as the reference's WrongPlaces does, for all lists, leaves its lists as they were, and hands out memory of its own. No conditions beyond the row's own. -/
import Derived.Test.YtpfcdmcnajljcaaPFnExactWrongPlacesx2
import Derived.Test.YtpfcdmcnajljcaaBit
set_option linter.unusedVariables false
set_option linter.unusedSimpArgs false
namespace Go.Proofs.Ytpfcdmcnajljcaa.Pure
open Go.RowKit Go.Proofs.Ytpfcdmcnajljcaa Go.Proofs.Ytpfcdmcnajljcaa.PFnExactWrongPlaces Go.Proofs.YtpfcdmcnajljcaaW.PrintWords Go.Proofs.YtpfcdmcnajljcaaW.PrintLast Go.Proofs.Ytpfcdmcnajljcaa.Bit

theorem rd_nat (l : List Int) (i : Nat) (h : i < l.length) : rd l (i : Int) = l[i] := by
  unfold rd
  simp [List.getD_eq_getElem?_getD, List.getElem?_eq_getElem h]
theorem wrap_succ (i : Nat) (h : i < 9223372036854775807) : wrap64 ((i : Int) + 1) = ((i + 1 : Nat) : Int) := by rw [wrap_id (by omega) (by omega)]; omega

/-- The places, counted from i on, at which two lists are unlike. -/
def difL : Nat → List Int → List Int → List Int
  | i, x :: a, y :: b => if x = y then difL (i + 1) a b else (i : Int) :: difL (i + 1) a b
  | _, _, _ => []
theorem difL_length : ∀ (a b : List Int) (i : Nat), (difL i a b).length ≤ a.length
  | [], _, _ => by simp [difL]
  | _ :: _, [], _ => by simp [difL]
  | x :: a, y :: b, i => by
    unfold difL
    have := difL_length a b (i + 1)
    split <;> simp <;> omega

theorem spec_l4Unlike_l0 (a b : List Int) (hab : a.length = b.length) (ha : a.length ≤ 1048576) : ∀ (d i : Nat) (acc : List Int), i + d = a.length → acc.length ≤ i → Ev (fun k => spec_l4Unlike.l0 k a b acc (a.length : Int) (i : Int)) (acc ++ difL i (a.drop i) (b.drop i)) := by
  intro d
  induction d with
  | zero =>
    intro i acc hi _
    obtain rfl : i = a.length := by omega
    have e : acc ++ difL a.length (a.drop a.length) (b.drop a.length) = acc := by rw [List.drop_length]; simp [difL]
    rw [e]
    exact Ev.step (f := fun _ => some acc) (fun k => by simp only [spec_l4Unlike.l0]; rw [if_neg (by omega)]) (Ev.now _)
  | succ d ih =>
    intro i acc hi hacc
    have hlt : i < a.length := by omega
    have hlt2 : i < b.length := by omega
    rw [List.drop_eq_getElem_cons hlt, List.drop_eq_getElem_cons hlt2]
    unfold difL
    by_cases e : a[i] = b[i]
    · rw [if_pos e]
      refine Ev.step (f := fun k => spec_l4Unlike.l0 k a b acc (a.length : Int) ((i + 1 : Nat) : Int)) (fun k => ?_) (ih (i + 1) acc (by omega) (by omega))
      simp only [spec_l4Unlike.l0, rd_nat a i hlt, rd_nat b i hlt2, wrap_succ i (by omega)]
      rw [if_pos (by omega), if_pos (by omega), if_pos (by omega), if_pos (by omega), if_pos e]
    · rw [if_neg e]
      have hi' := ih (i + 1) (acc ++ [(i : Int)]) (by omega) (by simp; omega)
      rw [List.append_assoc] at hi'
      refine Ev.step (f := fun k => spec_l4Unlike.l0 k a b (acc ++ [(i : Int)]) (a.length : Int) ((i + 1 : Nat) : Int)) (fun k => ?_) hi'
      simp only [spec_l4Unlike.l0, rd_nat a i hlt, rd_nat b i hlt2, wrap_succ i (by omega)]
      rw [if_pos (by omega), if_pos (by omega), if_pos (by omega), if_pos (by omega), if_neg e, if_pos (by omega)]
theorem spec_l4Unlike_ev (a b : List Int) (hab : a.length = b.length) (ha : a.length ≤ 1048576) : Ev (fun k => spec_l4Unlike.f k a b) (difL 0 a b) := by
  have := spec_l4Unlike_l0 a b hab ha a.length 0 [] (by omega) (by simp)
  simp only [List.nil_append, List.drop_zero] at this
  exact this

/-- What WrongPlaces answers. -/
def placesV (a b : List Int) : List Int × Bool := if a.length = b.length ∧ a.length ≤ 24 then (difL 0 a b, true) else ([], false)
theorem placesV_length (a b : List Int) : (placesV a b).1.length ≤ a.length := by
  unfold placesV
  split
  · exact difL_length a b 0
  · simp

theorem spec_WrongPlaces_ev (a b : List Int) : Ev (fun k => spec_WrongPlaces.f k a b) (placesV a b) := by
  unfold spec_WrongPlaces.f placesV
  by_cases h : a.length = b.length
  · by_cases h2 : a.length ≤ 24
    · have z1 : (a.length : Int) = (b.length : Int) := by omega
      have z2 : ¬ (a.length : Int) > 24 := by omega
      rw [if_pos ⟨h, h2⟩]
      simp only [if_pos z1, if_neg z2]
      exact Ev.bind (f := fun _ t => some (t, true)) (spec_l4Unlike_ev a b h (by omega)) (Ev.now _)
    · have z1 : (a.length : Int) = (b.length : Int) := by omega
      have z2 : (a.length : Int) > 24 := by omega
      rw [if_neg (fun x => h2 x.2)]
      simp only [if_pos z1, if_pos z2]
      exact Ev.now _
  · have z1 : ¬ (a.length : Int) = (b.length : Int) := by omega
    rw [if_neg (fun x => h x.1)]
    simp only [if_neg z1]
    exact Ev.now _

theorem laws_toIntS_l0 (l : List Int) (hl : l.length ≤ 1048576) : ∀ d i : Nat, i + d = l.length → Ev (fun k => laws_toIntS.l0 k l (l.take i ++ List.replicate d 0) (i : Int)) l := by
  intro d
  induction d with
  | zero =>
    intro i hi
    obtain rfl : i = l.length := by omega
    exact Ev.step (f := fun _ => some l) (fun k => by simp only [laws_toIntS.l0]; rw [if_neg (by omega)]; simp) (Ev.now _)
  | succ d ih =>
    intro i hi
    have hlt : i < l.length := by omega
    refine Ev.step (f := fun k => laws_toIntS.l0 k l (l.take (i + 1) ++ List.replicate d 0) ((i + 1 : Nat) : Int)) (fun k => ?_) (ih (i + 1) (by omega))
    have e : ((l.take i ++ List.replicate (d + 1) 0).set i l[i]) = l.take (i + 1) ++ List.replicate d 0 := by
      rw [List.set_append_right _ _ (by simp; omega)]
      simp only [List.length_take, Nat.min_eq_left (Nat.le_of_lt hlt), Nat.sub_self, List.replicate_succ, List.set_cons_zero]
      rw [List.take_succ_eq_append_getElem hlt, List.append_assoc]; rfl
    have z : (i : Int) < ((l.take i ++ List.replicate (d + 1) (0 : Int)).length : Int) := by simp only [List.length_append, List.length_take, List.length_replicate]; omega
    simp only [laws_toIntS.l0, rd_nat l i hlt, wrap_succ i (by omega), Int.toNat_natCast]
    rw [if_pos (by omega), if_pos (by omega), if_pos z, e]
theorem laws_toIntS_ev (l : List Int) (hl : l.length ≤ 1048576) : Ev (fun k => laws_toIntS.f k l) l := by
  unfold laws_toIntS.f
  have z1 : (0 : Int) ≤ (l.length : Int) := by omega
  have z2 : (l.length : Int).toNat ≤ 35184372088832 := by omega
  simp only [if_pos z1, if_pos z2]
  have := laws_toIntS_l0 l hl l.length 0 (by omega)
  simpa using this

theorem impl_WrongPlaces_l0 (a b : List Int) (hab : a.length = b.length) (ha : a.length ≤ 1048576) : ∀ (d i : Nat) (acc : List Int), i + d = a.length → acc.length ≤ i → Ev (fun k => impl_WrongPlaces.l0 k b acc a (a.length : Int) (i : Int)) (acc ++ difL i (a.drop i) (b.drop i), true) := by
  intro d
  induction d with
  | zero =>
    intro i acc hi _
    obtain rfl : i = a.length := by omega
    have e : acc ++ difL a.length (a.drop a.length) (b.drop a.length) = acc := by rw [List.drop_length]; simp [difL]
    rw [e]
    exact Ev.step (f := fun _ => some (acc, true)) (fun k => by simp only [impl_WrongPlaces.l0]; rw [if_neg (by omega)]) (Ev.now _)
  | succ d ih =>
    intro i acc hi hacc
    have hlt : i < a.length := by omega
    have hlt2 : i < b.length := by omega
    rw [List.drop_eq_getElem_cons hlt, List.drop_eq_getElem_cons hlt2]
    unfold difL
    by_cases e : a[i] = b[i]
    · rw [if_pos e]
      refine Ev.step (f := fun k => impl_WrongPlaces.l0 k b acc a (a.length : Int) ((i + 1 : Nat) : Int)) (fun k => ?_) (ih (i + 1) acc (by omega) (by omega))
      simp only [impl_WrongPlaces.l0, rd_nat a i hlt, rd_nat b i hlt2, wrap_succ i (by omega)]
      rw [if_pos (by omega), if_pos (by omega), if_pos (by omega), if_pos (by omega), if_pos e]
    · rw [if_neg e]
      have hi' := ih (i + 1) (acc ++ [(i : Int)]) (by omega) (by simp; omega)
      rw [List.append_assoc] at hi'
      refine Ev.step (f := fun k => impl_WrongPlaces.l0 k b (acc ++ [(i : Int)]) a (a.length : Int) ((i + 1 : Nat) : Int)) (fun k => ?_) hi'
      simp only [impl_WrongPlaces.l0, rd_nat a i hlt, rd_nat b i hlt2, wrap_succ i (by omega)]
      rw [if_pos (by omega), if_pos (by omega), if_pos (by omega), if_pos (by omega), if_neg e, if_pos (by omega)]
theorem impl_WrongPlaces_ev (a b : List Int) : Ev (fun k => impl_WrongPlaces.f k a b) (placesV a b) := by
  have no : Ev (fun k => impl_WrongPlaces.j0 k a b true) (([] : List Int), false) := Ev.step (f := fun _ => some (([] : List Int), false)) (fun k => by simp only [impl_WrongPlaces.j0]; rfl) (Ev.now _)
  unfold impl_WrongPlaces.f placesV
  by_cases h : a.length = b.length
  · have z1 : (a.length : Int) = (b.length : Int) := by omega
    simp only [if_pos z1]
    by_cases h2 : a.length ≤ 24
    · have z2 : decide ((a.length : Int) > 24) = false := decide_eq_false (by omega)
      rw [if_pos ⟨h, h2⟩, z2]
      have := impl_WrongPlaces_l0 a b h (by omega) a.length 0 [] (by omega) (by simp)
      exact Ev.step (f := fun k => impl_WrongPlaces.l0 k b [] a (a.length : Int) 0) (fun k => by simp only [impl_WrongPlaces.j0]; rfl) (by simpa using this)
    · have z2 : decide ((a.length : Int) > 24) = true := decide_eq_true (by omega)
      rw [if_neg (fun x => h2 x.2), z2]
      exact no
  · have z1 : ¬ (a.length : Int) = (b.length : Int) := by omega
    rw [if_neg (fun x => h x.1)]
    simp only [if_neg z1]
    exact no

theorem laws_eqIntS_l0 (l m : List Int) (hlm : l.length = m.length) (hl : l.length ≤ 140737488351232) : ∀ d i : Nat, i + d = l.length → Ev (fun k => laws_eqIntS.l0 k l m (i : Int)) (decide (l.drop i = m.drop i)) := by
  intro d
  induction d with
  | zero =>
    intro i hi
    obtain rfl : i = l.length := by omega
    have e : decide (l.drop l.length = m.drop l.length) = true := by
      have e2 : m.drop l.length = [] := by rw [hlm, List.drop_length]
      rw [e2, List.drop_length]; rfl
    rw [e]
    exact Ev.step (f := fun _ => some true) (fun k => by simp only [laws_eqIntS.l0]; rw [if_neg (by omega)]) (Ev.now _)
  | succ d ih =>
    intro i hi
    have hlt : i < l.length := by omega
    have hlt2 : i < m.length := by omega
    rw [List.drop_eq_getElem_cons hlt, List.drop_eq_getElem_cons hlt2]
    by_cases e : l[i] = m[i]
    · have : decide (l[i] :: l.drop (i + 1) = m[i] :: m.drop (i + 1)) = decide (l.drop (i + 1) = m.drop (i + 1)) := by simp only [List.cons.injEq, e, true_and]
      rw [this]
      refine Ev.step (f := fun k => laws_eqIntS.l0 k l m ((i + 1 : Nat) : Int)) (fun k => ?_) (ih (i + 1) (by omega))
      simp only [laws_eqIntS.l0, rd_nat l i hlt, rd_nat m i hlt2, wrap_succ i (by omega)]
      rw [if_pos (by omega), if_pos (by omega), if_pos (by omega), if_pos e]
    · have : decide (l[i] :: l.drop (i + 1) = m[i] :: m.drop (i + 1)) = false := by simp only [List.cons.injEq, e, false_and, decide_false]
      rw [this]
      refine Ev.step (f := fun k => some false) (fun k => ?_) (Ev.now _)
      simp only [laws_eqIntS.l0, rd_nat l i hlt, rd_nat m i hlt2, wrap_succ i (by omega)]
      rw [if_pos (by omega), if_pos (by omega), if_pos (by omega), if_neg e]
theorem laws_eqIntS_ev (l m : List Int) (hl : l.length ≤ 140737488351232) : Ev (fun k => laws_eqIntS.f k l m) (decide (l = m)) := by
  unfold laws_eqIntS.f
  by_cases h : l.length = m.length
  · simp only [if_pos (show (l.length : Int) = (m.length : Int) by omega)]
    exact laws_eqIntS_l0 l m h hl l.length 0 (by omega)
  · simp only [if_neg (show ¬ (l.length : Int) = (m.length : Int) by omega)]
    have : decide (l = m) = false := by simp only [decide_eq_false_iff_not]; rintro rfl; exact h rfl
    rw [this]
    exact Ev.now _

/-- The numbers m, m + 1, .., n of them. -/
def marks (m n : Nat) : List Int := (List.range n).map fun j => ((m + j : Nat) : Int)
theorem marks_length (m n : Nat) : (marks m n).length = n := by simp [marks]
theorem marks_succ (m n : Nat) : marks m (n + 1) = marks m n ++ [((m + n : Nat) : Int)] := by simp [marks, List.range_succ]
theorem marks_get (m n i : Nat) (h : i < (marks m n).length) : (marks m n)[i] = ((m + i : Nat) : Int) := by simp [marks]

theorem laws_markIntS_l0 (l : List Int) (m : Nat) (hl : l.length ≤ 1048576) (hm : m ≤ 1000000000) : ∀ d i : Nat, i + d = l.length → Ev (fun k => laws_markIntS.l0 k (marks m i ++ l.drop i) ((m + i : Nat) : Int) (i : Int)) (((m + l.length : Nat) : Int), marks m l.length) := by
  intro d
  induction d with
  | zero =>
    intro i hi
    obtain rfl : i = l.length := by omega
    refine Ev.step (f := fun _ => some (((m + l.length : Nat) : Int), marks m l.length)) (fun k => ?_) (Ev.now _)
    simp only [laws_markIntS.l0, List.drop_length, List.append_nil, marks_length]
    rw [if_neg (by omega)]
  | succ d ih =>
    intro i hi
    have hlt : i < l.length := by omega
    refine Ev.step (f := fun k => laws_markIntS.l0 k (marks m (i + 1) ++ l.drop (i + 1)) ((m + (i + 1) : Nat) : Int) ((i + 1 : Nat) : Int)) (fun k => ?_) (ih (i + 1) (by omega))
    have e : (marks m i ++ l.drop i).set i ((m + i : Nat) : Int) = marks m (i + 1) ++ l.drop (i + 1) := by
      rw [List.set_append_right _ _ (by rw [marks_length]; omega), marks_length, Nat.sub_self, List.drop_eq_getElem_cons hlt, List.set_cons_zero, marks_succ, List.append_assoc]
      rfl
    have hlen : (marks m i ++ l.drop i).length = l.length := by rw [List.length_append, marks_length, List.length_drop]; omega
    have e2 : wrap64 (((m + i : Nat) : Int) + 1) = ((m + (i + 1) : Nat) : Int) := by rw [wrap_id (by omega) (by omega)]; omega
    simp only [laws_markIntS.l0, hlen, Int.toNat_natCast, e, e2, wrap_succ i (by omega)]
    rw [if_pos (by omega), if_pos (by omega)]
theorem laws_markIntS_ev (l : List Int) (m : Nat) (hl : l.length ≤ 1048576) (hm : m ≤ 1000000000) : Ev (fun k => laws_markIntS.f k l (m : Int)) (((m + l.length : Nat) : Int), marks m l.length) := by
  have := laws_markIntS_l0 l m hl hm l.length 0 (by omega)
  simp only [marks, List.range_zero, List.map_nil, List.nil_append, List.drop_zero, Nat.add_zero] at this
  exact this

theorem laws_heldIntS_l0 (m n : Nat) (h : m + n ≤ 2000000000) : ∀ d i : Nat, i + d = n → Ev (fun k => laws_heldIntS.l0 k (marks m n) ((m + i : Nat) : Int) (i : Int)) ((m + n : Nat) : Int) := by
  intro d
  induction d with
  | zero =>
    intro i hi
    obtain rfl : i = n := by omega
    refine Ev.step (f := fun _ => some ((m + i : Nat) : Int)) (fun k => ?_) (Ev.now _)
    simp only [laws_heldIntS.l0, marks_length]
    rw [if_neg (by omega)]
  | succ d ih =>
    intro i hi
    refine Ev.step (f := fun k => laws_heldIntS.l0 k (marks m n) ((m + (i + 1) : Nat) : Int) ((i + 1 : Nat) : Int)) (fun k => ?_) (ih (i + 1) (by omega))
    have hlt : i < (marks m n).length := by rw [marks_length]; omega
    have e2 : wrap64 (((m + i : Nat) : Int) + 1) = ((m + (i + 1) : Nat) : Int) := by rw [wrap_id (by omega) (by omega)]; omega
    simp only [laws_heldIntS.l0, rd_nat _ i hlt, marks_get, marks_length, e2, wrap_succ i (by omega)]
    rw [if_pos (by omega), if_pos (by omega)]
    simp
theorem laws_heldIntS_ev (m n : Nat) (h : m + n ≤ 2000000000) : Ev (fun k => laws_heldIntS.f k (marks m n) (m : Int)) ((m + n : Nat) : Int) := laws_heldIntS_l0 m n h n 0 (by omega)

theorem nat_nn (n : Nat) : ((n : Int) < 0) = False := by simp
theorem one_nat : (1 : Int) = ((1 : Nat) : Int) := rfl
theorem one_nn (n : Nat) : (((n : Nat) : Int) = ((n : Nat) : Int)) = True := by simp

theorem FnExactWrongPlaces : laws_FnExactWrongPlaces.Pure := by
  intro a b _ _ _ _ _ _
  by_cases ha : (a.length : Int) > 1048576
  · exact ⟨0, by unfold laws_FnExactWrongPlaces.f; rw [if_pos ha]⟩
  by_cases hb : (b.length : Int) > 1048576
  · exact ⟨0, by unfold laws_FnExactWrongPlaces.f; rw [if_neg ha, if_pos hb]⟩
  have ha' : a.length ≤ 1048576 := by omega
  have hb' : b.length ≤ 1048576 := by omega
  have hg := placesV_length a b
  have E1 := laws_toIntS_ev a (by omega)
  have E2 := laws_toIntS_ev b (by omega)
  have E3 := spec_WrongPlaces_ev a b
  have E4 := impl_WrongPlaces_ev a b
  generalize placesV a b = g at E3 E4 hg
  obtain ⟨g, ok⟩ := g
  have hg' : g.length ≤ a.length := hg
  have E5 := laws_eqIntS_ev a a (by omega)
  have E6 := laws_eqIntS_ev b b (by omega)
  have E7 := laws_eqIntS_ev g g (by omega)
  have E8 := laws_markIntS_ev a 1 (by omega) (by omega)
  have E9 := laws_markIntS_ev b (1 + a.length) (by omega) (by omega)
  have E10 := laws_markIntS_ev g 1 (by omega) (by omega)
  have E11 := laws_heldIntS_ev 1 g.length (by omega)
  rw [← one_nat] at E8 E10 E11
  refine Ev.rounds ?_
  unfold laws_FnExactWrongPlaces.f
  simp only [if_neg ha, if_neg hb]
  repeat' first
    | exact Ev.now _
    | refine Ev.bind (by assumption) ?_
    | refine Ev.step (fun k => laws_FnExactWrongPlaces.j0.eq_2 _ _ _ _ _ _ _ _ _ k) ?_
    | refine Ev.step (fun k => laws_FnExactWrongPlaces.j1.eq_2 _ _ _ _ _ _ k) ?_
    | refine Ev.step (fun k => laws_FnExactWrongPlaces.j2.eq_2 _ _ _ k) ?_
    | simp only [decide_true, decide_false, if_true, if_false, bne_self_eq_false, Bool.false_eq_true, Bool.not_true, Bool.not_false, Bool.and_true, Bool.and_self, nat_nn, Option.bind_some, beq_self_eq_true, one_nn]

end Go.Proofs.Ytpfcdmcnajljcaa.Pure
