/- CanDecode answers as the reference's CanDecode does, for all numbers and lists, and leaves its list as it was. No conditions beyond the row's own. -/
import Derived.Test.YthaffjolcghkoaaPFnExactCanDecodex2
import Derived.Test.YthaffjolcghkoaaBit
set_option linter.unusedVariables false
set_option linter.unusedSimpArgs false
namespace Go.Proofs.Ythaffjolcghkoaa.Pure
open Go.RowKit Go.Proofs.Ythaffjolcghkoaa Go.Proofs.Ythaffjolcghkoaa.PFnExactCanDecode Go.Proofs.YthaffjolcghkoaaW.PrintWords Go.Proofs.YthaffjolcghkoaaW.PrintLast Go.Proofs.Ythaffjolcghkoaa.Bit

theorem spec_l1In_eq (a b c : Int) : spec_l1In.f a b c = some (decide (b ≤ a ∧ a ≤ c)) := by
  unfold spec_l1In.f
  by_cases h : a ≥ b
  · rw [if_pos h]; congr 1; simp [show b ≤ a from h]
  · rw [if_neg h]; congr 1; simp; omega

/-- Are numbers of data and parity pieces as said? -/
def isC (a b : Int) : Bool := decide (1 ≤ a ∧ a ≤ 6) && decide (1 ≤ b ∧ b ≤ 4)
theorem isC_bd {a b : Int} (h : isC a b = true) : (1 ≤ a ∧ a ≤ 6) ∧ (1 ≤ b ∧ b ≤ 4) := by simpa [isC] using h

theorem spec_l3Size_eq (a b : Int) : spec_l3Size.f a b = some (isC a b) := by
  unfold spec_l3Size.f isC
  simp only [spec_l1In_eq, Option.bind_some]
  cases decide (1 ≤ a ∧ a ≤ 6) <;> rfl

/-- Does a list rise within 0 .. m - 1, behind p? -/
def rises (m : Int) : Int → List Int → Bool
  | _, [] => true
  | p, x :: l => decide (p < x ∧ 0 ≤ x ∧ x < m) && rises m x l
/-- What stands ahead of place i. -/
def ahead (l : List Int) (i : Nat) : Int := if i = 0 then -1 else l.getD (i - 1) 0
theorem ahead_succ (l : List Int) (i : Nat) (h : i < l.length) : ahead l (i + 1) = l[i] := by
  unfold ahead
  rw [if_neg (by omega)]
  simp [List.getD_eq_getElem?_getD, List.getElem?_eq_getElem h]
theorem ahead_rd (l : List Int) (i : Nat) (h0 : 0 < i) (h : i ≤ 1048576) : rd l (wrap64 ((i : Int) - 1)) = ahead l i := by
  rw [wrap_id (by omega) (by omega)]
  unfold rd ahead
  rw [if_neg (by omega)]
  have : ((i : Int) - 1).toNat = i - 1 := by omega
  rw [this]

theorem rd_nat (l : List Int) (i : Nat) (h : i < l.length) : rd l (i : Int) = l[i] := by
  unfold rd
  simp [List.getD_eq_getElem?_getD, List.getElem?_eq_getElem h]
theorem wrap_succ (i : Nat) (h : i < 9223372036854775807) : wrap64 ((i : Int) + 1) = ((i + 1 : Nat) : Int) := by rw [wrap_id (by omega) (by omega)]; omega

theorem spec_l3Lost_l0 (l : List Int) (m : Int) (hl : l.length ≤ 1048576) : ∀ d i : Nat, i + d = l.length → Ev (fun k => spec_l3Lost.l0 k l m l (l.length : Int) (i : Int)) (rises m (ahead l i) (l.drop i)) := by
  intro d
  induction d with
  | zero =>
    intro i hi
    obtain rfl : i = l.length := by omega
    rw [List.drop_length]
    exact Ev.step (f := fun _ => some true) (fun k => by simp only [spec_l3Lost.l0]; rw [if_neg (by omega)]) (Ev.now _)
  | succ d ih =>
    intro i hi
    have hlt : i < l.length := by omega
    have hi' := ih (i + 1) (by omega)
    rw [ahead_succ l i hlt] at hi'
    rw [List.drop_eq_getElem_cons hlt]
    have go : ∀ (p : Bool), (p = decide (ahead l i < l[i] ∧ 0 ≤ l[i] ∧ l[i] < m)) → (∀ k, spec_l3Lost.l0 (k + 1) l m l (l.length : Int) (i : Int) = if p = true then spec_l3Lost.l0 k l m l (l.length : Int) ((i + 1 : Nat) : Int) else some false) → Ev (fun k => spec_l3Lost.l0 k l m l (l.length : Int) (i : Int)) (rises m (ahead l i) (l[i] :: l.drop (i + 1))) := by
      intro p hp h
      show Ev _ (decide (ahead l i < l[i] ∧ 0 ≤ l[i] ∧ l[i] < m) && rises m l[i] (l.drop (i + 1)))
      rw [← hp]
      cases p
      · exact Ev.step (f := fun _ => some false) (fun k => by rw [h]; rfl) (Ev.now _)
      · exact Ev.step (f := fun k => spec_l3Lost.l0 k l m l (l.length : Int) ((i + 1 : Nat) : Int)) (fun k => by rw [h]; rfl) hi'
    refine go _ rfl (fun k => ?_)
    simp only [spec_l3Lost.l0, rd_nat l i hlt, wrap_succ i (by omega), decide_eq_true_eq]
    rw [if_pos (by omega), if_pos (by omega), if_pos (by omega)]
    by_cases h1 : l[i] < 0
    · rw [if_pos h1, if_neg (by omega)]
    · rw [if_neg h1]
      by_cases h2 : l[i] ≥ m
      · rw [if_pos h2, if_neg (by omega)]
      · rw [if_neg h2]
        by_cases h3 : i = 0
        · subst h3
          rw [if_neg (by omega), if_pos ⟨by simp [ahead]; omega, by omega, by omega⟩]
        · rw [if_pos (by omega), ahead_rd l i (by omega) (by omega)]
          have e : wrap64 ((i : Int) - 1) = (i : Int) - 1 := wrap_id (by omega) (by omega)
          rw [e, if_pos (by omega), if_pos (by omega)]
          by_cases h4 : ahead l i ≥ l[i]
          · rw [if_pos h4, if_neg (by omega)]
          · rw [if_neg h4, if_pos ⟨by omega, by omega, by omega⟩]
theorem spec_l3Lost_ev (l : List Int) (m : Int) (hl : l.length ≤ 1048576) : Ev (fun k => spec_l3Lost.f k l m) (rises m (-1) l) := spec_l3Lost_l0 l m hl l.length 0 (by omega)

/-- What CanDecode answers. -/
def canV (a b : Int) (l : List Int) : Bool × Bool := if isC a b && rises (a + b) (-1) l then (decide ((l.length : Int) ≤ b), true) else (false, false)

theorem spec_CanDecode_ev (a b : Int) (l : List Int) (hl : l.length ≤ 1048576) : Ev (fun k => spec_CanDecode.f k a b l) (canV a b l) := by
  unfold spec_CanDecode.f canV
  simp only [spec_l3Size_eq, Option.bind_some]
  cases h : isC a b
  · exact Ev.now _
  · have hb := isC_bd h
    have e : wrap64 (a + b) = a + b := wrap_id (by omega) (by omega)
    simp only [if_true, e, Bool.true_and]
    refine Ev.bind (f := fun _ (t : Bool) => if t = true then some (decide ((l.length : Int) ≤ b), true) else some (false, false)) (spec_l3Lost_ev l (a + b) hl) ?_
    cases rises (a + b) (-1) l <;> exact Ev.now _

theorem laws_toIntS_l0 (l : List Int) (hl : l.length ≤ 1048576) : ∀ d i : Nat, i + d = l.length → Ev (fun k => laws_toIntS.l0 k l (l.take i ++ List.replicate d 0) (i : Int)) l := by
  intro d
  induction d with
  | zero =>
    intro i hi
    obtain rfl : i = l.length := by omega
    exact Ev.step (f := fun _ => some l) (fun k => by simp only [laws_toIntS.l0]; rw [if_neg (by omega)]; simp) (Ev.now _)
  | succ d ih =>
    intro i hi
    have hlt : i < l.length := by omega
    refine Ev.step (f := fun k => laws_toIntS.l0 k l (l.take (i + 1) ++ List.replicate d 0) ((i + 1 : Nat) : Int)) (fun k => ?_) (ih (i + 1) (by omega))
    have e : ((l.take i ++ List.replicate (d + 1) 0).set i l[i]) = l.take (i + 1) ++ List.replicate d 0 := by
      rw [List.set_append_right _ _ (by simp; omega)]
      simp only [List.length_take, Nat.min_eq_left (Nat.le_of_lt hlt), Nat.sub_self, List.replicate_succ, List.set_cons_zero]
      rw [List.take_succ_eq_append_getElem hlt, List.append_assoc]; rfl
    have z : (i : Int) < ((l.take i ++ List.replicate (d + 1) (0 : Int)).length : Int) := by simp only [List.length_append, List.length_take, List.length_replicate]; omega
    simp only [laws_toIntS.l0, rd_nat l i hlt, wrap_succ i (by omega), Int.toNat_natCast]
    rw [if_pos (by omega), if_pos (by omega), if_pos z, e]
theorem laws_toIntS_ev (l : List Int) (hl : l.length ≤ 1048576) : Ev (fun k => laws_toIntS.f k l) l := by
  unfold laws_toIntS.f
  have z1 : (0 : Int) ≤ (l.length : Int) := by omega
  have z2 : (l.length : Int).toNat ≤ 35184372088832 := by omega
  simp only [if_pos z1, if_pos z2]
  have := laws_toIntS_l0 l hl l.length 0 (by omega)
  simpa using this

theorem impl_within_eq (a b c : Int) : impl_within.f a b c = some (decide (b ≤ a ∧ a ≤ c)) := by
  unfold impl_within.f
  by_cases h : a ≥ b
  · rw [if_pos h]; congr 1; simp [show b ≤ a from h]
  · rw [if_neg h]; congr 1; simp; omega

theorem impl_isCode_eq (a b : Int) : impl_isCode.f a b = some (isC a b) := by
  unfold impl_isCode.f isC
  simp only [impl_within_eq, Option.bind_some]
  cases decide (1 ≤ a ∧ a ≤ 6) <;> rfl

theorem impl_isRising_l0 (l : List Int) (m : Int) (hm : 0 ≤ m ∧ m ≤ 100) (hl : l.length ≤ 1048576) : ∀ d i : Nat, i + d = l.length → Ev (fun k => impl_isRising.l0 k l m l (l.length : Int) (i : Int)) (rises m (ahead l i) (l.drop i)) := by
  have em : wrap64 (m - 1) = m - 1 := wrap_id (by omega) (by omega)
  intro d
  induction d with
  | zero =>
    intro i hi
    obtain rfl : i = l.length := by omega
    rw [List.drop_length]
    exact Ev.step (f := fun _ => some true) (fun k => by simp only [impl_isRising.l0]; rw [if_neg (by omega)]) (Ev.now _)
  | succ d ih =>
    intro i hi
    have hlt : i < l.length := by omega
    have hi' := ih (i + 1) (by omega)
    rw [ahead_succ l i hlt] at hi'
    rw [List.drop_eq_getElem_cons hlt]
    have go : ∀ (p : Bool), (p = decide (ahead l i < l[i] ∧ 0 ≤ l[i] ∧ l[i] < m)) → (∀ k, impl_isRising.l0 (k + 1) l m l (l.length : Int) (i : Int) = if p = true then impl_isRising.l0 k l m l (l.length : Int) ((i + 1 : Nat) : Int) else some false) → Ev (fun k => impl_isRising.l0 k l m l (l.length : Int) (i : Int)) (rises m (ahead l i) (l[i] :: l.drop (i + 1))) := by
      intro p hp h
      show Ev _ (decide (ahead l i < l[i] ∧ 0 ≤ l[i] ∧ l[i] < m) && rises m l[i] (l.drop (i + 1)))
      rw [← hp]
      cases p
      · exact Ev.step (f := fun _ => some false) (fun k => by rw [h]; rfl) (Ev.now _)
      · exact Ev.step (f := fun k => impl_isRising.l0 k l m l (l.length : Int) ((i + 1 : Nat) : Int)) (fun k => by rw [h]; rfl) hi'
    refine go _ rfl (fun k => ?_)
    simp only [impl_isRising.l0, rd_nat l i hlt, wrap_succ i (by omega), decide_eq_true_eq, impl_within_eq, em, Option.bind_some]
    rw [if_pos (by omega), if_pos (by omega), if_pos (by omega)]
    by_cases h1 : 0 ≤ l[i] ∧ l[i] ≤ m - 1
    · rw [if_pos h1]
      by_cases h3 : i = 0
      · subst h3
        rw [if_neg (by omega), if_pos ⟨by simp [ahead]; omega, by omega, by omega⟩]
      · rw [if_pos (by omega), ahead_rd l i (by omega) (by omega)]
        have e : wrap64 ((i : Int) - 1) = (i : Int) - 1 := wrap_id (by omega) (by omega)
        rw [e, if_pos (by omega), if_pos (by omega)]
        by_cases h4 : l[i] ≤ ahead l i
        · rw [if_pos h4, if_neg (by omega)]
        · rw [if_neg h4, if_pos ⟨by omega, by omega, by omega⟩]
    · rw [if_neg h1, if_neg (by omega)]
theorem impl_isRising_ev (l : List Int) (m : Int) (hm : 0 ≤ m ∧ m ≤ 100) (hl : l.length ≤ 1048576) : Ev (fun k => impl_isRising.f k l m) (rises m (-1) l) := impl_isRising_l0 l m hm hl l.length 0 (by omega)

theorem impl_CanDecode_ev (a b : Int) (l : List Int) (hl : l.length ≤ 1048576) : Ev (fun k => impl_CanDecode.f k a b l) (canV a b l) := by
  unfold impl_CanDecode.f canV
  simp only [impl_isCode_eq, Option.bind_some]
  cases h : isC a b
  · exact Ev.now _
  · have hb := isC_bd h
    have e : wrap64 (a + b) = a + b := wrap_id (by omega) (by omega)
    simp only [if_true, e, Bool.true_and]
    refine Ev.bind (f := fun _ (t : Bool) => if t = true then some (decide ((l.length : Int) ≤ b), true) else some (false, false)) (impl_isRising_ev l (a + b) (by omega) hl) ?_
    cases rises (a + b) (-1) l <;> exact Ev.now _

theorem laws_eqIntS_l0 (l m : List Int) (hlm : l.length = m.length) (hl : l.length ≤ 140737488351232) : ∀ d i : Nat, i + d = l.length → Ev (fun k => laws_eqIntS.l0 k l m (i : Int)) (decide (l.drop i = m.drop i)) := by
  intro d
  induction d with
  | zero =>
    intro i hi
    obtain rfl : i = l.length := by omega
    have e : decide (l.drop l.length = m.drop l.length) = true := by
      have e2 : m.drop l.length = [] := by rw [hlm, List.drop_length]
      rw [e2, List.drop_length]; rfl
    rw [e]
    exact Ev.step (f := fun _ => some true) (fun k => by simp only [laws_eqIntS.l0]; rw [if_neg (by omega)]) (Ev.now _)
  | succ d ih =>
    intro i hi
    have hlt : i < l.length := by omega
    have hlt2 : i < m.length := by omega
    rw [List.drop_eq_getElem_cons hlt, List.drop_eq_getElem_cons hlt2]
    by_cases e : l[i] = m[i]
    · have : decide (l[i] :: l.drop (i + 1) = m[i] :: m.drop (i + 1)) = decide (l.drop (i + 1) = m.drop (i + 1)) := by simp only [List.cons.injEq, e, true_and]
      rw [this]
      refine Ev.step (f := fun k => laws_eqIntS.l0 k l m ((i + 1 : Nat) : Int)) (fun k => ?_) (ih (i + 1) (by omega))
      simp only [laws_eqIntS.l0, rd_nat l i hlt, rd_nat m i hlt2, wrap_succ i (by omega)]
      rw [if_pos (by omega), if_pos (by omega), if_pos (by omega), if_pos e]
    · have : decide (l[i] :: l.drop (i + 1) = m[i] :: m.drop (i + 1)) = false := by simp only [List.cons.injEq, e, false_and, decide_false]
      rw [this]
      refine Ev.step (f := fun k => some false) (fun k => ?_) (Ev.now _)
      simp only [laws_eqIntS.l0, rd_nat l i hlt, rd_nat m i hlt2, wrap_succ i (by omega)]
      rw [if_pos (by omega), if_pos (by omega), if_pos (by omega), if_neg e]
theorem laws_eqIntS_ev (l m : List Int) (hl : l.length ≤ 140737488351232) : Ev (fun k => laws_eqIntS.f k l m) (decide (l = m)) := by
  unfold laws_eqIntS.f
  by_cases h : l.length = m.length
  · simp only [if_pos (show (l.length : Int) = (m.length : Int) by omega)]
    exact laws_eqIntS_l0 l m h hl l.length 0 (by omega)
  · simp only [if_neg (show ¬ (l.length : Int) = (m.length : Int) by omega)]
    have : decide (l = m) = false := by simp only [decide_eq_false_iff_not]; rintro rfl; exact h rfl
    rw [this]
    exact Ev.now _

theorem FnExactCanDecode : laws_FnExactCanDecode.Pure := by
  intro a b l _ _ _ _ _
  unfold laws_FnExactCanDecode.f
  by_cases h : (l.length : Int) > 1048576
  · exact ⟨0, by rw [if_pos h]⟩
  · simp only [if_neg h]
    have hl : l.length ≤ 1048576 := by omega
    have hj : Ev (fun k => laws_FnExactCanDecode.j0 k l l false) true := by
      refine Ev.step (f := fun k => (laws_toIntS.f k l).bind fun t => (laws_eqIntS.f k l t).bind fun t => if t = true then some true else some false) (fun k => by simp only [laws_FnExactCanDecode.j0]; rfl) ?_
      refine Ev.bind (f := fun k t => (laws_eqIntS.f k l t).bind fun t => if t = true then some true else some false) (laws_toIntS_ev l hl) ?_
      refine Ev.bind (f := fun _ t => if t = true then some true else some false) (laws_eqIntS_ev l l (by omega)) ?_
      simp only [decide_true, if_true]
      exact Ev.now _
    refine Ev.rounds (Ev.bind (f := fun k (t : List Int) => (spec_CanDecode.f k a b t).bind fun p => (laws_toIntS.f k l).bind fun u => (impl_CanDecode.f k a b u).bind fun q => if (q.1 != p.1) = true then laws_FnExactCanDecode.j0 k l u true else laws_FnExactCanDecode.j0 k l u (q.2 != p.2)) (laws_toIntS_ev l hl) ?_)
    refine Ev.bind (f := fun k (p : Bool × Bool) => (laws_toIntS.f k l).bind fun u => (impl_CanDecode.f k a b u).bind fun q => if (q.1 != p.1) = true then laws_FnExactCanDecode.j0 k l u true else laws_FnExactCanDecode.j0 k l u (q.2 != p.2)) (spec_CanDecode_ev a b l hl) ?_
    refine Ev.bind (f := fun k (u : List Int) => (impl_CanDecode.f k a b u).bind fun q => if (q.1 != (canV a b l).1) = true then laws_FnExactCanDecode.j0 k l u true else laws_FnExactCanDecode.j0 k l u (q.2 != (canV a b l).2)) (laws_toIntS_ev l hl) ?_
    refine Ev.bind (f := fun k (q : Bool × Bool) => if (q.1 != (canV a b l).1) = true then laws_FnExactCanDecode.j0 k l l true else laws_FnExactCanDecode.j0 k l l (q.2 != (canV a b l).2)) (impl_CanDecode_ev a b l hl) ?_
    simp only [bne_self_eq_false, Bool.false_eq_true, if_false]
    exact hj

end Go.Proofs.Ythaffjolcghkoaa.Pure
