/- DivPoly answers as the reference's DivPoly does, for all lists, leaves its lists as they were, and hands out memory of its own. No conditions beyond the row's own. -/
import Derived.Test.YtekadhniinpdfaaMFnExactDivPolyx6
import Derived.Test.YtekadhniinpdfaaBit
import Derived.Test.YtekadhniinpdfaaPoly
import Derived.Test.YtekadhniinpdfaaPev
set_option linter.unusedVariables false
set_option linter.unusedSimpArgs false
namespace Go.Proofs.Ytekadhniinpdfaa.Pure
open Go.RowKit Go.Proofs.Ytekadhniinpdfaa Go.Proofs.Ytekadhniinpdfaa.MFnExactDivPoly Go.Proofs.YtekadhniinpdfaaW.PrintWords Go.Proofs.YtekadhniinpdfaaW.PrintLast Go.Proofs.Ytekadhniinpdfaa.Bit

theorem impl_within_eq (a b c : Int) : impl_within.f a b c = some (decide (b ≤ a ∧ a ≤ c)) := by
  unfold impl_within.f
  by_cases h : a ≥ b
  · rw [if_pos h]; congr 1; simp [show b ≤ a from h]
  · rw [if_neg h]; congr 1; simp; omega

/-- Is a number an element? -/
def isB (a : Int) : Bool := decide (0 ≤ a ∧ a ≤ 255)
theorem isB_nat {a : Int} (h : isB a = true) : ∃ n : Nat, a = (n : Int) ∧ n < 256 := by
  simp only [isB, decide_eq_true_eq] at h
  exact ⟨a.toNat, by omega, by omega⟩
theorem isB_cast {n : Nat} (h : n < 256) : isB (n : Int) = true := by simp only [isB, decide_eq_true_eq]; omega

theorem impl_isGf_eq (a : Int) : impl_isGf.f a = some (isB a) := by
  unfold impl_isGf.f; rw [impl_within_eq]; rfl

theorem rd_nat (l : List Int) (i : Nat) (h : i < l.length) : rd l (i : Int) = l[i] := by
  unfold rd
  simp [List.getD_eq_getElem?_getD, List.getElem?_eq_getElem h]
theorem wrap_succ (i : Nat) (h : i < 9223372036854775807) : wrap64 ((i : Int) + 1) = ((i + 1 : Nat) : Int) := by rw [wrap_id (by omega) (by omega)]; omega

theorem laws_toIntS_l0 (l : List Int) (hl : l.length ≤ 1048576) : ∀ d i : Nat, i + d = l.length → Ev (fun k => laws_toIntS.l0 k l (l.take i ++ List.replicate d 0) (i : Int)) l := by
  intro d
  induction d with
  | zero =>
    intro i hi
    obtain rfl : i = l.length := by omega
    exact Ev.step (f := fun _ => some l) (fun k => by simp only [laws_toIntS.l0]; rw [if_neg (by omega)]; simp) (Ev.now _)
  | succ d ih =>
    intro i hi
    have hlt : i < l.length := by omega
    refine Ev.step (f := fun k => laws_toIntS.l0 k l (l.take (i + 1) ++ List.replicate d 0) ((i + 1 : Nat) : Int)) (fun k => ?_) (ih (i + 1) (by omega))
    have e : ((l.take i ++ List.replicate (d + 1) 0).set i l[i]) = l.take (i + 1) ++ List.replicate d 0 := by
      rw [List.set_append_right _ _ (by simp; omega)]
      simp only [List.length_take, Nat.min_eq_left (Nat.le_of_lt hlt), Nat.sub_self, List.replicate_succ, List.set_cons_zero]
      rw [List.take_succ_eq_append_getElem hlt, List.append_assoc]; rfl
    have z : (i : Int) < ((l.take i ++ List.replicate (d + 1) (0 : Int)).length : Int) := by simp only [List.length_append, List.length_take, List.length_replicate]; omega
    simp only [laws_toIntS.l0, rd_nat l i hlt, wrap_succ i (by omega), Int.toNat_natCast]
    rw [if_pos (by omega), if_pos (by omega), if_pos z, e]
theorem laws_toIntS_ev (l : List Int) (hl : l.length ≤ 1048576) : Ev (fun k => laws_toIntS.f k l) l := by
  unfold laws_toIntS.f
  have z1 : (0 : Int) ≤ (l.length : Int) := by omega
  have z2 : (l.length : Int).toNat ≤ 35184372088832 := by omega
  simp only [if_pos z1, if_pos z2]
  have := laws_toIntS_l0 l hl l.length 0 (by omega)
  simpa using this

theorem laws_eqIntS_l0 (l m : List Int) (hlm : l.length = m.length) (hl : l.length ≤ 140737488351232) : ∀ d i : Nat, i + d = l.length → Ev (fun k => laws_eqIntS.l0 k l m (i : Int)) (decide (l.drop i = m.drop i)) := by
  intro d
  induction d with
  | zero =>
    intro i hi
    obtain rfl : i = l.length := by omega
    have e : decide (l.drop l.length = m.drop l.length) = true := by
      have e2 : m.drop l.length = [] := by rw [hlm, List.drop_length]
      rw [e2, List.drop_length]; rfl
    rw [e]
    exact Ev.step (f := fun _ => some true) (fun k => by simp only [laws_eqIntS.l0]; rw [if_neg (by omega)]) (Ev.now _)
  | succ d ih =>
    intro i hi
    have hlt : i < l.length := by omega
    have hlt2 : i < m.length := by omega
    rw [List.drop_eq_getElem_cons hlt, List.drop_eq_getElem_cons hlt2]
    by_cases e : l[i] = m[i]
    · have : decide (l[i] :: l.drop (i + 1) = m[i] :: m.drop (i + 1)) = decide (l.drop (i + 1) = m.drop (i + 1)) := by simp only [List.cons.injEq, e, true_and]
      rw [this]
      refine Ev.step (f := fun k => laws_eqIntS.l0 k l m ((i + 1 : Nat) : Int)) (fun k => ?_) (ih (i + 1) (by omega))
      simp only [laws_eqIntS.l0, rd_nat l i hlt, rd_nat m i hlt2, wrap_succ i (by omega)]
      rw [if_pos (by omega), if_pos (by omega), if_pos (by omega), if_pos e]
    · have : decide (l[i] :: l.drop (i + 1) = m[i] :: m.drop (i + 1)) = false := by simp only [List.cons.injEq, e, false_and, decide_false]
      rw [this]
      refine Ev.step (f := fun k => some false) (fun k => ?_) (Ev.now _)
      simp only [laws_eqIntS.l0, rd_nat l i hlt, rd_nat m i hlt2, wrap_succ i (by omega)]
      rw [if_pos (by omega), if_pos (by omega), if_pos (by omega), if_neg e]
theorem laws_eqIntS_ev (l m : List Int) (hl : l.length ≤ 140737488351232) : Ev (fun k => laws_eqIntS.f k l m) (decide (l = m)) := by
  unfold laws_eqIntS.f
  by_cases h : l.length = m.length
  · simp only [if_pos (show (l.length : Int) = (m.length : Int) by omega)]
    exact laws_eqIntS_l0 l m h hl l.length 0 (by omega)
  · simp only [if_neg (show ¬ (l.length : Int) = (m.length : Int) by omega)]
    have : decide (l = m) = false := by simp only [decide_eq_false_iff_not]; rintro rfl; exact h rfl
    rw [this]
    exact Ev.now _

/-- The numbers m, m + 1, .., n of them. -/
def marks (m n : Nat) : List Int := (List.range n).map fun j => ((m + j : Nat) : Int)
theorem marks_length (m n : Nat) : (marks m n).length = n := by simp [marks]
theorem marks_succ (m n : Nat) : marks m (n + 1) = marks m n ++ [((m + n : Nat) : Int)] := by simp [marks, List.range_succ]
theorem marks_get (m n i : Nat) (h : i < (marks m n).length) : (marks m n)[i] = ((m + i : Nat) : Int) := by simp [marks]

theorem laws_markIntS_l0 (l : List Int) (m : Nat) (hl : l.length ≤ 1048576) (hm : m ≤ 1000000000) : ∀ d i : Nat, i + d = l.length → Ev (fun k => laws_markIntS.l0 k (marks m i ++ l.drop i) ((m + i : Nat) : Int) (i : Int)) (((m + l.length : Nat) : Int), marks m l.length) := by
  intro d
  induction d with
  | zero =>
    intro i hi
    obtain rfl : i = l.length := by omega
    refine Ev.step (f := fun _ => some (((m + l.length : Nat) : Int), marks m l.length)) (fun k => ?_) (Ev.now _)
    simp only [laws_markIntS.l0, List.drop_length, List.append_nil, marks_length]
    rw [if_neg (by omega)]
  | succ d ih =>
    intro i hi
    have hlt : i < l.length := by omega
    refine Ev.step (f := fun k => laws_markIntS.l0 k (marks m (i + 1) ++ l.drop (i + 1)) ((m + (i + 1) : Nat) : Int) ((i + 1 : Nat) : Int)) (fun k => ?_) (ih (i + 1) (by omega))
    have e : (marks m i ++ l.drop i).set i ((m + i : Nat) : Int) = marks m (i + 1) ++ l.drop (i + 1) := by
      rw [List.set_append_right _ _ (by rw [marks_length]; omega), marks_length, Nat.sub_self, List.drop_eq_getElem_cons hlt, List.set_cons_zero, marks_succ, List.append_assoc]
      rfl
    have hlen : (marks m i ++ l.drop i).length = l.length := by rw [List.length_append, marks_length, List.length_drop]; omega
    have e2 : wrap64 (((m + i : Nat) : Int) + 1) = ((m + (i + 1) : Nat) : Int) := by rw [wrap_id (by omega) (by omega)]; omega
    simp only [laws_markIntS.l0, hlen, Int.toNat_natCast, e, e2, wrap_succ i (by omega)]
    rw [if_pos (by omega), if_pos (by omega)]
theorem laws_markIntS_ev (l : List Int) (m : Nat) (hl : l.length ≤ 1048576) (hm : m ≤ 1000000000) : Ev (fun k => laws_markIntS.f k l (m : Int)) (((m + l.length : Nat) : Int), marks m l.length) := by
  have := laws_markIntS_l0 l m hl hm l.length 0 (by omega)
  simp only [marks, List.range_zero, List.map_nil, List.nil_append, List.drop_zero, Nat.add_zero] at this
  exact this

theorem laws_heldIntS_l0 (m n : Nat) (h : m + n ≤ 2000000000) : ∀ d i : Nat, i + d = n → Ev (fun k => laws_heldIntS.l0 k (marks m n) ((m + i : Nat) : Int) (i : Int)) ((m + n : Nat) : Int) := by
  intro d
  induction d with
  | zero =>
    intro i hi
    obtain rfl : i = n := by omega
    refine Ev.step (f := fun _ => some ((m + i : Nat) : Int)) (fun k => ?_) (Ev.now _)
    simp only [laws_heldIntS.l0, marks_length]
    rw [if_neg (by omega)]
  | succ d ih =>
    intro i hi
    refine Ev.step (f := fun k => laws_heldIntS.l0 k (marks m n) ((m + (i + 1) : Nat) : Int) ((i + 1 : Nat) : Int)) (fun k => ?_) (ih (i + 1) (by omega))
    have hlt : i < (marks m n).length := by rw [marks_length]; omega
    have e2 : wrap64 (((m + i : Nat) : Int) + 1) = ((m + (i + 1) : Nat) : Int) := by rw [wrap_id (by omega) (by omega)]; omega
    simp only [laws_heldIntS.l0, rd_nat _ i hlt, marks_get, marks_length, e2, wrap_succ i (by omega)]
    rw [if_pos (by omega), if_pos (by omega)]
    simp
theorem laws_heldIntS_ev (m n : Nat) (h : m + n ≤ 2000000000) : Ev (fun k => laws_heldIntS.f k (marks m n) (m : Int)) ((m + n : Nat) : Int) := laws_heldIntS_l0 m n h n 0 (by omega)

theorem spec_l1In_eq (a b c : Int) : spec_l1In.f a b c = some (decide (b ≤ a ∧ a ≤ c)) := by
  unfold spec_l1In.f
  by_cases h : a ≥ b
  · rw [if_pos h]; congr 1; simp [show b ≤ a from h]
  · rw [if_neg h]; congr 1; simp; omega

theorem spec_l1Gf_eq (a : Int) : spec_l1Gf.f a = some (isB a) := by
  unfold spec_l1Gf.f; rw [spec_l1In_eq]; rfl

theorem rd_get (l : List Int) (i : Nat) (h : i < l.length) : rd l (i : Int) = l[i] := by
  unfold rd
  simp [List.getD_eq_getElem?_getD, List.getElem?_eq_getElem h]
theorem wrap_up (i : Nat) (h : i < 9223372036854775807) : wrap64 ((i : Int) + 1) = ((i + 1 : Nat) : Int) := by rw [wrap_id (by omega) (by omega)]; omega
theorem wrap_down (a : Nat) (h : a ≤ 9223372036854775807) : wrap64 ((a : Int) - 1) = (a : Int) - 1 := wrap_id (by omega) (by omega)
theorem allB_up {l : List Int} (h : l.all isB = true) : ∃ m : List Nat, l = Poly.up m ∧ Poly.AllB m := by
  refine Poly.up_of fun x hx => ?_
  have := List.all_eq_true.1 h x hx
  simpa [isB] using this
theorem up_allB {m : List Nat} (h : Poly.AllB m) : (Poly.up m).all isB = true := by
  rw [List.all_eq_true]
  intro x hx
  have := Poly.up_bytes h x hx
  simp only [isB, decide_eq_true_eq]; omega

theorem spec_l1All_l0 (l : List Int) (hl : l.length ≤ 140737488351232) : ∀ d i : Nat, i + d = l.length → Ev (fun k => spec_l1All.l0 k l (l.length : Int) (i : Int)) ((l.drop i).all isB) := by
  intro d
  induction d with
  | zero =>
    intro i hi
    obtain rfl : i = l.length := by omega
    rw [List.drop_length]
    exact Ev.step (f := fun _ => some true) (fun k => by simp only [spec_l1All.l0]; rw [if_neg (by omega)]) (Ev.now _)
  | succ d ih =>
    intro i hi
    have hlt : i < l.length := by omega
    rw [List.drop_eq_getElem_cons hlt, List.all_cons]
    cases hb : isB l[i] with
    | true =>
      refine Ev.step (f := fun k => spec_l1All.l0 k l (l.length : Int) ((i + 1 : Nat) : Int)) (fun k => ?_) (ih (i + 1) (by omega))
      simp only [spec_l1All.l0, rd_get l i hlt, wrap_up i (by omega), spec_l1Gf_eq, hb, Option.bind_some, if_true]
      rw [if_pos (by omega), if_pos (by omega), if_pos (by omega)]
    | false =>
      refine Ev.step (f := fun _ => some false) (fun k => ?_) (Ev.now _)
      simp only [spec_l1All.l0, rd_get l i hlt, wrap_up i (by omega), spec_l1Gf_eq, hb, Option.bind_some]
      rw [if_pos (by omega), if_pos (by omega), if_pos (by omega)]; rfl
theorem spec_l1All_ev (l : List Int) (hl : l.length ≤ 140737488351232) : Ev (fun k => spec_l1All.f k l) (l.all isB) := spec_l1All_l0 l hl l.length 0 (by omega)

/-- Is a list a polynomial? -/
def isP (l : List Int) : Bool := decide (l.length ≤ 40) && (l.all isB && (decide (l.length = 0) || (rd l ((l.length : Int) - 1) != 0)))
theorem isP_up {l : List Int} (h : isP l = true) : ∃ m : List Nat, l = Poly.up m ∧ Poly.AllB m ∧ m.length ≤ 40 ∧ (m = [] ∨ m.getD (m.length - 1) 0 ≠ 0) := by
  unfold isP at h
  simp only [Bool.and_eq_true, Bool.or_eq_true, decide_eq_true_eq, bne_iff_ne] at h
  obtain ⟨h1, h2, h3⟩ := h
  obtain ⟨m, rfl, hm⟩ := allB_up h2
  rw [Poly.up_length] at h1 h3
  refine ⟨m, rfl, hm, h1, ?_⟩
  rcases h3 with h3 | h3
  · exact .inl (List.length_eq_zero_iff.1 h3)
  · by_cases h0 : m.length = 0
    · exact .inl (List.length_eq_zero_iff.1 h0)
    · refine .inr fun e => h3 ?_
      have : (m.length : Int) - 1 = ((m.length - 1 : Nat) : Int) := by omega
      rw [this, Poly.rd_up, e]; rfl
theorem up_isP {m : List Nat} (hm : Poly.AllB m) (hl : m.length ≤ 40) (h : m = [] ∨ m.getD (m.length - 1) 0 ≠ 0) : isP (Poly.up m) = true := by
  unfold isP
  simp only [Bool.and_eq_true, Bool.or_eq_true, decide_eq_true_eq, bne_iff_ne, Poly.up_length]
  refine ⟨hl, up_allB hm, ?_⟩
  by_cases h0 : m.length = 0
  · exact .inl h0
  · refine .inr fun e => ?_
    have e1 : (m.length : Int) - 1 = ((m.length - 1 : Nat) : Int) := by omega
    rw [e1, Poly.rd_up] at e
    rcases h with h | h
    · rw [h] at h0; exact h0 rfl
    · exact h (by omega)

theorem spec_l1Poly_ev (l : List Int) : Ev (fun k => spec_l1Poly.f k l) (isP l) := by
  unfold spec_l1Poly.f isP
  by_cases h1 : l.length ≤ 40
  · have z : (l.length : Int) ≤ 40 := by omega
    simp only [if_pos z, decide_eq_true h1, Bool.true_and]
    refine Ev.bind (spec_l1All_ev l (by omega)) ?_
    cases l.all isB
    · exact Ev.now _
    · by_cases h2 : l.length = 0
      · have z2 : (l.length : Int) = 0 := by omega
        simp only [if_true, if_pos z2, decide_eq_true h2, Bool.true_and, Bool.true_or]
        exact Ev.now _
      · have z2 : ¬ (l.length : Int) = 0 := by omega
        have z3 : (0 : Int) ≤ (l.length : Int) - 1 := by omega
        have z4 : (l.length : Int) - 1 < (l.length : Int) := by omega
        simp only [if_true, if_neg z2, decide_eq_false h2, Bool.true_and, Bool.false_or, wrap_down l.length (by omega), if_pos z3, if_pos z4]
        exact Ev.now _
  · have z : ¬ (l.length : Int) ≤ 40 := by omega
    simp only [if_neg z, decide_eq_false h1, Bool.false_and]
    exact Ev.now _

theorem spec_l1Mul_l0 : ∀ (n a b o : Nat), a < 256 → o < 256 → b < 2 ^ n → b < 2 ^ 63 → Ev (fun k => spec_l1Mul.l0 k (a : Int) (b : Int) (o : Int)) ((Gf.gmA n a b o : Nat) : Int) := by
  have stop : ∀ a o : Nat, Ev (fun k => spec_l1Mul.l0 k (a : Int) ((0 : Nat) : Int) (o : Int)) ((o : Nat) : Int) := fun a o =>
    Ev.step (f := fun _ => some ((o : Nat) : Int)) (fun k => by simp only [spec_l1Mul.l0]; rw [if_neg (by omega)]) (Ev.now _)
  intro n
  induction n with
  | zero =>
    intro a b o ha ho hb _
    obtain rfl : b = 0 := by simpa using hb
    exact stop a o
  | succ n ih =>
    intro a b o ha ho hb hb63
    by_cases h0 : b = 0
    · subst h0
      rw [Gf.gmA_zero]
      exact stop a o
    · have e1 : wrap64 ((a : Int) * 2) = ((a * 2 : Nat) : Int) := by rw [wrap_id (by omega) (by omega)]; omega
      have e2 : Go.bits .xor .i64 ((a * 2 : Nat) : Int) 285 = (((a * 2) ^^^ 285 : Nat) : Int) := xor_nat (a := a * 2) (b := 285) (by omega) (by decide)
      have e3 : Go.bits .xor .i64 (o : Int) (a : Int) = ((o ^^^ a : Nat) : Int) := xor_nat (by omega) (by omega)
      have e4 := and_one (a := b) hb63
      refine Ev.step (f := fun k => spec_l1Mul.l0 k ((Gf.xt a : Nat) : Int) ((b / 2 : Nat) : Int) (((if b % 2 = 1 then o ^^^ a else o) : Nat) : Int)) (fun k => ?_) (ih _ _ _ (Gf.xt_lt a ha) ?_ (by rw [Nat.pow_succ] at hb; omega) (by omega))
      · simp only [spec_l1Mul.l0, e1, e2, e3, e4, half_nat, Gf.xt]
        rw [if_pos (show (b : Int) > 0 by omega)]
        by_cases h1 : b % 2 = 1 <;> by_cases h2 : 255 < a * 2
        · rw [if_pos (show ((b % 2 : Nat) : Int) = 1 by omega), if_pos h1, if_pos (by omega), if_pos h2]
        · rw [if_pos (show ((b % 2 : Nat) : Int) = 1 by omega), if_pos h1, if_neg (by omega), if_neg h2]
        · rw [if_neg (show ¬ ((b % 2 : Nat) : Int) = 1 by omega), if_neg h1, if_pos (by omega), if_pos h2]
        · rw [if_neg (show ¬ ((b % 2 : Nat) : Int) = 1 by omega), if_neg h1, if_neg (by omega), if_neg h2]
      · split
        · exact Gf.xor_byte ho ha
        · exact ho
theorem spec_l1Mul_ev (a b : Nat) (ha : a < 256) (hb : b < 256) : Ev (fun k => spec_l1Mul.f k (a : Int) (b : Int)) ((Gf.gm a b : Nat) : Int) :=
  spec_l1Mul_l0 8 a b 0 ha (by decide) hb (by omega)

theorem spec_l1Pow_l0 : ∀ (f a n o : Nat), a < 256 → o < 256 → n < 2 ^ f → n < 2 ^ 63 → Ev (fun k => spec_l1Pow.l0 k (a : Int) (n : Int) (o : Int)) ((Gf.pwA f a n o : Nat) : Int) := by
  have stop : ∀ a o : Nat, Ev (fun k => spec_l1Pow.l0 k (a : Int) ((0 : Nat) : Int) (o : Int)) ((o : Nat) : Int) := fun a o =>
    Ev.step (f := fun _ => some ((o : Nat) : Int)) (fun k => by simp only [spec_l1Pow.l0]; rw [if_neg (by omega)]) (Ev.now _)
  have z : ∀ f a o, Gf.pwA f a 0 o = o := by
    intro f
    induction f with
    | zero => intro a o; rfl
    | succ f ih => intro a o; exact ih _ _
  intro f
  induction f with
  | zero =>
    intro a n o ha ho hn _
    obtain rfl : n = 0 := by simpa using hn
    exact stop a o
  | succ f ih =>
    intro a n o ha ho hn hn63
    by_cases h0 : n = 0
    · subst h0
      rw [z]
      exact stop a o
    · have e4 := and_one (a := n) hn63
      have hsq := Gf.gm_lt a ha
      by_cases h1 : n % 2 = 1
      · refine Ev.step (f := fun k => (spec_l1Mul.f k (o : Int) (a : Int)).bind fun t => (spec_l1Mul.f k (a : Int) (a : Int)).bind fun u => spec_l1Pow.l0 k u ((n / 2 : Nat) : Int) t) (fun k => ?_) ?_
        · simp only [spec_l1Pow.l0, e4, half_nat]
          rw [if_pos (show (n : Int) > 0 by omega), if_pos (show ((n % 2 : Nat) : Int) = 1 by omega)]
        · have := ih (Gf.gm a a) (n / 2) (Gf.gm o a) hsq (Gf.gm_lt a ho) (by rw [Nat.pow_succ] at hn; omega) (by omega)
          show Ev _ ((Gf.pwA f (Gf.gm a a) (n / 2) (if n % 2 = 1 then Gf.gm o a else o) : Nat) : Int)
          rw [if_pos h1]
          exact Ev.bind (f := fun k t => (spec_l1Mul.f k (a : Int) (a : Int)).bind fun u => spec_l1Pow.l0 k u ((n / 2 : Nat) : Int) t) (spec_l1Mul_ev o a ho ha) (Ev.bind (f := fun k u => spec_l1Pow.l0 k u ((n / 2 : Nat) : Int) ((Gf.gm o a : Nat) : Int)) (spec_l1Mul_ev a a ha ha) this)
      · refine Ev.step (f := fun k => (spec_l1Mul.f k (a : Int) (a : Int)).bind fun u => spec_l1Pow.l0 k u ((n / 2 : Nat) : Int) (o : Int)) (fun k => ?_) ?_
        · simp only [spec_l1Pow.l0, e4, half_nat]
          rw [if_pos (show (n : Int) > 0 by omega), if_neg (show ¬ ((n % 2 : Nat) : Int) = 1 by omega)]
        · have := ih (Gf.gm a a) (n / 2) o hsq ho (by rw [Nat.pow_succ] at hn; omega) (by omega)
          show Ev _ ((Gf.pwA f (Gf.gm a a) (n / 2) (if n % 2 = 1 then Gf.gm o a else o) : Nat) : Int)
          rw [if_neg h1]
          exact Ev.bind (f := fun k u => spec_l1Pow.l0 k u ((n / 2 : Nat) : Int) (o : Int)) (spec_l1Mul_ev a a ha ha) this
theorem spec_l1Pow_ev (a n : Nat) (ha : a < 256) (hn : n < 2 ^ 62) : Ev (fun k => spec_l1Pow.f k (a : Int) (n : Int)) ((Gf.pw a n : Nat) : Int) := by
  have := spec_l1Pow_l0 62 a n 1 ha (by decide) hn (by omega)
  rw [Gf.pwA_eq 62 a n 1 ha (by decide) hn, Gf.one_gm _ (Gf.pw_lt n)] at this
  exact this

theorem spec_l1Div_ev (a b : Nat) (ha : a < 256) (hb : b < 256) : Ev (fun k => spec_l1Div.f k (a : Int) (b : Int)) ((Gf.gm a (Gf.gi b) : Nat) : Int) := by
  unfold spec_l1Div.f
  refine Ev.bind (f := fun k t => (spec_l1Mul.f k (a : Int) t).bind fun u => some u) (spec_l1Pow_ev b 254 hb (by decide)) ?_
  exact Ev.bind (f := fun _ u => some u) (spec_l1Mul_ev a (Gf.gi b) ha (Gf.gi_lt b)) (Ev.now _)

theorem xor_up {a b : Nat} (ha : a < 256) (hb : b < 256) : Go.bits .xor .i64 (a : Int) (b : Int) = ((a ^^^ b : Nat) : Int) := xor_nat (by omega) (by omega)
theorem wrap_nat (n : Nat) (h : n ≤ 9223372036854775807) : wrap64 (n : Int) = (n : Int) := wrap_id (by omega) (by omega)
theorem wrap_add (a b : Nat) (h : a + b ≤ 9223372036854775807) : wrap64 ((a : Int) + (b : Int)) = ((a + b : Nat) : Int) := by rw [wrap_id (by omega) (by omega)]; omega
theorem wrap_pred (a : Nat) (h : a ≤ 9223372036854775807) (h0 : 0 < a) : wrap64 ((a : Int) - 1) = ((a - 1 : Nat) : Int) := by rw [wrap_id (by omega) (by omega)]; omega

theorem spec_l1Cut_l0 (l : List Nat) (hl : l.length ≤ 1000000) : ∀ n, n ≤ l.length → Ev (fun k => spec_l1Cut.l0 k (Poly.up (l.take n))) (Poly.up (Poly.trN l n)) := by
  intro n
  induction n with
  | zero =>
    intro _
    refine Ev.step (f := fun _ => some (Poly.up (Poly.trN l 0))) (fun k => ?_) (Ev.now _)
    simp only [spec_l1Cut.l0, List.take_zero, Poly.up_length, Option.bind_some]
    rw [if_neg (by simp), if_pos (by simp)]
    rfl
  | succ n ih =>
    intro hn
    have hlen : (Poly.up (l.take (n + 1))).length = n + 1 := by rw [Poly.up_length, List.length_take]; omega
    have hw : wrap64 (((n + 1 : Nat) : Int) - 1) = (n : Int) := by rw [wrap_pred _ (by omega) (by omega)]; rfl
    have hr : rd (Poly.up (l.take (n + 1))) (n : Int) = ((l.getD n 0 : Nat) : Int) := by
      rw [Poly.rd_up]
      simp only [List.getD_eq_getElem?_getD]
      rw [List.getElem?_take_of_lt (by omega)]
    unfold Poly.trN
    by_cases h : l.getD n 0 = 0
    · rw [if_pos h]
      refine Ev.step (f := fun k => spec_l1Cut.l0 k (Poly.up (l.take n))) (fun k => ?_) (ih (by omega))
      simp only [spec_l1Cut.l0, hlen, hw, hr, h]
      rw [if_pos (by omega), if_pos (by omega), if_pos (by omega), if_pos (by omega), if_pos (by omega), Int.toNat_natCast, Poly.up_take, List.take_take, Nat.min_eq_left (by omega)]
    · rw [if_neg h]
      refine Ev.step (f := fun _ => some (Poly.up (l.take (n + 1)))) (fun k => ?_) (Ev.now _)
      simp only [spec_l1Cut.l0, hlen, hw, hr, Option.bind_some]
      rw [if_pos (by omega), if_pos (by omega), if_pos (by omega), if_neg (by omega), if_pos (by simp; omega)]
      rfl
theorem spec_l1Cut_ev (l : List Nat) (hl : l.length ≤ 1000000) : Ev (fun k => spec_l1Cut.f k (Poly.up l)) (Poly.up (Poly.tr l)) := by
  have := spec_l1Cut_l0 l hl l.length (Nat.le_refl _)
  rw [List.take_length] at this
  exact this

theorem wrap_sub (a b : Nat) (h : b ≤ a) (h2 : a ≤ 9223372036854775807) : wrap64 ((a : Int) - (b : Int)) = ((a - b : Nat) : Int) := by rw [wrap_id (by omega) (by omega)]; omega
theorem wrap_two (a : Nat) (h : a ≤ 1000000) : wrap64 (2 * (a : Int)) = ((2 * a : Nat) : Int) := by rw [wrap_id (by omega) (by omega)]; omega
theorem wrap_addn (a b : Nat) (h : a + b ≤ 9223372036854775807) : wrap64 ((a : Int) + (b : Int)) = ((a + b : Nat) : Int) := by rw [wrap_id (by omega) (by omega)]; omega
theorem drop_getD (l : List Nat) (i : Nat) (h : i < l.length) : l.drop i = l.getD i 0 :: l.drop (i + 1) := by
  rw [List.drop_eq_getElem_cons h]
  simp [List.getD_eq_getElem?_getD, List.getElem?_eq_getElem h]

/-- What EvalGf answers. -/
def evalV (l : List Int) (a : Int) : Int × Bool := if isP l && isB a then (((Poly.gev (l.map Int.toNat) a.toNat : Nat) : Int), true) else (0, false)
theorem toNat_up (m : List Nat) : (Poly.up m).map Int.toNat = m := by
  unfold Poly.up
  rw [List.map_map]
  conv => rhs; rw [← List.map_id m]
  exact List.map_congr_left fun x _ => by simp

/-- The steps of the reference's division: the quotient's list is as long as p. -/
def divS (p q : List Nat) : List Nat × List Nat := Poly.dvA q (Gf.gi (q.getD (q.length - 1) 0)) (p.length + 1 - q.length) (List.replicate p.length 0) p
/-- The steps of the program's division. -/
def divI (p q : List Nat) : List Nat × List Nat := Poly.dvA q (Gf.gi (q.getD (q.length - 1) 0)) (p.length + 1 - q.length) (List.replicate (p.length + 1 - q.length) 0) p
theorem dvA_more (q : List Nat) (inv m : Nat) : ∀ (i : Nat) (quo rest : List Nat), i ≤ quo.length → Poly.dvA q inv i (quo ++ List.replicate m 0) rest = ((Poly.dvA q inv i quo rest).1 ++ List.replicate m 0, (Poly.dvA q inv i quo rest).2)
  | 0, _, _, _ => rfl
  | i + 1, quo, rest, h => by
    unfold Poly.dvA
    rw [List.set_append_left _ _ (by omega)]
    exact dvA_more q inv m i _ _ (by rw [List.length_set]; omega)
theorem div_same (p q : List Nat) (hq : 0 < q.length) : Poly.tr (divS p q).1 = Poly.tr (divI p q).1 ∧ (divS p q).2 = (divI p q).2 := by
  have e : List.replicate p.length 0 = List.replicate (p.length + 1 - q.length) 0 ++ List.replicate (p.length - (p.length + 1 - q.length)) 0 := by
    rw [List.replicate_append_replicate]; congr 1; omega
  have h := dvA_more q (Gf.gi (q.getD (q.length - 1) 0)) (p.length - (p.length + 1 - q.length)) (p.length + 1 - q.length) (List.replicate (p.length + 1 - q.length) 0) p (by rw [List.length_replicate]; exact Nat.le_refl _)
  unfold divS divI
  rw [e, h]
  exact ⟨Poly.tr_zeros _ _, rfl⟩
/-- What DivPoly answers. -/
def divPV (l m : List Int) : List Int × List Int × Bool := if isP l && isP m && decide (0 < m.length) then (Poly.up (Poly.tr (divI (l.map Int.toNat) (m.map Int.toNat)).1), Poly.up (Poly.tr (divI (l.map Int.toNat) (m.map Int.toNat)).2), true) else ([], [], false)
theorem divPV_length (l m : List Int) : (divPV l m).1.length ≤ 41 ∧ (divPV l m).2.1.length ≤ 41 := by
  unfold divPV
  split
  · rename_i h
    simp only [Bool.and_eq_true, decide_eq_true_eq] at h
    obtain ⟨p, rfl, hp, hpl, _⟩ := isP_up h.1.1
    have h1 := Poly.tr_length (divI p (m.map Int.toNat)).1
    have h2 := Poly.tr_length (divI p (m.map Int.toNat)).2
    have h3 := Pev.dvA_length (m.map Int.toNat) (Gf.gi ((m.map Int.toNat).getD ((m.map Int.toNat).length - 1) 0)) (p.length + 1 - (m.map Int.toNat).length) (List.replicate (p.length + 1 - (m.map Int.toNat).length) 0) p
    simp only [Poly.up_length, toNat_up]
    unfold divI at h1 h2 ⊢
    rw [h3.1, List.length_replicate] at h1
    rw [h3.2] at h2
    omega
  · simp

theorem spec_DivPoly_l (q : List Nat) (hq : Poly.AllB q) (hq0 : 0 < q.length) (hql : q.length ≤ 1000) : ∀ (n : Nat) (quo rest : List Nat), Poly.AllB quo → Poly.AllB rest → n ≤ quo.length → n + q.length ≤ rest.length + 1 → quo.length ≤ 5000 → rest.length ≤ 5000 →
    Ev (fun r => spec_DivPoly.l0 r (Poly.up q) (Poly.up rest) (Poly.up quo) ((q.getD (q.length - 1) 0 : Nat) : Int) ((n : Int) - 1)) (Poly.up (Poly.tr (Poly.dvA q (Gf.gi (q.getD (q.length - 1) 0)) n quo rest).1), Poly.up (Poly.tr (Poly.dvA q (Gf.gi (q.getD (q.length - 1) 0)) n quo rest).2), true) := by
  have ht := Pev.getD_lt hq (q.length - 1)
  intro n
  induction n with
  | zero =>
    intro quo rest h1 h2 _ _ h5 h6
    have z : ¬ (((0 : Nat) : Int) - 1 ≥ 0) := by omega
    refine Ev.step (fun k => spec_DivPoly.l0.eq_2 _ _ _ _ _ k) ?_
    simp only [if_neg z]
    exact Ev.bind (spec_l1Cut_ev quo (by omega)) (Ev.bind (spec_l1Cut_ev rest (by omega)) (Ev.now _))
  | succ n ih =>
    intro quo rest h1 h2 h3 h4 h5 h6
    have e0 : ((n + 1 : Nat) : Int) - 1 = (n : Int) := by omega
    have e1 : wrap64 (wrap64 ((n : Int) + (q.length : Int)) - 1) = ((n + q.length - 1 : Nat) : Int) := by rw [wrap_addn _ _ (by omega), wrap_id (by omega) (by omega)]; omega
    have z1 : (n : Int) ≥ 0 := by omega
    have z2 : (0 : Int) ≤ ((n + q.length - 1 : Nat) : Int) := by omega
    have z3 : ((n + q.length - 1 : Nat) : Int) < (rest.length : Int) := by omega
    have z4 : (0 : Int) ≤ (n : Int) := by omega
    have z5 : (n : Int) < (quo.length : Int) := by omega
    have hf := Gf.gm_lt (Gf.gi (q.getD (q.length - 1) 0)) (Pev.getD_lt h2 (n + q.length - 1))
    rw [e0]
    refine Ev.step (fun k => spec_DivPoly.l0.eq_2 _ _ _ _ _ k) ?_
    simp only [Poly.up_length, Poly.rd_up, e1, if_pos z1, if_pos z2, if_pos z3, if_pos z4, if_pos z5, Int.toNat_natCast]
    refine Ev.bind (spec_l1Div_ev _ _ (Pev.getD_lt h2 (n + q.length - 1)) ht) ?_
    unfold Poly.dvA
    generalize Gf.gm (rest.getD (n + q.length - 1) 0) (Gf.gi (q.getD (q.length - 1) 0)) = f at hf ⊢
    rw [Poly.up_set]
    have inner : ∀ (d j : Nat) (out : List Nat), j + d = q.length → Poly.AllB out → out.length = rest.length → 
        Poly.mrow f (q.drop j) (n + j) out = Poly.mrow f q n rest → Ev (fun r => spec_DivPoly.l1 r (Poly.up q) (Poly.up out) (Poly.up (quo.set n f)) ((q.getD (q.length - 1) 0 : Nat) : Int) (n : Int) (f : Int) (Poly.up q) (q.length : Int) (j : Int)) (Poly.up (Poly.tr (Poly.dvA q (Gf.gi (q.getD (q.length - 1) 0)) n (quo.set n f) (Poly.mrow f q n rest)).1), Poly.up (Poly.tr (Poly.dvA q (Gf.gi (q.getD (q.length - 1) 0)) n (quo.set n f) (Poly.mrow f q n rest)).2), true) := by
      intro d
      induction d with
      | zero =>
        intro j out hj ho hl he
        obtain rfl : j = q.length := by omega
        rw [List.drop_length] at he
        have he' : out = Poly.mrow f q n rest := he
        have z : ¬ ((q.length : Nat) : Int) < ((q.length : Nat) : Int) := by omega
        refine Ev.step (fun k => spec_DivPoly.l1.eq_2 _ _ _ _ _ _ _ _ _ k) ?_
        simp only [if_neg z, wrap_down n (by omega)]
        rw [← he']
        exact ih (quo.set n f) out (Poly.AllB.set h1 n hf) ho (by rw [List.length_set]; omega) (by omega) (by rw [List.length_set]; omega) (by omega)
      | succ d ihd =>
        intro j out hj ho hl he
        have hjl : j < q.length := by omega
        have y1 : (j : Int) < (q.length : Int) := by omega
        have y2 : (0 : Int) ≤ (j : Int) := by omega
        have y3 : (0 : Int) ≤ ((n + j : Nat) : Int) := by omega
        have y4 : ((n + j : Nat) : Int) < (out.length : Int) := by omega
        refine Ev.step (fun k => spec_DivPoly.l1.eq_2 _ _ _ _ _ _ _ _ _ k) ?_
        simp only [Poly.up_length, Poly.rd_up, if_pos y1, if_pos y2, wrap_addn n j (by omega), if_pos y3, if_pos y4, wrap_up j (by omega), Int.toNat_natCast]
        refine Ev.bind (spec_l1Mul_ev f (q.getD j 0) hf (hq.get j)) ?_
        rw [xor_up (ho.get (n + j)) (Gf.gm_lt (q.getD j 0) hf), Poly.up_set]
        refine ihd (j + 1) (out.set (n + j) (out.getD (n + j) 0 ^^^ Gf.gm f (q.getD j 0))) (by omega) (ho.set _ (Gf.xor_byte (ho.get _) (Gf.gm_lt _ hf))) (by rw [List.length_set]; exact hl) ?_
        rw [← he, drop_getD q j hjl, show n + (j + 1) = n + j + 1 by omega]
        rfl
    exact inner q.length 0 rest (by omega) h2 rfl (by rw [List.drop_zero, Nat.add_zero])
theorem spec_DivPoly_ev (l m : List Int) : Ev (fun k => spec_DivPoly.f k l m) (divPV l m) := by
  have no : Ev (fun k => spec_DivPoly.j0 k l m true) (([] : List Int), ([] : List Int), false) := Ev.step (f := fun _ => some (([] : List Int), ([] : List Int), false)) (fun k => by simp only [spec_DivPoly.j0]; rfl) (Ev.now _)
  unfold spec_DivPoly.f divPV
  refine Ev.bind (spec_l1Poly_ev l) ?_
  cases h1 : isP l
  · exact no
  · simp only [if_true]
    refine Ev.bind (spec_l1Poly_ev m) ?_
    cases h2 : isP m
    · exact no
    · by_cases h3 : 0 < m.length
      · obtain ⟨p, rfl, hp, hpl, _⟩ := isP_up h1
        obtain ⟨q, rfl, hq, hql, _⟩ := isP_up h2
        rw [Poly.up_length] at h3
        have z0 : (((q.length : Nat) : Int) == 0) = false := beq_eq_false_iff_ne.2 (by omega)
        have z1 : ([] : List Int).length + (Poly.up p).length < 17592186044416 := by rw [Poly.up_length]; simp; omega
        have z2 : (0 : Int) ≤ (p.length : Int) := by omega
        have z3 : (p.length : Int).toNat ≤ 35184372088832 := by omega
        have z4 : (0 : Int) ≤ ((q.length - 1 : Nat) : Int) := by omega
        have z5 : ((q.length - 1 : Nat) : Int) < (q.length : Int) := by omega
        have e2 : wrap64 ((q.length : Int) - 1) = ((q.length - 1 : Nat) : Int) := by rw [wrap_id (by omega) (by omega)]; omega
        simp only [if_true, Bool.and_self, Poly.up_length, h3, decide_true, toNat_up, z0]
        refine Ev.step (f := fun r => spec_DivPoly.l0 r (Poly.up q) (Poly.up p) (Poly.up (List.replicate p.length 0)) ((q.getD (q.length - 1) 0 : Nat) : Int) (wrap64 ((p.length : Int) - (q.length : Int)))) (fun r => ?_) ?_
        · rw [spec_DivPoly.j0.eq_2, if_neg (by decide), Option.bind_some, if_pos z1, Poly.up_length, if_pos z2, if_pos z3, Poly.up_length, e2, if_pos z4, if_pos z5, Poly.rd_up, List.nil_append, Int.toNat_natCast, Poly.up_zeros]
        · have hsm := div_same p q h3
          rw [← hsm.1, ← hsm.2]
          unfold divS
          by_cases h4 : q.length ≤ p.length + 1
          · have e3 : wrap64 ((p.length : Int) - (q.length : Int)) = ((p.length + 1 - q.length : Nat) : Int) - 1 := by rw [wrap_id (by omega) (by omega)]; omega
            rw [e3]
            exact spec_DivPoly_l q hq h3 (by omega) (p.length + 1 - q.length) _ p (Poly.AllB.zeros _) hp (by rw [List.length_replicate]; omega) (by omega) (by rw [List.length_replicate]; omega) (by omega)
          · have e4 : p.length + 1 - q.length = 0 := by omega
            rw [e4]
            have z6 : ¬ (wrap64 ((p.length : Int) - (q.length : Int)) ≥ 0) := by rw [wrap_id (by omega) (by omega)]; omega
            refine Ev.step (fun k => spec_DivPoly.l0.eq_2 _ _ _ _ _ k) ?_
            simp only [if_neg z6]
            exact Ev.bind (spec_l1Cut_ev _ (by rw [List.length_replicate]; omega)) (Ev.bind (spec_l1Cut_ev p (by omega)) (Ev.now _))
      · have z0 : (((m.length : Nat) : Int) == 0) = true := by rw [beq_iff_eq]; omega
        simp only [if_true, z0, h3, decide_false, Bool.and_false]
        exact no

theorem impl_areGf_eq (l : List Int) : impl_areGf.f l = some (l.all isB) := by
  unfold impl_areGf.f
  have e : impl_areGf.bad = fun n => !isB n := by
    funext n
    simp only [impl_areGf.bad, isB]
  rw [e, List.all_eq_not_any_not]

theorem impl_isPoly_eq (l : List Int) : impl_isPoly.f l = some (isP l) := by
  unfold impl_isPoly.f isP
  by_cases h1 : l.length ≤ 40
  · have z : (l.length : Int) ≤ 40 := by omega
    simp only [if_pos z, decide_eq_true h1, Bool.true_and, impl_areGf_eq, Option.bind_some]
    cases l.all isB
    · rfl
    · by_cases h2 : l.length = 0
      · have z2 : (l.length : Int) = 0 := by omega
        simp only [if_true, if_pos z2, decide_eq_true h2, Bool.true_and, Bool.true_or]
      · have z2 : ¬ (l.length : Int) = 0 := by omega
        have z3 : (0 : Int) ≤ (l.length : Int) - 1 := by omega
        have z4 : (l.length : Int) - 1 < (l.length : Int) := by omega
        simp only [if_true, if_neg z2, decide_eq_false h2, Bool.true_and, Bool.false_or, wrap_down l.length (by omega), if_pos z3, if_pos z4]
  · have z : ¬ (l.length : Int) ≤ 40 := by omega
    simp only [if_neg z, decide_eq_false h1, Bool.false_and]



theorem impl_mul_l0 : ∀ (n a b o : Nat), a < 256 → o < 256 → b < 2 ^ n → b < 2 ^ 63 → Ev (fun k => impl_mul.l0 k (a : Int) (b : Int) (o : Int)) ((Gf.gmA n a b o : Nat) : Int) := by
  have stop : ∀ a o : Nat, Ev (fun k => impl_mul.l0 k (a : Int) ((0 : Nat) : Int) (o : Int)) ((o : Nat) : Int) := fun a o =>
    Ev.step (f := fun _ => some ((o : Nat) : Int)) (fun k => by simp only [impl_mul.l0]; rw [if_neg (by omega)]) (Ev.now _)
  intro n
  induction n with
  | zero =>
    intro a b o ha ho hb _
    obtain rfl : b = 0 := by simpa using hb
    exact stop a o
  | succ n ih =>
    intro a b o ha ho hb hb63
    by_cases h0 : b = 0
    · subst h0
      rw [Gf.gmA_zero]
      exact stop a o
    · have e1 : wrap64 ((a : Int) * 2) = ((a * 2 : Nat) : Int) := by rw [wrap_id (by omega) (by omega)]; omega
      have e2 : Go.bits .xor .i64 ((a * 2 : Nat) : Int) 285 = (((a * 2) ^^^ 285 : Nat) : Int) := xor_nat (a := a * 2) (b := 285) (by omega) (by decide)
      have e3 : Go.bits .xor .i64 (o : Int) (a : Int) = ((o ^^^ a : Nat) : Int) := xor_nat (by omega) (by omega)
      have e4 := and_one (a := b) hb63
      refine Ev.step (f := fun k => impl_mul.l0 k ((Gf.xt a : Nat) : Int) ((b / 2 : Nat) : Int) (((if b % 2 = 1 then o ^^^ a else o) : Nat) : Int)) (fun k => ?_) (ih _ _ _ (Gf.xt_lt a ha) ?_ (by rw [Nat.pow_succ] at hb; omega) (by omega))
      · simp only [impl_mul.l0, e1, e2, e3, e4, half_nat, Gf.xt]
        rw [if_pos (show (b : Int) > 0 by omega)]
        by_cases h1 : b % 2 = 1 <;> by_cases h2 : 255 < a * 2
        · rw [if_pos (show ((b % 2 : Nat) : Int) = 1 by omega), if_pos h1, if_pos (by omega), if_pos h2]
        · rw [if_pos (show ((b % 2 : Nat) : Int) = 1 by omega), if_pos h1, if_neg (by omega), if_neg h2]
        · rw [if_neg (show ¬ ((b % 2 : Nat) : Int) = 1 by omega), if_neg h1, if_pos (by omega), if_pos h2]
        · rw [if_neg (show ¬ ((b % 2 : Nat) : Int) = 1 by omega), if_neg h1, if_neg (by omega), if_neg h2]
      · split
        · exact Gf.xor_byte ho ha
        · exact ho
theorem impl_mul_ev (a b : Nat) (ha : a < 256) (hb : b < 256) : Ev (fun k => impl_mul.f k (a : Int) (b : Int)) ((Gf.gm a b : Nat) : Int) :=
  impl_mul_l0 8 a b 0 ha (by decide) hb (by omega)

theorem impl_trimmed_l0 (l : List Nat) (hl : l.length ≤ 1000000) : ∀ n, n ≤ l.length → Ev (fun k => impl_trimmed.l0 k (Poly.up l) (n : Int)) (Poly.up (Poly.trN l n)) := by
  intro n
  induction n with
  | zero =>
    intro _
    refine Ev.step (f := fun _ => some (Poly.up (Poly.trN l 0))) (fun k => ?_) (Ev.now _)
    simp only [impl_trimmed.l0, Poly.up_length]
    rw [if_neg (by omega), if_pos (by omega), if_pos (by omega)]
    rfl
  | succ n ih =>
    intro hn
    have hw : wrap64 (((n + 1 : Nat) : Int) - 1) = (n : Int) := by rw [wrap_pred _ (by omega) (by omega)]; rfl
    unfold Poly.trN
    by_cases h : l.getD n 0 = 0
    · rw [if_pos h]
      refine Ev.step (f := fun k => impl_trimmed.l0 k (Poly.up l) (n : Int)) (fun k => ?_) (ih (by omega))
      simp only [impl_trimmed.l0, Poly.up_length, hw, Poly.rd_up, h]
      rw [if_pos (by omega), if_pos (by omega), if_pos (by omega), if_pos (by omega)]
    · rw [if_neg h]
      refine Ev.step (f := fun _ => some (Poly.up (l.take (n + 1)))) (fun k => ?_) (Ev.now _)
      simp only [impl_trimmed.l0, Poly.up_length, hw, Poly.rd_up]
      rw [if_pos (by omega), if_pos (by omega), if_pos (by omega), if_neg (by omega), if_pos (by omega), if_pos (by omega), Int.toNat_natCast, Poly.up_take]
theorem impl_trimmed_ev (l : List Nat) (hl : l.length ≤ 1000000) : Ev (fun k => impl_trimmed.f k (Poly.up l)) (Poly.up (Poly.tr l)) := by
  have := impl_trimmed_l0 l hl l.length (Nat.le_refl _)
  unfold impl_trimmed.f
  rw [Poly.up_length]
  exact this

theorem impl_pow_l0 : ∀ (f a n o : Nat), a < 256 → o < 256 → n < 2 ^ f → n < 2 ^ 63 → Ev (fun k => impl_pow.l0 k (a : Int) (n : Int) (o : Int)) ((Gf.pwA f a n o : Nat) : Int) := by
  have stop : ∀ a o : Nat, Ev (fun k => impl_pow.l0 k (a : Int) ((0 : Nat) : Int) (o : Int)) ((o : Nat) : Int) := fun a o =>
    Ev.step (f := fun _ => some ((o : Nat) : Int)) (fun k => by simp only [impl_pow.l0]; rw [if_neg (by omega)]) (Ev.now _)
  have z : ∀ f a o, Gf.pwA f a 0 o = o := by
    intro f
    induction f with
    | zero => intro a o; rfl
    | succ f ih => intro a o; exact ih _ _
  intro f
  induction f with
  | zero =>
    intro a n o ha ho hn _
    obtain rfl : n = 0 := by simpa using hn
    exact stop a o
  | succ f ih =>
    intro a n o ha ho hn hn63
    by_cases h0 : n = 0
    · subst h0
      rw [z]
      exact stop a o
    · have e4 := and_one (a := n) hn63
      have hsq := Gf.gm_lt a ha
      by_cases h1 : n % 2 = 1
      · refine Ev.step (f := fun k => (impl_mul.f k (o : Int) (a : Int)).bind fun t => (impl_mul.f k (a : Int) (a : Int)).bind fun u => impl_pow.l0 k u ((n / 2 : Nat) : Int) t) (fun k => ?_) ?_
        · simp only [impl_pow.l0, e4, half_nat]
          rw [if_pos (show (n : Int) > 0 by omega), if_pos (show ((n % 2 : Nat) : Int) = 1 by omega)]
        · have := ih (Gf.gm a a) (n / 2) (Gf.gm o a) hsq (Gf.gm_lt a ho) (by rw [Nat.pow_succ] at hn; omega) (by omega)
          show Ev _ ((Gf.pwA f (Gf.gm a a) (n / 2) (if n % 2 = 1 then Gf.gm o a else o) : Nat) : Int)
          rw [if_pos h1]
          exact Ev.bind (f := fun k t => (impl_mul.f k (a : Int) (a : Int)).bind fun u => impl_pow.l0 k u ((n / 2 : Nat) : Int) t) (impl_mul_ev o a ho ha) (Ev.bind (f := fun k u => impl_pow.l0 k u ((n / 2 : Nat) : Int) ((Gf.gm o a : Nat) : Int)) (impl_mul_ev a a ha ha) this)
      · refine Ev.step (f := fun k => (impl_mul.f k (a : Int) (a : Int)).bind fun u => impl_pow.l0 k u ((n / 2 : Nat) : Int) (o : Int)) (fun k => ?_) ?_
        · simp only [impl_pow.l0, e4, half_nat]
          rw [if_pos (show (n : Int) > 0 by omega), if_neg (show ¬ ((n % 2 : Nat) : Int) = 1 by omega)]
        · have := ih (Gf.gm a a) (n / 2) o hsq ho (by rw [Nat.pow_succ] at hn; omega) (by omega)
          show Ev _ ((Gf.pwA f (Gf.gm a a) (n / 2) (if n % 2 = 1 then Gf.gm o a else o) : Nat) : Int)
          rw [if_neg h1]
          exact Ev.bind (f := fun k u => impl_pow.l0 k u ((n / 2 : Nat) : Int) (o : Int)) (impl_mul_ev a a ha ha) this
theorem impl_pow_ev (a n : Nat) (ha : a < 256) (hn : n < 2 ^ 62) : Ev (fun k => impl_pow.f k (a : Int) (n : Int)) ((Gf.pw a n : Nat) : Int) := by
  have := impl_pow_l0 62 a n 1 ha (by decide) hn (by omega)
  rw [Gf.pwA_eq 62 a n 1 ha (by decide) hn, Gf.one_gm _ (Gf.pw_lt n)] at this
  exact this

theorem impl_inverse_ev (b : Nat) (hb : b < 256) : Ev (fun k => impl_inverse.f k (b : Int)) ((Gf.gi b : Nat) : Int) := by
  unfold impl_inverse.f
  exact Ev.bind (f := fun _ u => some u) (impl_pow_ev b 254 hb (by decide)) (Ev.now _)

theorem impl_divPoly_l (q : List Nat) (hq : Poly.AllB q) (hq0 : 0 < q.length) (hql : q.length ≤ 1000) (inv : Nat) (hinv : inv < 256) : ∀ (n : Nat) (quo rest : List Nat), Poly.AllB quo → Poly.AllB rest → n ≤ quo.length → n + q.length ≤ rest.length + 1 → quo.length ≤ 5000 → rest.length ≤ 5000 →
    Ev (fun r => impl_divPoly.l0 r (Poly.up q) (Poly.up rest) (Poly.up quo) (inv : Int) ((n : Int) - 1)) (Poly.up (Poly.tr (Poly.dvA q inv n quo rest).1), Poly.up (Poly.tr (Poly.dvA q inv n quo rest).2)) := by
  intro n
  induction n with
  | zero =>
    intro quo rest h1 h2 _ _ h5 h6
    have z : ¬ (((0 : Nat) : Int) - 1 ≥ 0) := by omega
    refine Ev.step (fun k => impl_divPoly.l0.eq_2 _ _ _ _ _ k) ?_
    simp only [if_neg z]
    exact Ev.bind (impl_trimmed_ev quo (by omega)) (Ev.bind (impl_trimmed_ev rest (by omega)) (Ev.now _))
  | succ n ih =>
    intro quo rest h1 h2 h3 h4 h5 h6
    have e0 : ((n + 1 : Nat) : Int) - 1 = (n : Int) := by omega
    have e1 : wrap64 (wrap64 ((n : Int) + (q.length : Int)) - 1) = ((n + q.length - 1 : Nat) : Int) := by rw [wrap_addn _ _ (by omega), wrap_id (by omega) (by omega)]; omega
    have z1 : (n : Int) ≥ 0 := by omega
    have z2 : (0 : Int) ≤ ((n + q.length - 1 : Nat) : Int) := by omega
    have z3 : ((n + q.length - 1 : Nat) : Int) < (rest.length : Int) := by omega
    have z4 : (0 : Int) ≤ (n : Int) := by omega
    have z5 : (n : Int) < (quo.length : Int) := by omega
    have hf := Gf.gm_lt inv (Pev.getD_lt h2 (n + q.length - 1))
    rw [e0]
    refine Ev.step (fun k => impl_divPoly.l0.eq_2 _ _ _ _ _ k) ?_
    simp only [Poly.up_length, Poly.rd_up, e1, if_pos z1, if_pos z2, if_pos z3, if_pos z4, if_pos z5, Int.toNat_natCast]
    refine Ev.bind (impl_mul_ev _ _ (Pev.getD_lt h2 (n + q.length - 1)) hinv) ?_
    unfold Poly.dvA
    generalize Gf.gm (rest.getD (n + q.length - 1) 0) inv = f at hf ⊢
    rw [Poly.up_set]
    have hqn : (quo.set n f).getD n 0 = f := by rw [Pev.getD_set _ _ _ _ (by omega), if_pos rfl]
    have inner : ∀ (d j : Nat) (out : List Nat), j + d = q.length → Poly.AllB out → out.length = rest.length → 
        Poly.mrow f (q.drop j) (n + j) out = Poly.mrow f q n rest → Ev (fun r => impl_divPoly.l1 r (Poly.up q) (Poly.up out) (Poly.up (quo.set n f)) (inv : Int) (n : Int) (Poly.up q) (q.length : Int) (j : Int)) (Poly.up (Poly.tr (Poly.dvA q inv n (quo.set n f) (Poly.mrow f q n rest)).1), Poly.up (Poly.tr (Poly.dvA q inv n (quo.set n f) (Poly.mrow f q n rest)).2)) := by
      intro d
      induction d with
      | zero =>
        intro j out hj ho hl he
        obtain rfl : j = q.length := by omega
        rw [List.drop_length] at he
        have he' : out = Poly.mrow f q n rest := he
        have z : ¬ ((q.length : Nat) : Int) < ((q.length : Nat) : Int) := by omega
        refine Ev.step (fun k => impl_divPoly.l1.eq_2 _ _ _ _ _ _ _ _ k) ?_
        simp only [if_neg z, wrap_down n (by omega)]
        rw [← he']
        exact ih (quo.set n f) out (Poly.AllB.set h1 n hf) ho (by rw [List.length_set]; omega) (by omega) (by rw [List.length_set]; omega) (by omega)
      | succ d ihd =>
        intro j out hj ho hl he
        have hjl : j < q.length := by omega
        have y1 : (j : Int) < (q.length : Int) := by omega
        have y2 : (0 : Int) ≤ (j : Int) := by omega
        have y3 : (0 : Int) ≤ ((n + j : Nat) : Int) := by omega
        have y4 : ((n + j : Nat) : Int) < (out.length : Int) := by omega
        have y5 : (n : Int) < ((quo.set n f).length : Int) := by rw [List.length_set]; omega
        refine Ev.step (fun k => impl_divPoly.l1.eq_2 _ _ _ _ _ _ _ _ k) ?_
        simp only [Poly.up_length, Poly.rd_up, if_pos y1, if_pos y2, wrap_addn n j (by omega), if_pos y3, if_pos y4, if_pos z4, if_pos y5, hqn, wrap_up j (by omega), Int.toNat_natCast]
        refine Ev.bind (impl_mul_ev f (q.getD j 0) hf (hq.get j)) ?_
        rw [xor_up (ho.get (n + j)) (Gf.gm_lt (q.getD j 0) hf), Poly.up_set]
        refine ihd (j + 1) (out.set (n + j) (out.getD (n + j) 0 ^^^ Gf.gm f (q.getD j 0))) (by omega) (ho.set _ (Gf.xor_byte (ho.get _) (Gf.gm_lt _ hf))) (by rw [List.length_set]; exact hl) ?_
        rw [← he, drop_getD q j hjl, show n + (j + 1) = n + j + 1 by omega]
        rfl
    exact inner q.length 0 rest (by omega) h2 rfl (by rw [List.drop_zero, Nat.add_zero])
theorem impl_divPoly_ev (p q : List Nat) (hp : Poly.AllB p) (hq : Poly.AllB q) (hq0 : 0 < q.length) (hpl : p.length ≤ 1000) (hql : q.length ≤ 1000) : Ev (fun r => impl_divPoly.f r (Poly.up p) (Poly.up q)) (Poly.up (Poly.tr (divI p q).1), Poly.up (Poly.tr (divI p q).2)) := by
  have e0 : mx 0 (wrap64 (wrap64 ((p.length : Int) - (q.length : Int)) + 1)) = ((p.length + 1 - q.length : Nat) : Int) := by
    rw [wrap_id (n := (p.length : Int) - (q.length : Int)) (by omega) (by omega), wrap_id (by omega) (by omega)]
    unfold mx
    split <;> omega
  have z1 : (0 : Int) ≤ ((p.length + 1 - q.length : Nat) : Int) := by omega
  have z2 : ((p.length + 1 - q.length : Nat) : Int).toNat ≤ 35184372088832 := by omega
  have e2 : wrap64 ((q.length : Int) - 1) = ((q.length - 1 : Nat) : Int) := by rw [wrap_id (by omega) (by omega)]; omega
  have z4 : (0 : Int) ≤ ((q.length - 1 : Nat) : Int) := by omega
  have z5 : ((q.length - 1 : Nat) : Int) < (q.length : Int) := by omega
  have hcl : slices_Clone_int_int.f (Poly.up p) = some (Poly.up p) := by
    unfold slices_Clone_int_int.f
    exact if_pos (by rw [Poly.up_length]; omega)
  have ht := Pev.getD_lt hq (q.length - 1)
  have e3 : wrap64 ((((p.length + 1 - q.length) : Nat) : Int) - 1) = (((p.length + 1 - q.length) : Nat) : Int) - 1 := wrap_id (by omega) (by omega)
  refine Ev.congr (f := fun r => (impl_inverse.f r ((q.getD (q.length - 1) 0 : Nat) : Int)).bind fun t => impl_divPoly.l0 r (Poly.up q) (Poly.up p) (Poly.up (List.replicate (p.length + 1 - q.length) 0)) t ((((p.length + 1 - q.length) : Nat) : Int) - 1)) (fun r => ?_) ?_
  · unfold impl_divPoly.f
    rw [hcl, Option.bind_some, Poly.up_length, Poly.up_length, e0, if_pos z1, if_pos z2, Option.bind_some, e2, if_pos z4, if_pos z5, Poly.rd_up, Int.toNat_natCast, Poly.up_zeros, Poly.up_length, List.length_replicate, e3]
  · refine Ev.bind (impl_inverse_ev _ ht) ?_
    by_cases h4 : q.length ≤ p.length + 1
    · exact impl_divPoly_l q hq hq0 (by omega) _ (Gf.gi_lt _) (p.length + 1 - q.length) _ p (Poly.AllB.zeros _) hp (by rw [List.length_replicate]; exact Nat.le_refl _) (by omega) (by rw [List.length_replicate]; omega) (by omega)
    · have e4 : p.length + 1 - q.length = 0 := by omega
      unfold divI
      rw [e4]
      have z6 : ¬ (((0 : Nat) : Int) - 1 ≥ 0) := by omega
      refine Ev.step (fun k => impl_divPoly.l0.eq_2 _ _ _ _ _ k) ?_
      simp only [if_neg z6]
      exact Ev.bind (impl_trimmed_ev _ (by rw [List.length_replicate]; omega)) (Ev.bind (impl_trimmed_ev p (by omega)) (Ev.now _))

theorem impl_DivPoly_ev (l m : List Int) : Ev (fun k => impl_DivPoly.f k l m) (divPV l m) := by
  unfold impl_DivPoly.f divPV
  simp only [impl_isPoly_eq, Option.bind_some]
  cases h1 : isP l
  · exact Ev.now _
  · cases h2 : isP m
    · exact Ev.now _
    · by_cases h3 : 0 < m.length
      · obtain ⟨p, rfl, hp, hpl, _⟩ := isP_up h1
        obtain ⟨q, rfl, hq, hql, _⟩ := isP_up h2
        rw [Poly.up_length] at h3
        have z0 : ¬ ((q.length : Nat) : Int) = 0 := by omega
        simp only [if_true, Bool.and_self, Poly.up_length, h3, decide_true, toNat_up, if_neg z0]
        exact Ev.bind (impl_divPoly_ev p q hp hq h3 (by omega) (by omega)) (Ev.now _)
      · have z0 : ((m.length : Nat) : Int) = 0 := by omega
        simp only [if_true, if_pos z0, h3, decide_false, Bool.and_false]
        exact Ev.now _

theorem nat_nn (n : Nat) : ((n : Int) < 0) = False := by simp
theorem one_nat : (1 : Int) = ((1 : Nat) : Int) := rfl
theorem one_nn (n : Nat) : (((n : Nat) : Int) = ((n : Nat) : Int)) = True := by simp

theorem FnExactDivPoly : laws_FnExactDivPoly.Pure := by
  intro a b _ _ _ _ _ _
  by_cases ha : (a.length : Int) > 1048576
  · exact ⟨0, by unfold laws_FnExactDivPoly.f; rw [if_pos ha]⟩
  by_cases hb : (b.length : Int) > 1048576
  · exact ⟨0, by unfold laws_FnExactDivPoly.f; rw [if_neg ha, if_pos hb]⟩
  have ha' : a.length ≤ 1048576 := by omega
  have hb' : b.length ≤ 1048576 := by omega
  have hg := divPV_length a b
  have E1 := laws_toIntS_ev a (by omega)
  have E2 := laws_toIntS_ev b (by omega)
  have E3 := spec_DivPoly_ev a b
  have E4 := impl_DivPoly_ev a b
  generalize divPV a b = g at E3 E4 hg
  obtain ⟨g, g2, ok⟩ := g
  have hg' : g.length ≤ 41 := hg.1
  have hg2 : g2.length ≤ 41 := hg.2
  have E5 := laws_eqIntS_ev a a (by omega)
  have E6 := laws_eqIntS_ev b b (by omega)
  have E7 := laws_eqIntS_ev g g (by omega)
  have E7b := laws_eqIntS_ev g2 g2 (by omega)
  have E8 := laws_markIntS_ev a 1 (by omega) (by omega)
  have E9 := laws_markIntS_ev b (1 + a.length) (by omega) (by omega)
  have E10 := laws_markIntS_ev g 1 (by omega) (by omega)
  have E10b := laws_markIntS_ev g2 (1 + g.length) (by omega) (by omega)
  have E11 := laws_heldIntS_ev 1 g.length (by omega)
  have E11b := laws_heldIntS_ev (1 + g.length) g2.length (by omega)
  rw [← one_nat] at E8 E10 E11
  refine Ev.rounds ?_
  unfold laws_FnExactDivPoly.f
  simp only [if_neg ha, if_neg hb]
  repeat' first
    | exact Ev.now _
    | refine Ev.bind (by assumption) ?_
    | refine Ev.step (fun k => laws_FnExactDivPoly.j0.eq_2 _ _ _ _ _ _ _ _ _ _ _ k) ?_
    | refine Ev.step (fun k => laws_FnExactDivPoly.j1.eq_2 _ _ _ _ _ _ _ _ k) ?_
    | refine Ev.step (fun k => laws_FnExactDivPoly.j2.eq_2 _ _ _ _ k) ?_
    | simp only [decide_true, decide_false, if_true, if_false, bne_self_eq_false, Bool.false_eq_true, Bool.not_true, Bool.not_false, Bool.and_true, Bool.and_self, nat_nn, Option.bind_some, beq_self_eq_true, one_nn]

end Go.Proofs.Ytekadhniinpdfaa.Pure
