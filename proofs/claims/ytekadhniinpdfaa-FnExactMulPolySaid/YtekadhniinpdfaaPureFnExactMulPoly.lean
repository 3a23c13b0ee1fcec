/- MulPoly answers as the reference's MulPoly does, for all lists, leaves its lists as they were, and hands out memory of its own. No conditions beyond the row's own. -/
import Derived.Test.YtekadhniinpdfaaMFnExactMulPolyx5
import Derived.Test.YtekadhniinpdfaaBit
import Derived.Test.YtekadhniinpdfaaPoly
set_option linter.unusedVariables false
set_option linter.unusedSimpArgs false
namespace Go.Proofs.Ytekadhniinpdfaa.Pure
open Go.RowKit Go.Proofs.Ytekadhniinpdfaa Go.Proofs.Ytekadhniinpdfaa.MFnExactMulPoly Go.Proofs.YtekadhniinpdfaaW.PrintWords Go.Proofs.YtekadhniinpdfaaW.PrintLast Go.Proofs.Ytekadhniinpdfaa.Bit

theorem impl_within_eq (a b c : Int) : impl_within.f a b c = some (decide (b ≤ a ∧ a ≤ c)) := by
  unfold impl_within.f
  by_cases h : a ≥ b
  · rw [if_pos h]; congr 1; simp [show b ≤ a from h]
  · rw [if_neg h]; congr 1; simp; omega

/-- Is a number an element? -/
def isB (a : Int) : Bool := decide (0 ≤ a ∧ a ≤ 255)
theorem isB_nat {a : Int} (h : isB a = true) : ∃ n : Nat, a = (n : Int) ∧ n < 256 := by
  simp only [isB, decide_eq_true_eq] at h
  exact ⟨a.toNat, by omega, by omega⟩
theorem isB_cast {n : Nat} (h : n < 256) : isB (n : Int) = true := by simp only [isB, decide_eq_true_eq]; omega

theorem impl_isGf_eq (a : Int) : impl_isGf.f a = some (isB a) := by
  unfold impl_isGf.f; rw [impl_within_eq]; rfl

theorem spec_l1In_eq (a b c : Int) : spec_l1In.f a b c = some (decide (b ≤ a ∧ a ≤ c)) := by
  unfold spec_l1In.f
  by_cases h : a ≥ b
  · rw [if_pos h]; congr 1; simp [show b ≤ a from h]
  · rw [if_neg h]; congr 1; simp; omega

theorem spec_l1Gf_eq (a : Int) : spec_l1Gf.f a = some (isB a) := by
  unfold spec_l1Gf.f; rw [spec_l1In_eq]; rfl

theorem rd_nat (l : List Int) (i : Nat) (h : i < l.length) : rd l (i : Int) = l[i] := by
  unfold rd
  simp [List.getD_eq_getElem?_getD, List.getElem?_eq_getElem h]
theorem wrap_succ (i : Nat) (h : i < 9223372036854775807) : wrap64 ((i : Int) + 1) = ((i + 1 : Nat) : Int) := by rw [wrap_id (by omega) (by omega)]; omega

theorem rd_get (l : List Int) (i : Nat) (h : i < l.length) : rd l (i : Int) = l[i] := by
  unfold rd
  simp [List.getD_eq_getElem?_getD, List.getElem?_eq_getElem h]
theorem wrap_up (i : Nat) (h : i < 9223372036854775807) : wrap64 ((i : Int) + 1) = ((i + 1 : Nat) : Int) := by rw [wrap_id (by omega) (by omega)]; omega
theorem wrap_down (a : Nat) (h : a ≤ 9223372036854775807) : wrap64 ((a : Int) - 1) = (a : Int) - 1 := wrap_id (by omega) (by omega)
theorem allB_up {l : List Int} (h : l.all isB = true) : ∃ m : List Nat, l = Poly.up m ∧ Poly.AllB m := by
  refine Poly.up_of fun x hx => ?_
  have := List.all_eq_true.1 h x hx
  simpa [isB] using this
theorem up_allB {m : List Nat} (h : Poly.AllB m) : (Poly.up m).all isB = true := by
  rw [List.all_eq_true]
  intro x hx
  have := Poly.up_bytes h x hx
  simp only [isB, decide_eq_true_eq]; omega

theorem spec_l1All_l0 (l : List Int) (hl : l.length ≤ 140737488351232) : ∀ d i : Nat, i + d = l.length → Ev (fun k => spec_l1All.l0 k l (l.length : Int) (i : Int)) ((l.drop i).all isB) := by
  intro d
  induction d with
  | zero =>
    intro i hi
    obtain rfl : i = l.length := by omega
    rw [List.drop_length]
    exact Ev.step (f := fun _ => some true) (fun k => by simp only [spec_l1All.l0]; rw [if_neg (by omega)]) (Ev.now _)
  | succ d ih =>
    intro i hi
    have hlt : i < l.length := by omega
    rw [List.drop_eq_getElem_cons hlt, List.all_cons]
    cases hb : isB l[i] with
    | true =>
      refine Ev.step (f := fun k => spec_l1All.l0 k l (l.length : Int) ((i + 1 : Nat) : Int)) (fun k => ?_) (ih (i + 1) (by omega))
      simp only [spec_l1All.l0, rd_get l i hlt, wrap_up i (by omega), spec_l1Gf_eq, hb, Option.bind_some, if_true]
      rw [if_pos (by omega), if_pos (by omega), if_pos (by omega)]
    | false =>
      refine Ev.step (f := fun _ => some false) (fun k => ?_) (Ev.now _)
      simp only [spec_l1All.l0, rd_get l i hlt, wrap_up i (by omega), spec_l1Gf_eq, hb, Option.bind_some]
      rw [if_pos (by omega), if_pos (by omega), if_pos (by omega)]; rfl
theorem spec_l1All_ev (l : List Int) (hl : l.length ≤ 140737488351232) : Ev (fun k => spec_l1All.f k l) (l.all isB) := spec_l1All_l0 l hl l.length 0 (by omega)

/-- Is a list a polynomial? -/
def isP (l : List Int) : Bool := decide (l.length ≤ 40) && (l.all isB && (decide (l.length = 0) || (rd l ((l.length : Int) - 1) != 0)))
theorem isP_up {l : List Int} (h : isP l = true) : ∃ m : List Nat, l = Poly.up m ∧ Poly.AllB m ∧ m.length ≤ 40 ∧ (m = [] ∨ m.getD (m.length - 1) 0 ≠ 0) := by
  unfold isP at h
  simp only [Bool.and_eq_true, Bool.or_eq_true, decide_eq_true_eq, bne_iff_ne] at h
  obtain ⟨h1, h2, h3⟩ := h
  obtain ⟨m, rfl, hm⟩ := allB_up h2
  rw [Poly.up_length] at h1 h3
  refine ⟨m, rfl, hm, h1, ?_⟩
  rcases h3 with h3 | h3
  · exact .inl (List.length_eq_zero_iff.1 h3)
  · by_cases h0 : m.length = 0
    · exact .inl (List.length_eq_zero_iff.1 h0)
    · refine .inr fun e => h3 ?_
      have : (m.length : Int) - 1 = ((m.length - 1 : Nat) : Int) := by omega
      rw [this, Poly.rd_up, e]; rfl
theorem up_isP {m : List Nat} (hm : Poly.AllB m) (hl : m.length ≤ 40) (h : m = [] ∨ m.getD (m.length - 1) 0 ≠ 0) : isP (Poly.up m) = true := by
  unfold isP
  simp only [Bool.and_eq_true, Bool.or_eq_true, decide_eq_true_eq, bne_iff_ne, Poly.up_length]
  refine ⟨hl, up_allB hm, ?_⟩
  by_cases h0 : m.length = 0
  · exact .inl h0
  · refine .inr fun e => ?_
    have e1 : (m.length : Int) - 1 = ((m.length - 1 : Nat) : Int) := by omega
    rw [e1, Poly.rd_up] at e
    rcases h with h | h
    · rw [h] at h0; exact h0 rfl
    · exact h (by omega)

theorem spec_l1Poly_ev (l : List Int) : Ev (fun k => spec_l1Poly.f k l) (isP l) := by
  unfold spec_l1Poly.f isP
  by_cases h1 : l.length ≤ 40
  · have z : (l.length : Int) ≤ 40 := by omega
    simp only [if_pos z, decide_eq_true h1, Bool.true_and]
    refine Ev.bind (spec_l1All_ev l (by omega)) ?_
    cases l.all isB
    · exact Ev.now _
    · by_cases h2 : l.length = 0
      · have z2 : (l.length : Int) = 0 := by omega
        simp only [if_true, if_pos z2, decide_eq_true h2, Bool.true_and, Bool.true_or]
        exact Ev.now _
      · have z2 : ¬ (l.length : Int) = 0 := by omega
        have z3 : (0 : Int) ≤ (l.length : Int) - 1 := by omega
        have z4 : (l.length : Int) - 1 < (l.length : Int) := by omega
        simp only [if_true, if_neg z2, decide_eq_false h2, Bool.true_and, Bool.false_or, wrap_down l.length (by omega), if_pos z3, if_pos z4]
        exact Ev.now _
  · have z : ¬ (l.length : Int) ≤ 40 := by omega
    simp only [if_neg z, decide_eq_false h1, Bool.false_and]
    exact Ev.now _

theorem spec_l1Mul_l0 : ∀ (n a b o : Nat), a < 256 → o < 256 → b < 2 ^ n → b < 2 ^ 63 → Ev (fun k => spec_l1Mul.l0 k (a : Int) (b : Int) (o : Int)) ((Gf.gmA n a b o : Nat) : Int) := by
  have stop : ∀ a o : Nat, Ev (fun k => spec_l1Mul.l0 k (a : Int) ((0 : Nat) : Int) (o : Int)) ((o : Nat) : Int) := fun a o =>
    Ev.step (f := fun _ => some ((o : Nat) : Int)) (fun k => by simp only [spec_l1Mul.l0]; rw [if_neg (by omega)]) (Ev.now _)
  intro n
  induction n with
  | zero =>
    intro a b o ha ho hb _
    obtain rfl : b = 0 := by simpa using hb
    exact stop a o
  | succ n ih =>
    intro a b o ha ho hb hb63
    by_cases h0 : b = 0
    · subst h0
      rw [Gf.gmA_zero]
      exact stop a o
    · have e1 : wrap64 ((a : Int) * 2) = ((a * 2 : Nat) : Int) := by rw [wrap_id (by omega) (by omega)]; omega
      have e2 : Go.bits .xor .i64 ((a * 2 : Nat) : Int) 285 = (((a * 2) ^^^ 285 : Nat) : Int) := xor_nat (a := a * 2) (b := 285) (by omega) (by decide)
      have e3 : Go.bits .xor .i64 (o : Int) (a : Int) = ((o ^^^ a : Nat) : Int) := xor_nat (by omega) (by omega)
      have e4 := and_one (a := b) hb63
      refine Ev.step (f := fun k => spec_l1Mul.l0 k ((Gf.xt a : Nat) : Int) ((b / 2 : Nat) : Int) (((if b % 2 = 1 then o ^^^ a else o) : Nat) : Int)) (fun k => ?_) (ih _ _ _ (Gf.xt_lt a ha) ?_ (by rw [Nat.pow_succ] at hb; omega) (by omega))
      · simp only [spec_l1Mul.l0, e1, e2, e3, e4, half_nat, Gf.xt]
        rw [if_pos (show (b : Int) > 0 by omega)]
        by_cases h1 : b % 2 = 1 <;> by_cases h2 : 255 < a * 2
        · rw [if_pos (show ((b % 2 : Nat) : Int) = 1 by omega), if_pos h1, if_pos (by omega), if_pos h2]
        · rw [if_pos (show ((b % 2 : Nat) : Int) = 1 by omega), if_pos h1, if_neg (by omega), if_neg h2]
        · rw [if_neg (show ¬ ((b % 2 : Nat) : Int) = 1 by omega), if_neg h1, if_pos (by omega), if_pos h2]
        · rw [if_neg (show ¬ ((b % 2 : Nat) : Int) = 1 by omega), if_neg h1, if_neg (by omega), if_neg h2]
      · split
        · exact Gf.xor_byte ho ha
        · exact ho
theorem spec_l1Mul_ev (a b : Nat) (ha : a < 256) (hb : b < 256) : Ev (fun k => spec_l1Mul.f k (a : Int) (b : Int)) ((Gf.gm a b : Nat) : Int) :=
  spec_l1Mul_l0 8 a b 0 ha (by decide) hb (by omega)

theorem xor_up {a b : Nat} (ha : a < 256) (hb : b < 256) : Go.bits .xor .i64 (a : Int) (b : Int) = ((a ^^^ b : Nat) : Int) := xor_nat (by omega) (by omega)
theorem wrap_nat (n : Nat) (h : n ≤ 9223372036854775807) : wrap64 (n : Int) = (n : Int) := wrap_id (by omega) (by omega)
theorem wrap_add (a b : Nat) (h : a + b ≤ 9223372036854775807) : wrap64 ((a : Int) + (b : Int)) = ((a + b : Nat) : Int) := by rw [wrap_id (by omega) (by omega)]; omega
theorem wrap_pred (a : Nat) (h : a ≤ 9223372036854775807) (h0 : 0 < a) : wrap64 ((a : Int) - 1) = ((a - 1 : Nat) : Int) := by rw [wrap_id (by omega) (by omega)]; omega

theorem spec_l1Cut_l0 (l : List Nat) (hl : l.length ≤ 1000000) : ∀ n, n ≤ l.length → Ev (fun k => spec_l1Cut.l0 k (Poly.up (l.take n))) (Poly.up (Poly.trN l n)) := by
  intro n
  induction n with
  | zero =>
    intro _
    refine Ev.step (f := fun _ => some (Poly.up (Poly.trN l 0))) (fun k => ?_) (Ev.now _)
    simp only [spec_l1Cut.l0, List.take_zero, Poly.up_length, Option.bind_some]
    rw [if_neg (by simp), if_pos (by simp)]
    rfl
  | succ n ih =>
    intro hn
    have hlen : (Poly.up (l.take (n + 1))).length = n + 1 := by rw [Poly.up_length, List.length_take]; omega
    have hw : wrap64 (((n + 1 : Nat) : Int) - 1) = (n : Int) := by rw [wrap_pred _ (by omega) (by omega)]; rfl
    have hr : rd (Poly.up (l.take (n + 1))) (n : Int) = ((l.getD n 0 : Nat) : Int) := by
      rw [Poly.rd_up]
      simp only [List.getD_eq_getElem?_getD]
      rw [List.getElem?_take_of_lt (by omega)]
    unfold Poly.trN
    by_cases h : l.getD n 0 = 0
    · rw [if_pos h]
      refine Ev.step (f := fun k => spec_l1Cut.l0 k (Poly.up (l.take n))) (fun k => ?_) (ih (by omega))
      simp only [spec_l1Cut.l0, hlen, hw, hr, h]
      rw [if_pos (by omega), if_pos (by omega), if_pos (by omega), if_pos (by omega), if_pos (by omega), Int.toNat_natCast, Poly.up_take, List.take_take, Nat.min_eq_left (by omega)]
    · rw [if_neg h]
      refine Ev.step (f := fun _ => some (Poly.up (l.take (n + 1)))) (fun k => ?_) (Ev.now _)
      simp only [spec_l1Cut.l0, hlen, hw, hr, Option.bind_some]
      rw [if_pos (by omega), if_pos (by omega), if_pos (by omega), if_neg (by omega), if_pos (by simp; omega)]
      rfl
theorem spec_l1Cut_ev (l : List Nat) (hl : l.length ≤ 1000000) : Ev (fun k => spec_l1Cut.f k (Poly.up l)) (Poly.up (Poly.tr l)) := by
  have := spec_l1Cut_l0 l hl l.length (Nat.le_refl _)
  rw [List.take_length] at this
  exact this

theorem spec_l1MulPoly_l0 (p q : List Nat) (hp : Poly.AllB p) (hq : Poly.AllB q) (hpl : p.length ≤ 1000) (hql : q.length ≤ 1000) : ∀ (d i : Nat) (out : List Nat), i + d = p.length → out.length = p.length + q.length → Poly.AllB out →
    Ev (fun k => spec_l1MulPoly.l0 k (Poly.up q) (Poly.up out) (Poly.up p) (p.length : Int) (i : Int)) (Poly.up (Poly.tr (Poly.mpA q (p.drop i) i out))) := by
  intro d
  induction d with
  | zero =>
    intro i out hi hol hob
    obtain rfl : i = p.length := by omega
    rw [List.drop_length]
    refine Ev.step (f := fun k => (spec_l1Cut.f k (Poly.up out)).bind fun t => some t) (fun k => ?_) (Ev.bind (f := fun _ t => some t) (spec_l1Cut_ev out (by omega)) (Ev.now _))
    simp only [spec_l1MulPoly.l0]
    rw [if_neg (by omega)]
  | succ d ih =>
    intro i out hi hol hob
    have hlt : i < p.length := by omega
    have ha : p.getD i 0 < 256 := hp.get i
    have inner : ∀ (e j : Nat) (o : List Nat), j + e = q.length → o.length = p.length + q.length → Poly.AllB o →
        Ev (fun k => spec_l1MulPoly.l1 k (Poly.up q) (Poly.up o) (i : Int) ((p.getD i 0 : Nat) : Int) (Poly.up p) (p.length : Int) (i : Int) (Poly.up q) (q.length : Int) (j : Int)) (Poly.up (Poly.tr (Poly.mpA q (p.drop (i + 1)) (i + 1) (Poly.mrow (p.getD i 0) (q.drop j) (i + j) o)))) := by
      intro e
      induction e with
      | zero =>
        intro j o hj hol hob
        obtain rfl : j = q.length := by omega
        rw [List.drop_length]
        refine Ev.step (f := fun k => spec_l1MulPoly.l0 k (Poly.up q) (Poly.up o) (Poly.up p) (p.length : Int) ((i + 1 : Nat) : Int)) (fun k => ?_) (ih (i + 1) o (by omega) hol hob)
        simp only [spec_l1MulPoly.l1, wrap_succ i (by omega)]
        rw [if_neg (by omega)]
      | succ e ihe =>
        intro j o hj hol hob
        have hjl : j < q.length := by omega
        have hb : q.getD j 0 < 256 := hq.get j
        have hdrop : q.drop j = q.getD j 0 :: q.drop (j + 1) := by
          rw [List.drop_eq_getElem_cons hjl]
          simp [List.getD_eq_getElem?_getD, List.getElem?_eq_getElem hjl]
        rw [hdrop]
        unfold Poly.mrow
        have hx := xor_up (hob.get (i + j)) (Gf.gm_lt (q.getD j 0) ha)
        refine Ev.step (f := fun k => (spec_l1Mul.f k ((p.getD i 0 : Nat) : Int) ((q.getD j 0 : Nat) : Int)).bind fun t => spec_l1MulPoly.l1 k (Poly.up q) ((Poly.up o).set (i + j) (Go.bits .xor .i64 ((o.getD (i + j) 0 : Nat) : Int) t)) (i : Int) ((p.getD i 0 : Nat) : Int) (Poly.up p) (p.length : Int) (i : Int) (Poly.up q) (q.length : Int) ((j + 1 : Nat) : Int)) (fun k => ?_) ?_
        · simp only [spec_l1MulPoly.l1, wrap_add i j (by omega), wrap_succ j (by omega), Poly.rd_up, Poly.up_length, Int.toNat_natCast]
          rw [if_pos (by omega), if_pos (by omega), if_pos (by omega), if_pos (by omega), if_pos (by omega)]
        · refine Ev.bind (f := fun k t => spec_l1MulPoly.l1 k (Poly.up q) ((Poly.up o).set (i + j) (Go.bits .xor .i64 ((o.getD (i + j) 0 : Nat) : Int) t)) (i : Int) ((p.getD i 0 : Nat) : Int) (Poly.up p) (p.length : Int) (i : Int) (Poly.up q) (q.length : Int) ((j + 1 : Nat) : Int)) (spec_l1Mul_ev _ _ ha hb) ?_
          simp only [hx, Poly.up_set]
          have := ihe (j + 1) (o.set (i + j) (o.getD (i + j) 0 ^^^ Gf.gm (p.getD i 0) (q.getD j 0))) (by omega) (by rw [List.length_set]; exact hol) (hob.set _ (Gf.xor_byte (hob.get _) (Gf.gm_lt _ ha)))
          rw [show i + (j + 1) = i + j + 1 by omega] at this
          exact this
    have hdrop : p.drop i = p.getD i 0 :: p.drop (i + 1) := by
      rw [List.drop_eq_getElem_cons hlt]
      simp [List.getD_eq_getElem?_getD, List.getElem?_eq_getElem hlt]
    rw [hdrop]
    unfold Poly.mpA
    have := inner q.length 0 out (by omega) hol hob
    rw [List.drop_zero, Nat.add_zero] at this
    refine Ev.step (f := fun k => spec_l1MulPoly.l1 k (Poly.up q) (Poly.up out) (i : Int) ((p.getD i 0 : Nat) : Int) (Poly.up p) (p.length : Int) (i : Int) (Poly.up q) (q.length : Int) 0) (fun k => ?_) this
    simp only [spec_l1MulPoly.l0, Poly.rd_up, Poly.up_length]
    rw [if_pos (by omega), if_pos (by omega), if_pos (by omega)]
theorem spec_l1MulPoly_ev (p q : List Nat) (hp : Poly.AllB p) (hq : Poly.AllB q) (hpl : p.length ≤ 1000) (hql : q.length ≤ 1000) : Ev (fun k => spec_l1MulPoly.f k (Poly.up p) (Poly.up q)) (Poly.up (Poly.mulP p q)) := by
  unfold spec_l1MulPoly.f Poly.mulP
  have z1 : (0 : Int) ≤ ((p.length + q.length : Nat) : Int) := by omega
  have z2 : p.length + q.length ≤ 35184372088832 := by omega
  simp only [Poly.up_length, wrap_add p.length q.length (by omega), if_pos z1, Int.toNat_natCast, if_pos z2, Poly.up_zeros]
  exact spec_l1MulPoly_l0 p q hp hq hpl hql p.length 0 _ (by omega) (by simp) (Poly.AllB.zeros _)

/-- What EvalGf answers. -/
def evalV (l : List Int) (a : Int) : Int × Bool := if isP l && isB a then (((Poly.gev (l.map Int.toNat) a.toNat : Nat) : Int), true) else (0, false)
theorem toNat_up (m : List Nat) : (Poly.up m).map Int.toNat = m := by
  unfold Poly.up
  rw [List.map_map]
  conv => rhs; rw [← List.map_id m]
  exact List.map_congr_left fun x _ => by simp

/-- What MulPoly answers. -/
def mulV (l m : List Int) : List Int × Bool := if isP l && isP m && decide ((Poly.mulP (l.map Int.toNat) (m.map Int.toNat)).length ≤ 40) then (Poly.up (Poly.mulP (l.map Int.toNat) (m.map Int.toNat)), true) else ([], false)
theorem mulV_length (l m : List Int) : (mulV l m).1.length ≤ 40 := by
  unfold mulV
  split
  · rename_i h
    simp only [Bool.and_eq_true, decide_eq_true_eq] at h
    simp only [Poly.up_length]; omega
  · simp

theorem spec_MulPoly_ev (l m : List Int) : Ev (fun k => spec_MulPoly.f k l m) (mulV l m) := by
  have no : Ev (fun k => spec_MulPoly.j0 k l m true) (([] : List Int), false) := Ev.step (f := fun _ => some (([] : List Int), false)) (fun k => by simp only [spec_MulPoly.j0]; rfl) (Ev.now _)
  unfold spec_MulPoly.f mulV
  refine Ev.bind (spec_l1Poly_ev l) ?_
  cases h1 : isP l
  · exact no
  · simp only [if_true]
    refine Ev.bind (spec_l1Poly_ev m) ?_
    cases h2 : isP m
    · exact no
    · obtain ⟨p, rfl, hp, hpl, _⟩ := isP_up h1
      obtain ⟨q, rfl, hq, hql, _⟩ := isP_up h2
      refine Ev.step (fun k => spec_MulPoly.j0.eq_2 _ _ _ k) ?_
      simp only [Bool.not_true, Bool.false_eq_true, if_false, toNat_up, Bool.true_and]
      refine Ev.bind (spec_l1MulPoly_ev p q hp hq (by omega) (by omega)) ?_
      by_cases h3 : (Poly.mulP p q).length ≤ 40
      · have z : ¬ ((Poly.up (Poly.mulP p q)).length : Int) > 40 := by rw [Poly.up_length]; omega
        simp only [if_neg z, decide_eq_true h3, if_true]
        exact Ev.now _
      · have z : ((Poly.up (Poly.mulP p q)).length : Int) > 40 := by rw [Poly.up_length]; omega
        simp only [if_pos z, decide_eq_false h3]
        exact Ev.now _

theorem laws_toIntS_l0 (l : List Int) (hl : l.length ≤ 1048576) : ∀ d i : Nat, i + d = l.length → Ev (fun k => laws_toIntS.l0 k l (l.take i ++ List.replicate d 0) (i : Int)) l := by
  intro d
  induction d with
  | zero =>
    intro i hi
    obtain rfl : i = l.length := by omega
    exact Ev.step (f := fun _ => some l) (fun k => by simp only [laws_toIntS.l0]; rw [if_neg (by omega)]; simp) (Ev.now _)
  | succ d ih =>
    intro i hi
    have hlt : i < l.length := by omega
    refine Ev.step (f := fun k => laws_toIntS.l0 k l (l.take (i + 1) ++ List.replicate d 0) ((i + 1 : Nat) : Int)) (fun k => ?_) (ih (i + 1) (by omega))
    have e : ((l.take i ++ List.replicate (d + 1) 0).set i l[i]) = l.take (i + 1) ++ List.replicate d 0 := by
      rw [List.set_append_right _ _ (by simp; omega)]
      simp only [List.length_take, Nat.min_eq_left (Nat.le_of_lt hlt), Nat.sub_self, List.replicate_succ, List.set_cons_zero]
      rw [List.take_succ_eq_append_getElem hlt, List.append_assoc]; rfl
    have z : (i : Int) < ((l.take i ++ List.replicate (d + 1) (0 : Int)).length : Int) := by simp only [List.length_append, List.length_take, List.length_replicate]; omega
    simp only [laws_toIntS.l0, rd_nat l i hlt, wrap_succ i (by omega), Int.toNat_natCast]
    rw [if_pos (by omega), if_pos (by omega), if_pos z, e]
theorem laws_toIntS_ev (l : List Int) (hl : l.length ≤ 1048576) : Ev (fun k => laws_toIntS.f k l) l := by
  unfold laws_toIntS.f
  have z1 : (0 : Int) ≤ (l.length : Int) := by omega
  have z2 : (l.length : Int).toNat ≤ 35184372088832 := by omega
  simp only [if_pos z1, if_pos z2]
  have := laws_toIntS_l0 l hl l.length 0 (by omega)
  simpa using this

theorem impl_areGf_eq (l : List Int) : impl_areGf.f l = some (l.all isB) := by
  unfold impl_areGf.f
  have e : impl_areGf.bad = fun n => !isB n := by
    funext n
    simp only [impl_areGf.bad, isB]
  rw [e, List.all_eq_not_any_not]

theorem impl_isPoly_eq (l : List Int) : impl_isPoly.f l = some (isP l) := by
  unfold impl_isPoly.f isP
  by_cases h1 : l.length ≤ 40
  · have z : (l.length : Int) ≤ 40 := by omega
    simp only [if_pos z, decide_eq_true h1, Bool.true_and, impl_areGf_eq, Option.bind_some]
    cases l.all isB
    · rfl
    · by_cases h2 : l.length = 0
      · have z2 : (l.length : Int) = 0 := by omega
        simp only [if_true, if_pos z2, decide_eq_true h2, Bool.true_and, Bool.true_or]
      · have z2 : ¬ (l.length : Int) = 0 := by omega
        have z3 : (0 : Int) ≤ (l.length : Int) - 1 := by omega
        have z4 : (l.length : Int) - 1 < (l.length : Int) := by omega
        simp only [if_true, if_neg z2, decide_eq_false h2, Bool.true_and, Bool.false_or, wrap_down l.length (by omega), if_pos z3, if_pos z4]
  · have z : ¬ (l.length : Int) ≤ 40 := by omega
    simp only [if_neg z, decide_eq_false h1, Bool.false_and]

theorem impl_mul_l0 : ∀ (n a b o : Nat), a < 256 → o < 256 → b < 2 ^ n → b < 2 ^ 63 → Ev (fun k => impl_mul.l0 k (a : Int) (b : Int) (o : Int)) ((Gf.gmA n a b o : Nat) : Int) := by
  have stop : ∀ a o : Nat, Ev (fun k => impl_mul.l0 k (a : Int) ((0 : Nat) : Int) (o : Int)) ((o : Nat) : Int) := fun a o =>
    Ev.step (f := fun _ => some ((o : Nat) : Int)) (fun k => by simp only [impl_mul.l0]; rw [if_neg (by omega)]) (Ev.now _)
  intro n
  induction n with
  | zero =>
    intro a b o ha ho hb _
    obtain rfl : b = 0 := by simpa using hb
    exact stop a o
  | succ n ih =>
    intro a b o ha ho hb hb63
    by_cases h0 : b = 0
    · subst h0
      rw [Gf.gmA_zero]
      exact stop a o
    · have e1 : wrap64 ((a : Int) * 2) = ((a * 2 : Nat) : Int) := by rw [wrap_id (by omega) (by omega)]; omega
      have e2 : Go.bits .xor .i64 ((a * 2 : Nat) : Int) 285 = (((a * 2) ^^^ 285 : Nat) : Int) := xor_nat (a := a * 2) (b := 285) (by omega) (by decide)
      have e3 : Go.bits .xor .i64 (o : Int) (a : Int) = ((o ^^^ a : Nat) : Int) := xor_nat (by omega) (by omega)
      have e4 := and_one (a := b) hb63
      refine Ev.step (f := fun k => impl_mul.l0 k ((Gf.xt a : Nat) : Int) ((b / 2 : Nat) : Int) (((if b % 2 = 1 then o ^^^ a else o) : Nat) : Int)) (fun k => ?_) (ih _ _ _ (Gf.xt_lt a ha) ?_ (by rw [Nat.pow_succ] at hb; omega) (by omega))
      · simp only [impl_mul.l0, e1, e2, e3, e4, half_nat, Gf.xt]
        rw [if_pos (show (b : Int) > 0 by omega)]
        by_cases h1 : b % 2 = 1 <;> by_cases h2 : 255 < a * 2
        · rw [if_pos (show ((b % 2 : Nat) : Int) = 1 by omega), if_pos h1, if_pos (by omega), if_pos h2]
        · rw [if_pos (show ((b % 2 : Nat) : Int) = 1 by omega), if_pos h1, if_neg (by omega), if_neg h2]
        · rw [if_neg (show ¬ ((b % 2 : Nat) : Int) = 1 by omega), if_neg h1, if_pos (by omega), if_pos h2]
        · rw [if_neg (show ¬ ((b % 2 : Nat) : Int) = 1 by omega), if_neg h1, if_neg (by omega), if_neg h2]
      · split
        · exact Gf.xor_byte ho ha
        · exact ho
theorem impl_mul_ev (a b : Nat) (ha : a < 256) (hb : b < 256) : Ev (fun k => impl_mul.f k (a : Int) (b : Int)) ((Gf.gm a b : Nat) : Int) :=
  impl_mul_l0 8 a b 0 ha (by decide) hb (by omega)

theorem impl_trimmed_l0 (l : List Nat) (hl : l.length ≤ 1000000) : ∀ n, n ≤ l.length → Ev (fun k => impl_trimmed.l0 k (Poly.up l) (n : Int)) (Poly.up (Poly.trN l n)) := by
  intro n
  induction n with
  | zero =>
    intro _
    refine Ev.step (f := fun _ => some (Poly.up (Poly.trN l 0))) (fun k => ?_) (Ev.now _)
    simp only [impl_trimmed.l0, Poly.up_length]
    rw [if_neg (by omega), if_pos (by omega), if_pos (by omega)]
    rfl
  | succ n ih =>
    intro hn
    have hw : wrap64 (((n + 1 : Nat) : Int) - 1) = (n : Int) := by rw [wrap_pred _ (by omega) (by omega)]; rfl
    unfold Poly.trN
    by_cases h : l.getD n 0 = 0
    · rw [if_pos h]
      refine Ev.step (f := fun k => impl_trimmed.l0 k (Poly.up l) (n : Int)) (fun k => ?_) (ih (by omega))
      simp only [impl_trimmed.l0, Poly.up_length, hw, Poly.rd_up, h]
      rw [if_pos (by omega), if_pos (by omega), if_pos (by omega), if_pos (by omega)]
    · rw [if_neg h]
      refine Ev.step (f := fun _ => some (Poly.up (l.take (n + 1)))) (fun k => ?_) (Ev.now _)
      simp only [impl_trimmed.l0, Poly.up_length, hw, Poly.rd_up]
      rw [if_pos (by omega), if_pos (by omega), if_pos (by omega), if_neg (by omega), if_pos (by omega), if_pos (by omega), Int.toNat_natCast, Poly.up_take]
theorem impl_trimmed_ev (l : List Nat) (hl : l.length ≤ 1000000) : Ev (fun k => impl_trimmed.f k (Poly.up l)) (Poly.up (Poly.tr l)) := by
  have := impl_trimmed_l0 l hl l.length (Nat.le_refl _)
  unfold impl_trimmed.f
  rw [Poly.up_length]
  exact this

theorem impl_mulPoly_l0 (p q : List Nat) (hp : Poly.AllB p) (hq : Poly.AllB q) (hpl : p.length ≤ 1000) (hql : q.length ≤ 1000) : ∀ (d i : Nat) (out : List Nat), i + d = p.length → out.length = p.length + q.length → Poly.AllB out →
    Ev (fun k => impl_mulPoly.l0 k (Poly.up q) (Poly.up out) (Poly.up p) (p.length : Int) (i : Int)) (Poly.up (Poly.tr (Poly.mpA q (p.drop i) i out))) := by
  intro d
  induction d with
  | zero =>
    intro i out hi hol hob
    obtain rfl : i = p.length := by omega
    rw [List.drop_length]
    refine Ev.step (f := fun k => (impl_trimmed.f k (Poly.up out)).bind fun t => some t) (fun k => ?_) (Ev.bind (f := fun _ t => some t) (impl_trimmed_ev out (by omega)) (Ev.now _))
    simp only [impl_mulPoly.l0]
    rw [if_neg (by omega)]
  | succ d ih =>
    intro i out hi hol hob
    have hlt : i < p.length := by omega
    have ha : p.getD i 0 < 256 := hp.get i
    have inner : ∀ (e j : Nat) (o : List Nat), j + e = q.length → o.length = p.length + q.length → Poly.AllB o →
        Ev (fun k => impl_mulPoly.l1 k (Poly.up q) (Poly.up o) (i : Int) ((p.getD i 0 : Nat) : Int) (Poly.up p) (p.length : Int) (i : Int) (Poly.up q) (q.length : Int) (j : Int)) (Poly.up (Poly.tr (Poly.mpA q (p.drop (i + 1)) (i + 1) (Poly.mrow (p.getD i 0) (q.drop j) (i + j) o)))) := by
      intro e
      induction e with
      | zero =>
        intro j o hj hol hob
        obtain rfl : j = q.length := by omega
        rw [List.drop_length]
        refine Ev.step (f := fun k => impl_mulPoly.l0 k (Poly.up q) (Poly.up o) (Poly.up p) (p.length : Int) ((i + 1 : Nat) : Int)) (fun k => ?_) (ih (i + 1) o (by omega) hol hob)
        simp only [impl_mulPoly.l1, wrap_succ i (by omega)]
        rw [if_neg (by omega)]
      | succ e ihe =>
        intro j o hj hol hob
        have hjl : j < q.length := by omega
        have hb : q.getD j 0 < 256 := hq.get j
        have hdrop : q.drop j = q.getD j 0 :: q.drop (j + 1) := by
          rw [List.drop_eq_getElem_cons hjl]
          simp [List.getD_eq_getElem?_getD, List.getElem?_eq_getElem hjl]
        rw [hdrop]
        unfold Poly.mrow
        have hx := xor_up (hob.get (i + j)) (Gf.gm_lt (q.getD j 0) ha)
        refine Ev.step (f := fun k => (impl_mul.f k ((p.getD i 0 : Nat) : Int) ((q.getD j 0 : Nat) : Int)).bind fun t => impl_mulPoly.l1 k (Poly.up q) ((Poly.up o).set (i + j) (Go.bits .xor .i64 ((o.getD (i + j) 0 : Nat) : Int) t)) (i : Int) ((p.getD i 0 : Nat) : Int) (Poly.up p) (p.length : Int) (i : Int) (Poly.up q) (q.length : Int) ((j + 1 : Nat) : Int)) (fun k => ?_) ?_
        · simp only [impl_mulPoly.l1, wrap_add i j (by omega), wrap_succ j (by omega), Poly.rd_up, Poly.up_length, Int.toNat_natCast]
          rw [if_pos (by omega), if_pos (by omega), if_pos (by omega), if_pos (by omega), if_pos (by omega)]
        · refine Ev.bind (f := fun k t => impl_mulPoly.l1 k (Poly.up q) ((Poly.up o).set (i + j) (Go.bits .xor .i64 ((o.getD (i + j) 0 : Nat) : Int) t)) (i : Int) ((p.getD i 0 : Nat) : Int) (Poly.up p) (p.length : Int) (i : Int) (Poly.up q) (q.length : Int) ((j + 1 : Nat) : Int)) (impl_mul_ev _ _ ha hb) ?_
          simp only [hx, Poly.up_set]
          have := ihe (j + 1) (o.set (i + j) (o.getD (i + j) 0 ^^^ Gf.gm (p.getD i 0) (q.getD j 0))) (by omega) (by rw [List.length_set]; exact hol) (hob.set _ (Gf.xor_byte (hob.get _) (Gf.gm_lt _ ha)))
          rw [show i + (j + 1) = i + j + 1 by omega] at this
          exact this
    have hdrop : p.drop i = p.getD i 0 :: p.drop (i + 1) := by
      rw [List.drop_eq_getElem_cons hlt]
      simp [List.getD_eq_getElem?_getD, List.getElem?_eq_getElem hlt]
    rw [hdrop]
    unfold Poly.mpA
    have := inner q.length 0 out (by omega) hol hob
    rw [List.drop_zero, Nat.add_zero] at this
    refine Ev.step (f := fun k => impl_mulPoly.l1 k (Poly.up q) (Poly.up out) (i : Int) ((p.getD i 0 : Nat) : Int) (Poly.up p) (p.length : Int) (i : Int) (Poly.up q) (q.length : Int) 0) (fun k => ?_) this
    simp only [impl_mulPoly.l0, Poly.rd_up, Poly.up_length]
    rw [if_pos (by omega), if_pos (by omega), if_pos (by omega)]
theorem impl_mulPoly_ev (p q : List Nat) (hp : Poly.AllB p) (hq : Poly.AllB q) (hpl : p.length ≤ 1000) (hql : q.length ≤ 1000) : Ev (fun k => impl_mulPoly.f k (Poly.up p) (Poly.up q)) (Poly.up (Poly.mulP p q)) := by
  unfold impl_mulPoly.f Poly.mulP
  have z1 : (0 : Int) ≤ ((p.length + q.length : Nat) : Int) := by omega
  have z2 : p.length + q.length ≤ 35184372088832 := by omega
  simp only [Poly.up_length, wrap_add p.length q.length (by omega), if_pos z1, Int.toNat_natCast, if_pos z2, Poly.up_zeros]
  exact impl_mulPoly_l0 p q hp hq hpl hql p.length 0 _ (by omega) (by simp) (Poly.AllB.zeros _)

theorem impl_MulPoly_ev (l m : List Int) : Ev (fun k => impl_MulPoly.f k l m) (mulV l m) := by
  have no : Ev (fun k => impl_MulPoly.j0 k l m true) (([] : List Int), false) := Ev.step (f := fun _ => some (([] : List Int), false)) (fun k => by simp only [impl_MulPoly.j0]; rfl) (Ev.now _)
  unfold impl_MulPoly.f mulV
  simp only [impl_isPoly_eq, Option.bind_some]
  cases h1 : isP l
  · exact no
  · simp only [if_true]
    cases h2 : isP m
    · exact no
    · obtain ⟨p, rfl, hp, hpl, _⟩ := isP_up h1
      obtain ⟨q, rfl, hq, hql, _⟩ := isP_up h2
      refine Ev.step (fun k => impl_MulPoly.j0.eq_2 _ _ _ k) ?_
      simp only [Bool.not_true, Bool.false_eq_true, if_false, toNat_up, Bool.true_and]
      refine Ev.bind (impl_mulPoly_ev p q hp hq (by omega) (by omega)) ?_
      by_cases h3 : (Poly.mulP p q).length ≤ 40
      · have z : ¬ ((Poly.up (Poly.mulP p q)).length : Int) > 40 := by rw [Poly.up_length]; omega
        simp only [if_neg z, decide_eq_true h3, if_true]
        exact Ev.now _
      · have z : ((Poly.up (Poly.mulP p q)).length : Int) > 40 := by rw [Poly.up_length]; omega
        simp only [if_pos z, decide_eq_false h3]
        exact Ev.now _

theorem laws_eqIntS_l0 (l m : List Int) (hlm : l.length = m.length) (hl : l.length ≤ 140737488351232) : ∀ d i : Nat, i + d = l.length → Ev (fun k => laws_eqIntS.l0 k l m (i : Int)) (decide (l.drop i = m.drop i)) := by
  intro d
  induction d with
  | zero =>
    intro i hi
    obtain rfl : i = l.length := by omega
    have e : decide (l.drop l.length = m.drop l.length) = true := by
      have e2 : m.drop l.length = [] := by rw [hlm, List.drop_length]
      rw [e2, List.drop_length]; rfl
    rw [e]
    exact Ev.step (f := fun _ => some true) (fun k => by simp only [laws_eqIntS.l0]; rw [if_neg (by omega)]) (Ev.now _)
  | succ d ih =>
    intro i hi
    have hlt : i < l.length := by omega
    have hlt2 : i < m.length := by omega
    rw [List.drop_eq_getElem_cons hlt, List.drop_eq_getElem_cons hlt2]
    by_cases e : l[i] = m[i]
    · have : decide (l[i] :: l.drop (i + 1) = m[i] :: m.drop (i + 1)) = decide (l.drop (i + 1) = m.drop (i + 1)) := by simp only [List.cons.injEq, e, true_and]
      rw [this]
      refine Ev.step (f := fun k => laws_eqIntS.l0 k l m ((i + 1 : Nat) : Int)) (fun k => ?_) (ih (i + 1) (by omega))
      simp only [laws_eqIntS.l0, rd_nat l i hlt, rd_nat m i hlt2, wrap_succ i (by omega)]
      rw [if_pos (by omega), if_pos (by omega), if_pos (by omega), if_pos e]
    · have : decide (l[i] :: l.drop (i + 1) = m[i] :: m.drop (i + 1)) = false := by simp only [List.cons.injEq, e, false_and, decide_false]
      rw [this]
      refine Ev.step (f := fun k => some false) (fun k => ?_) (Ev.now _)
      simp only [laws_eqIntS.l0, rd_nat l i hlt, rd_nat m i hlt2, wrap_succ i (by omega)]
      rw [if_pos (by omega), if_pos (by omega), if_pos (by omega), if_neg e]
theorem laws_eqIntS_ev (l m : List Int) (hl : l.length ≤ 140737488351232) : Ev (fun k => laws_eqIntS.f k l m) (decide (l = m)) := by
  unfold laws_eqIntS.f
  by_cases h : l.length = m.length
  · simp only [if_pos (show (l.length : Int) = (m.length : Int) by omega)]
    exact laws_eqIntS_l0 l m h hl l.length 0 (by omega)
  · simp only [if_neg (show ¬ (l.length : Int) = (m.length : Int) by omega)]
    have : decide (l = m) = false := by simp only [decide_eq_false_iff_not]; rintro rfl; exact h rfl
    rw [this]
    exact Ev.now _

/-- The numbers m, m + 1, .., n of them. -/
def marks (m n : Nat) : List Int := (List.range n).map fun j => ((m + j : Nat) : Int)
theorem marks_length (m n : Nat) : (marks m n).length = n := by simp [marks]
theorem marks_succ (m n : Nat) : marks m (n + 1) = marks m n ++ [((m + n : Nat) : Int)] := by simp [marks, List.range_succ]
theorem marks_get (m n i : Nat) (h : i < (marks m n).length) : (marks m n)[i] = ((m + i : Nat) : Int) := by simp [marks]

theorem laws_markIntS_l0 (l : List Int) (m : Nat) (hl : l.length ≤ 1048576) (hm : m ≤ 1000000000) : ∀ d i : Nat, i + d = l.length → Ev (fun k => laws_markIntS.l0 k (marks m i ++ l.drop i) ((m + i : Nat) : Int) (i : Int)) (((m + l.length : Nat) : Int), marks m l.length) := by
  intro d
  induction d with
  | zero =>
    intro i hi
    obtain rfl : i = l.length := by omega
    refine Ev.step (f := fun _ => some (((m + l.length : Nat) : Int), marks m l.length)) (fun k => ?_) (Ev.now _)
    simp only [laws_markIntS.l0, List.drop_length, List.append_nil, marks_length]
    rw [if_neg (by omega)]
  | succ d ih =>
    intro i hi
    have hlt : i < l.length := by omega
    refine Ev.step (f := fun k => laws_markIntS.l0 k (marks m (i + 1) ++ l.drop (i + 1)) ((m + (i + 1) : Nat) : Int) ((i + 1 : Nat) : Int)) (fun k => ?_) (ih (i + 1) (by omega))
    have e : (marks m i ++ l.drop i).set i ((m + i : Nat) : Int) = marks m (i + 1) ++ l.drop (i + 1) := by
      rw [List.set_append_right _ _ (by rw [marks_length]; omega), marks_length, Nat.sub_self, List.drop_eq_getElem_cons hlt, List.set_cons_zero, marks_succ, List.append_assoc]
      rfl
    have hlen : (marks m i ++ l.drop i).length = l.length := by rw [List.length_append, marks_length, List.length_drop]; omega
    have e2 : wrap64 (((m + i : Nat) : Int) + 1) = ((m + (i + 1) : Nat) : Int) := by rw [wrap_id (by omega) (by omega)]; omega
    simp only [laws_markIntS.l0, hlen, Int.toNat_natCast, e, e2, wrap_succ i (by omega)]
    rw [if_pos (by omega), if_pos (by omega)]
theorem laws_markIntS_ev (l : List Int) (m : Nat) (hl : l.length ≤ 1048576) (hm : m ≤ 1000000000) : Ev (fun k => laws_markIntS.f k l (m : Int)) (((m + l.length : Nat) : Int), marks m l.length) := by
  have := laws_markIntS_l0 l m hl hm l.length 0 (by omega)
  simp only [marks, List.range_zero, List.map_nil, List.nil_append, List.drop_zero, Nat.add_zero] at this
  exact this

theorem laws_heldIntS_l0 (m n : Nat) (h : m + n ≤ 2000000000) : ∀ d i : Nat, i + d = n → Ev (fun k => laws_heldIntS.l0 k (marks m n) ((m + i : Nat) : Int) (i : Int)) ((m + n : Nat) : Int) := by
  intro d
  induction d with
  | zero =>
    intro i hi
    obtain rfl : i = n := by omega
    refine Ev.step (f := fun _ => some ((m + i : Nat) : Int)) (fun k => ?_) (Ev.now _)
    simp only [laws_heldIntS.l0, marks_length]
    rw [if_neg (by omega)]
  | succ d ih =>
    intro i hi
    refine Ev.step (f := fun k => laws_heldIntS.l0 k (marks m n) ((m + (i + 1) : Nat) : Int) ((i + 1 : Nat) : Int)) (fun k => ?_) (ih (i + 1) (by omega))
    have hlt : i < (marks m n).length := by rw [marks_length]; omega
    have e2 : wrap64 (((m + i : Nat) : Int) + 1) = ((m + (i + 1) : Nat) : Int) := by rw [wrap_id (by omega) (by omega)]; omega
    simp only [laws_heldIntS.l0, rd_nat _ i hlt, marks_get, marks_length, e2, wrap_succ i (by omega)]
    rw [if_pos (by omega), if_pos (by omega)]
    simp
theorem laws_heldIntS_ev (m n : Nat) (h : m + n ≤ 2000000000) : Ev (fun k => laws_heldIntS.f k (marks m n) (m : Int)) ((m + n : Nat) : Int) := laws_heldIntS_l0 m n h n 0 (by omega)

theorem nat_nn (n : Nat) : ((n : Int) < 0) = False := by simp
theorem one_nat : (1 : Int) = ((1 : Nat) : Int) := rfl
theorem one_nn (n : Nat) : (((n : Nat) : Int) = ((n : Nat) : Int)) = True := by simp

theorem FnExactMulPoly : laws_FnExactMulPoly.Pure := by
  intro a b _ _ _ _ _ _
  by_cases ha : (a.length : Int) > 1048576
  · exact ⟨0, by unfold laws_FnExactMulPoly.f; rw [if_pos ha]⟩
  by_cases hb : (b.length : Int) > 1048576
  · exact ⟨0, by unfold laws_FnExactMulPoly.f; rw [if_neg ha, if_pos hb]⟩
  have ha' : a.length ≤ 1048576 := by omega
  have hb' : b.length ≤ 1048576 := by omega
  have hg := mulV_length a b
  have E1 := laws_toIntS_ev a (by omega)
  have E2 := laws_toIntS_ev b (by omega)
  have E3 := spec_MulPoly_ev a b
  have E4 := impl_MulPoly_ev a b
  generalize mulV a b = g at E3 E4 hg
  obtain ⟨g, ok⟩ := g
  have hg' : g.length ≤ 40 := hg
  have E5 := laws_eqIntS_ev a a (by omega)
  have E6 := laws_eqIntS_ev b b (by omega)
  have E7 := laws_eqIntS_ev g g (by omega)
  have E8 := laws_markIntS_ev a 1 (by omega) (by omega)
  have E9 := laws_markIntS_ev b (1 + a.length) (by omega) (by omega)
  have E10 := laws_markIntS_ev g 1 (by omega) (by omega)
  have E11 := laws_heldIntS_ev 1 g.length (by omega)
  rw [← one_nat] at E8 E10 E11
  refine Ev.rounds ?_
  unfold laws_FnExactMulPoly.f
  simp only [if_neg ha, if_neg hb]
  repeat' first
    | exact Ev.now _
    | refine Ev.bind (by assumption) ?_
    | refine Ev.step (fun k => laws_FnExactMulPoly.j0.eq_2 _ _ _ _ _ _ _ _ _ k) ?_
    | refine Ev.step (fun k => laws_FnExactMulPoly.j1.eq_2 _ _ _ _ _ _ k) ?_
    | refine Ev.step (fun k => laws_FnExactMulPoly.j2.eq_2 _ _ _ k) ?_
    | simp only [decide_true, decide_false, if_true, if_false, bne_self_eq_false, Bool.false_eq_true, Bool.not_true, Bool.not_false, Bool.and_true, Bool.and_self, nat_nn, Option.bind_some, beq_self_eq_true, one_nn]

end Go.Proofs.Ytekadhniinpdfaa.Pure
