/- LogTable answers as the reference's LogTable does, in memory of its own. No conditions beyond the row's own. -/
import Derived.Test.YtpfcdmcnajljcaaMFnExactLogTablex2
import Derived.Test.YtpfcdmcnajljcaaBit
set_option linter.unusedVariables false
set_option linter.unusedSimpArgs false
namespace Go.Proofs.Ytpfcdmcnajljcaa.Pure
open Go.RowKit Go.Proofs.Ytpfcdmcnajljcaa Go.Proofs.Ytpfcdmcnajljcaa.MFnExactLogTable Go.Proofs.YtpfcdmcnajljcaaW.PrintWords Go.Proofs.YtpfcdmcnajljcaaW.PrintLast Go.Proofs.Ytpfcdmcnajljcaa.Bit

theorem rd_nat (l : List Int) (i : Nat) (h : i < l.length) : rd l (i : Int) = l[i] := by
  unfold rd
  simp [List.getD_eq_getElem?_getD, List.getElem?_eq_getElem h]
theorem wrap_succ (i : Nat) (h : i < 9223372036854775807) : wrap64 ((i : Int) + 1) = ((i + 1 : Nat) : Int) := by rw [wrap_id (by omega) (by omega)]; omega

theorem laws_eqIntS_l0 (l m : List Int) (hlm : l.length = m.length) (hl : l.length ≤ 140737488351232) : ∀ d i : Nat, i + d = l.length → Ev (fun k => laws_eqIntS.l0 k l m (i : Int)) (decide (l.drop i = m.drop i)) := by
  intro d
  induction d with
  | zero =>
    intro i hi
    obtain rfl : i = l.length := by omega
    have e : decide (l.drop l.length = m.drop l.length) = true := by
      have e2 : m.drop l.length = [] := by rw [hlm, List.drop_length]
      rw [e2, List.drop_length]; rfl
    rw [e]
    exact Ev.step (f := fun _ => some true) (fun k => by simp only [laws_eqIntS.l0]; rw [if_neg (by omega)]) (Ev.now _)
  | succ d ih =>
    intro i hi
    have hlt : i < l.length := by omega
    have hlt2 : i < m.length := by omega
    rw [List.drop_eq_getElem_cons hlt, List.drop_eq_getElem_cons hlt2]
    by_cases e : l[i] = m[i]
    · have : decide (l[i] :: l.drop (i + 1) = m[i] :: m.drop (i + 1)) = decide (l.drop (i + 1) = m.drop (i + 1)) := by simp only [List.cons.injEq, e, true_and]
      rw [this]
      refine Ev.step (f := fun k => laws_eqIntS.l0 k l m ((i + 1 : Nat) : Int)) (fun k => ?_) (ih (i + 1) (by omega))
      simp only [laws_eqIntS.l0, rd_nat l i hlt, rd_nat m i hlt2, wrap_succ i (by omega)]
      rw [if_pos (by omega), if_pos (by omega), if_pos (by omega), if_pos e]
    · have : decide (l[i] :: l.drop (i + 1) = m[i] :: m.drop (i + 1)) = false := by simp only [List.cons.injEq, e, false_and, decide_false]
      rw [this]
      refine Ev.step (f := fun k => some false) (fun k => ?_) (Ev.now _)
      simp only [laws_eqIntS.l0, rd_nat l i hlt, rd_nat m i hlt2, wrap_succ i (by omega)]
      rw [if_pos (by omega), if_pos (by omega), if_pos (by omega), if_neg e]
theorem laws_eqIntS_ev (l m : List Int) (hl : l.length ≤ 140737488351232) : Ev (fun k => laws_eqIntS.f k l m) (decide (l = m)) := by
  unfold laws_eqIntS.f
  by_cases h : l.length = m.length
  · simp only [if_pos (show (l.length : Int) = (m.length : Int) by omega)]
    exact laws_eqIntS_l0 l m h hl l.length 0 (by omega)
  · simp only [if_neg (show ¬ (l.length : Int) = (m.length : Int) by omega)]
    have : decide (l = m) = false := by simp only [decide_eq_false_iff_not]; rintro rfl; exact h rfl
    rw [this]
    exact Ev.now _

/-- The numbers m, m + 1, .., n of them. -/
def marks (m n : Nat) : List Int := (List.range n).map fun j => ((m + j : Nat) : Int)
theorem marks_length (m n : Nat) : (marks m n).length = n := by simp [marks]
theorem marks_succ (m n : Nat) : marks m (n + 1) = marks m n ++ [((m + n : Nat) : Int)] := by simp [marks, List.range_succ]
theorem marks_get (m n i : Nat) (h : i < (marks m n).length) : (marks m n)[i] = ((m + i : Nat) : Int) := by simp [marks]

theorem laws_markIntS_l0 (l : List Int) (m : Nat) (hl : l.length ≤ 1048576) (hm : m ≤ 1000000000) : ∀ d i : Nat, i + d = l.length → Ev (fun k => laws_markIntS.l0 k (marks m i ++ l.drop i) ((m + i : Nat) : Int) (i : Int)) (((m + l.length : Nat) : Int), marks m l.length) := by
  intro d
  induction d with
  | zero =>
    intro i hi
    obtain rfl : i = l.length := by omega
    refine Ev.step (f := fun _ => some (((m + l.length : Nat) : Int), marks m l.length)) (fun k => ?_) (Ev.now _)
    simp only [laws_markIntS.l0, List.drop_length, List.append_nil, marks_length]
    rw [if_neg (by omega)]
  | succ d ih =>
    intro i hi
    have hlt : i < l.length := by omega
    refine Ev.step (f := fun k => laws_markIntS.l0 k (marks m (i + 1) ++ l.drop (i + 1)) ((m + (i + 1) : Nat) : Int) ((i + 1 : Nat) : Int)) (fun k => ?_) (ih (i + 1) (by omega))
    have e : (marks m i ++ l.drop i).set i ((m + i : Nat) : Int) = marks m (i + 1) ++ l.drop (i + 1) := by
      rw [List.set_append_right _ _ (by rw [marks_length]; omega), marks_length, Nat.sub_self, List.drop_eq_getElem_cons hlt, List.set_cons_zero, marks_succ, List.append_assoc]
      rfl
    have hlen : (marks m i ++ l.drop i).length = l.length := by rw [List.length_append, marks_length, List.length_drop]; omega
    have e2 : wrap64 (((m + i : Nat) : Int) + 1) = ((m + (i + 1) : Nat) : Int) := by rw [wrap_id (by omega) (by omega)]; omega
    simp only [laws_markIntS.l0, hlen, Int.toNat_natCast, e, e2, wrap_succ i (by omega)]
    rw [if_pos (by omega), if_pos (by omega)]
theorem laws_markIntS_ev (l : List Int) (m : Nat) (hl : l.length ≤ 1048576) (hm : m ≤ 1000000000) : Ev (fun k => laws_markIntS.f k l (m : Int)) (((m + l.length : Nat) : Int), marks m l.length) := by
  have := laws_markIntS_l0 l m hl hm l.length 0 (by omega)
  simp only [marks, List.range_zero, List.map_nil, List.nil_append, List.drop_zero, Nat.add_zero] at this
  exact this

theorem laws_heldIntS_l0 (m n : Nat) (h : m + n ≤ 2000000000) : ∀ d i : Nat, i + d = n → Ev (fun k => laws_heldIntS.l0 k (marks m n) ((m + i : Nat) : Int) (i : Int)) ((m + n : Nat) : Int) := by
  intro d
  induction d with
  | zero =>
    intro i hi
    obtain rfl : i = n := by omega
    refine Ev.step (f := fun _ => some ((m + i : Nat) : Int)) (fun k => ?_) (Ev.now _)
    simp only [laws_heldIntS.l0, marks_length]
    rw [if_neg (by omega)]
  | succ d ih =>
    intro i hi
    refine Ev.step (f := fun k => laws_heldIntS.l0 k (marks m n) ((m + (i + 1) : Nat) : Int) ((i + 1 : Nat) : Int)) (fun k => ?_) (ih (i + 1) (by omega))
    have hlt : i < (marks m n).length := by rw [marks_length]; omega
    have e2 : wrap64 (((m + i : Nat) : Int) + 1) = ((m + (i + 1) : Nat) : Int) := by rw [wrap_id (by omega) (by omega)]; omega
    simp only [laws_heldIntS.l0, rd_nat _ i hlt, marks_get, marks_length, e2, wrap_succ i (by omega)]
    rw [if_pos (by omega), if_pos (by omega)]
    simp
theorem laws_heldIntS_ev (m n : Nat) (h : m + n ≤ 2000000000) : Ev (fun k => laws_heldIntS.f k (marks m n) (m : Int)) ((m + n : Nat) : Int) := laws_heldIntS_l0 m n h n 0 (by omega)

theorem spec_l1Mul_l0 : ∀ (n a b o : Nat), a < 256 → o < 256 → b < 2 ^ n → b < 2 ^ 63 → Ev (fun k => spec_l1Mul.l0 k (a : Int) (b : Int) (o : Int)) ((Gf.gmA n a b o : Nat) : Int) := by
  have stop : ∀ a o : Nat, Ev (fun k => spec_l1Mul.l0 k (a : Int) ((0 : Nat) : Int) (o : Int)) ((o : Nat) : Int) := fun a o =>
    Ev.step (f := fun _ => some ((o : Nat) : Int)) (fun k => by simp only [spec_l1Mul.l0]; rw [if_neg (by omega)]) (Ev.now _)
  intro n
  induction n with
  | zero =>
    intro a b o ha ho hb _
    obtain rfl : b = 0 := by simpa using hb
    exact stop a o
  | succ n ih =>
    intro a b o ha ho hb hb63
    by_cases h0 : b = 0
    · subst h0
      rw [Gf.gmA_zero]
      exact stop a o
    · have e1 : wrap64 ((a : Int) * 2) = ((a * 2 : Nat) : Int) := by rw [wrap_id (by omega) (by omega)]; omega
      have e2 : Go.bits .xor .i64 ((a * 2 : Nat) : Int) 285 = (((a * 2) ^^^ 285 : Nat) : Int) := xor_nat (a := a * 2) (b := 285) (by omega) (by decide)
      have e3 : Go.bits .xor .i64 (o : Int) (a : Int) = ((o ^^^ a : Nat) : Int) := xor_nat (by omega) (by omega)
      have e4 := and_one (a := b) hb63
      refine Ev.step (f := fun k => spec_l1Mul.l0 k ((Gf.xt a : Nat) : Int) ((b / 2 : Nat) : Int) (((if b % 2 = 1 then o ^^^ a else o) : Nat) : Int)) (fun k => ?_) (ih _ _ _ (Gf.xt_lt a ha) ?_ (by rw [Nat.pow_succ] at hb; omega) (by omega))
      · simp only [spec_l1Mul.l0, e1, e2, e3, e4, half_nat, Gf.xt]
        rw [if_pos (show (b : Int) > 0 by omega)]
        by_cases h1 : b % 2 = 1 <;> by_cases h2 : 255 < a * 2
        · rw [if_pos (show ((b % 2 : Nat) : Int) = 1 by omega), if_pos h1, if_pos (by omega), if_pos h2]
        · rw [if_pos (show ((b % 2 : Nat) : Int) = 1 by omega), if_pos h1, if_neg (by omega), if_neg h2]
        · rw [if_neg (show ¬ ((b % 2 : Nat) : Int) = 1 by omega), if_neg h1, if_pos (by omega), if_pos h2]
        · rw [if_neg (show ¬ ((b % 2 : Nat) : Int) = 1 by omega), if_neg h1, if_neg (by omega), if_neg h2]
      · split
        · exact Gf.xor_byte ho ha
        · exact ho
theorem spec_l1Mul_ev (a b : Nat) (ha : a < 256) (hb : b < 256) : Ev (fun k => spec_l1Mul.f k (a : Int) (b : Int)) ((Gf.gm a b : Nat) : Int) :=
  spec_l1Mul_l0 8 a b 0 ha (by decide) hb (by omega)

/-- The powers of 2 below n. -/
def expN (n : Nat) : List Int := (List.range n).map fun j => ((Gf.pw 2 j : Nat) : Int)
theorem expN_length (n : Nat) : (expN n).length = n := by simp [expN]
theorem expN_succ (n : Nat) : expN (n + 1) = expN n ++ [((Gf.pw 2 n : Nat) : Int)] := by simp [expN, List.range_succ]
theorem expN_get (n i : Nat) (h : i < (expN n).length) : (expN n)[i] = ((Gf.pw 2 i : Nat) : Int) := by simp [expN]

theorem spec_ExpTable_l0 : ∀ d n : Nat, 1 ≤ n → n + d = 255 → Ev (fun k => spec_ExpTable.l0 k (expN n)) (expN 255) := by
  intro d
  induction d with
  | zero =>
    intro n h1 hn
    obtain rfl : n = 255 := by omega
    exact Ev.step (f := fun _ => some (expN 255)) (fun k => by unfold spec_ExpTable.l0; rw [if_neg (by rw [expN_length]; omega)]) (Ev.now _)
  | succ d ih =>
    intro n h1 hn
    have hw : wrap64 (((expN n).length : Int) - 1) = ((n - 1 : Nat) : Int) := by rw [expN_length, wrap_id (by omega) (by omega)]; omega
    have hr : rd (expN n) ((n - 1 : Nat) : Int) = ((Gf.pw 2 (n - 1) : Nat) : Int) := by rw [rd_nat _ _ (by rw [expN_length]; omega), expN_get]
    have hp : Gf.gm (Gf.pw 2 (n - 1)) 2 = Gf.pw 2 n := by
      have : n = (n - 1) + 1 := by omega
      conv => rhs; rw [this]
      rfl
    refine Ev.step (f := fun k => (spec_l1Mul.f k ((Gf.pw 2 (n - 1) : Nat) : Int) 2).bind fun t => if (expN n).length < 17592186044416 then spec_ExpTable.l0 k (expN n ++ [t]) else none) (fun k => ?_) ?_
    · conv => lhs; unfold spec_ExpTable.l0
      simp only [hw, hr]
      rw [if_pos (by rw [expN_length]; omega), if_pos (by omega), if_pos (by rw [expN_length]; omega)]
    · refine Ev.bind (f := fun k t => if (expN n).length < 17592186044416 then spec_ExpTable.l0 k (expN n ++ [t]) else none) (spec_l1Mul_ev (Gf.pw 2 (n - 1)) 2 (Gf.pw_lt _) (by decide)) ?_
      have hl : (expN n).length < 17592186044416 := by rw [expN_length]; omega
      simp only [if_pos hl, hp]
      rw [← expN_succ]
      exact ih (n + 1) (by omega) (by omega)
theorem spec_ExpTable_ev : Ev (fun k => spec_ExpTable.f k) (expN 255) := spec_ExpTable_l0 254 1 (by omega) (by omega)

/-- Each number of e is told its place, from place i on, so many places. -/
def logL (e : Nat → Nat) : Nat → Nat → List Int → List Int
  | 0, _, x => x
  | d + 1, i, x => logL e d (i + 1) (x.set (e i) (i : Int))
theorem logL_length (e : Nat → Nat) : ∀ d i x, (logL e d i x).length = x.length
  | 0, _, _ => rfl
  | d + 1, i, x => by unfold logL; rw [logL_length e d]; exact List.length_set ..

theorem spec_LogTable_l0 (N : Int) (hN : N = 255) : ∀ (d i : Nat) (x : List Int), i + d = 255 → x.length = 256 → Ev (fun k => spec_LogTable.l0 k x (expN 255) N (i : Int)) (logL (Gf.pw 2) d i x) := by
  intro d
  induction d with
  | zero =>
    intro i x hi hx
    obtain rfl : i = 255 := by omega
    exact Ev.step (f := fun _ => some x) (fun k => by simp only [spec_LogTable.l0]; rw [if_neg (by omega)]) (Ev.now _)
  | succ d ih =>
    intro i x hi hx
    have hr : rd (expN 255) (i : Int) = ((Gf.pw 2 i : Nat) : Int) := by rw [rd_nat _ _ (by rw [expN_length]; omega), expN_get]
    have hp := Gf.pw_lt (a := 2) i
    refine Ev.step (f := fun k => spec_LogTable.l0 k (x.set (Gf.pw 2 i) (i : Int)) (expN 255) N ((i + 1 : Nat) : Int)) (fun k => ?_) (ih (i + 1) _ (by omega) (by rw [List.length_set]; exact hx))
    simp only [spec_LogTable.l0, hr, wrap_succ i (by omega), Int.toNat_natCast, expN_length]
    rw [if_pos (by omega), if_pos (by omega), if_pos (by omega), if_pos (by omega), if_pos (by omega)]
theorem spec_LogTable_ev : Ev (fun k => spec_LogTable.f k) (logL (Gf.pw 2) 255 0 (List.replicate 256 0)) := by
  unfold spec_LogTable.f
  have z : 256 ≤ 35184372088832 := by decide
  simp only [if_pos z]
  refine Ev.bind (f := fun k (t : List Int) => spec_LogTable.l0 k (List.replicate 256 0) t (t.length : Int) 0) spec_ExpTable_ev ?_
  simp only [expN_length]
  exact spec_LogTable_l0 _ rfl 255 0 _ (by omega) List.length_replicate

theorem impl_mul_l0 : ∀ (n a b o : Nat), a < 256 → o < 256 → b < 2 ^ n → b < 2 ^ 63 → Ev (fun k => impl_mul.l0 k (a : Int) (b : Int) (o : Int)) ((Gf.gmA n a b o : Nat) : Int) := by
  have stop : ∀ a o : Nat, Ev (fun k => impl_mul.l0 k (a : Int) ((0 : Nat) : Int) (o : Int)) ((o : Nat) : Int) := fun a o =>
    Ev.step (f := fun _ => some ((o : Nat) : Int)) (fun k => by simp only [impl_mul.l0]; rw [if_neg (by omega)]) (Ev.now _)
  intro n
  induction n with
  | zero =>
    intro a b o ha ho hb _
    obtain rfl : b = 0 := by simpa using hb
    exact stop a o
  | succ n ih =>
    intro a b o ha ho hb hb63
    by_cases h0 : b = 0
    · subst h0
      rw [Gf.gmA_zero]
      exact stop a o
    · have e1 : wrap64 ((a : Int) * 2) = ((a * 2 : Nat) : Int) := by rw [wrap_id (by omega) (by omega)]; omega
      have e2 : Go.bits .xor .i64 ((a * 2 : Nat) : Int) 285 = (((a * 2) ^^^ 285 : Nat) : Int) := xor_nat (a := a * 2) (b := 285) (by omega) (by decide)
      have e3 : Go.bits .xor .i64 (o : Int) (a : Int) = ((o ^^^ a : Nat) : Int) := xor_nat (by omega) (by omega)
      have e4 := and_one (a := b) hb63
      refine Ev.step (f := fun k => impl_mul.l0 k ((Gf.xt a : Nat) : Int) ((b / 2 : Nat) : Int) (((if b % 2 = 1 then o ^^^ a else o) : Nat) : Int)) (fun k => ?_) (ih _ _ _ (Gf.xt_lt a ha) ?_ (by rw [Nat.pow_succ] at hb; omega) (by omega))
      · simp only [impl_mul.l0, e1, e2, e3, e4, half_nat, Gf.xt]
        rw [if_pos (show (b : Int) > 0 by omega)]
        by_cases h1 : b % 2 = 1 <;> by_cases h2 : 255 < a * 2
        · rw [if_pos (show ((b % 2 : Nat) : Int) = 1 by omega), if_pos h1, if_pos (by omega), if_pos h2]
        · rw [if_pos (show ((b % 2 : Nat) : Int) = 1 by omega), if_pos h1, if_neg (by omega), if_neg h2]
        · rw [if_neg (show ¬ ((b % 2 : Nat) : Int) = 1 by omega), if_neg h1, if_pos (by omega), if_pos h2]
        · rw [if_neg (show ¬ ((b % 2 : Nat) : Int) = 1 by omega), if_neg h1, if_neg (by omega), if_neg h2]
      · split
        · exact Gf.xor_byte ho ha
        · exact ho
theorem impl_mul_ev (a b : Nat) (ha : a < 256) (hb : b < 256) : Ev (fun k => impl_mul.f k (a : Int) (b : Int)) ((Gf.gm a b : Nat) : Int) :=
  impl_mul_l0 8 a b 0 ha (by decide) hb (by omega)

theorem impl_pow_l0 : ∀ (f a n o : Nat), a < 256 → o < 256 → n < 2 ^ f → n < 2 ^ 63 → Ev (fun k => impl_pow.l0 k (a : Int) (n : Int) (o : Int)) ((Gf.pwA f a n o : Nat) : Int) := by
  have stop : ∀ a o : Nat, Ev (fun k => impl_pow.l0 k (a : Int) ((0 : Nat) : Int) (o : Int)) ((o : Nat) : Int) := fun a o =>
    Ev.step (f := fun _ => some ((o : Nat) : Int)) (fun k => by simp only [impl_pow.l0]; rw [if_neg (by omega)]) (Ev.now _)
  have z : ∀ f a o, Gf.pwA f a 0 o = o := by
    intro f
    induction f with
    | zero => intro a o; rfl
    | succ f ih => intro a o; exact ih _ _
  intro f
  induction f with
  | zero =>
    intro a n o ha ho hn _
    obtain rfl : n = 0 := by simpa using hn
    exact stop a o
  | succ f ih =>
    intro a n o ha ho hn hn63
    by_cases h0 : n = 0
    · subst h0
      rw [z]
      exact stop a o
    · have e4 := and_one (a := n) hn63
      have hsq := Gf.gm_lt a ha
      by_cases h1 : n % 2 = 1
      · refine Ev.step (f := fun k => (impl_mul.f k (o : Int) (a : Int)).bind fun t => (impl_mul.f k (a : Int) (a : Int)).bind fun u => impl_pow.l0 k u ((n / 2 : Nat) : Int) t) (fun k => ?_) ?_
        · simp only [impl_pow.l0, e4, half_nat]
          rw [if_pos (show (n : Int) > 0 by omega), if_pos (show ((n % 2 : Nat) : Int) = 1 by omega)]
        · have := ih (Gf.gm a a) (n / 2) (Gf.gm o a) hsq (Gf.gm_lt a ho) (by rw [Nat.pow_succ] at hn; omega) (by omega)
          show Ev _ ((Gf.pwA f (Gf.gm a a) (n / 2) (if n % 2 = 1 then Gf.gm o a else o) : Nat) : Int)
          rw [if_pos h1]
          exact Ev.bind (f := fun k t => (impl_mul.f k (a : Int) (a : Int)).bind fun u => impl_pow.l0 k u ((n / 2 : Nat) : Int) t) (impl_mul_ev o a ho ha) (Ev.bind (f := fun k u => impl_pow.l0 k u ((n / 2 : Nat) : Int) ((Gf.gm o a : Nat) : Int)) (impl_mul_ev a a ha ha) this)
      · refine Ev.step (f := fun k => (impl_mul.f k (a : Int) (a : Int)).bind fun u => impl_pow.l0 k u ((n / 2 : Nat) : Int) (o : Int)) (fun k => ?_) ?_
        · simp only [impl_pow.l0, e4, half_nat]
          rw [if_pos (show (n : Int) > 0 by omega), if_neg (show ¬ ((n % 2 : Nat) : Int) = 1 by omega)]
        · have := ih (Gf.gm a a) (n / 2) o hsq ho (by rw [Nat.pow_succ] at hn; omega) (by omega)
          show Ev _ ((Gf.pwA f (Gf.gm a a) (n / 2) (if n % 2 = 1 then Gf.gm o a else o) : Nat) : Int)
          rw [if_neg h1]
          exact Ev.bind (f := fun k u => impl_pow.l0 k u ((n / 2 : Nat) : Int) (o : Int)) (impl_mul_ev a a ha ha) this
theorem impl_pow_ev (a n : Nat) (ha : a < 256) (hn : n < 2 ^ 62) : Ev (fun k => impl_pow.f k (a : Int) (n : Int)) ((Gf.pw a n : Nat) : Int) := by
  have := impl_pow_l0 62 a n 1 ha (by decide) hn (by omega)
  rw [Gf.pwA_eq 62 a n 1 ha (by decide) hn, Gf.one_gm _ (Gf.pw_lt n)] at this
  exact this

theorem impl_ExpTable_l0 : ∀ d n : Nat, n + d = 255 → Ev (fun k => impl_ExpTable.l0 k (expN n) (n : Int)) (expN 255) := by
  intro d
  induction d with
  | zero =>
    intro n hn
    obtain rfl : n = 255 := by omega
    exact Ev.step (f := fun _ => some (expN 255)) (fun k => by simp only [impl_ExpTable.l0]; rw [if_neg (by omega)]) (Ev.now _)
  | succ d ih =>
    intro n hn
    refine Ev.step (f := fun k => (impl_pow.f k 2 (n : Int)).bind fun t => if (expN n).length < 17592186044416 then impl_ExpTable.l0 k (expN n ++ [t]) ((n + 1 : Nat) : Int) else none) (fun k => ?_) ?_
    · simp only [impl_ExpTable.l0, wrap_succ n (by omega)]
      rw [if_pos (by omega)]
    · refine Ev.bind (f := fun k t => if (expN n).length < 17592186044416 then impl_ExpTable.l0 k (expN n ++ [t]) ((n + 1 : Nat) : Int) else none) (impl_pow_ev 2 n (by decide) (by omega)) ?_
      have hl : (expN n).length < 17592186044416 := by rw [expN_length]; omega
      simp only [if_pos hl]
      rw [← expN_succ]
      exact ih (n + 1) (by omega)
theorem impl_ExpTable_ev : Ev (fun k => impl_ExpTable.f k) (expN 255) := impl_ExpTable_l0 255 0 (by omega)

theorem impl_LogTable_l0 (N : Int) (hN : N = 255) : ∀ (d i : Nat) (x : List Int), i + d = 255 → x.length = 256 → Ev (fun k => impl_LogTable.l0 k x (expN 255) N (i : Int)) (logL (Gf.pw 2) d i x) := by
  intro d
  induction d with
  | zero =>
    intro i x hi hx
    obtain rfl : i = 255 := by omega
    exact Ev.step (f := fun _ => some x) (fun k => by simp only [impl_LogTable.l0]; rw [if_neg (by omega)]) (Ev.now _)
  | succ d ih =>
    intro i x hi hx
    have hr : rd (expN 255) (i : Int) = ((Gf.pw 2 i : Nat) : Int) := by rw [rd_nat _ _ (by rw [expN_length]; omega), expN_get]
    have hp := Gf.pw_lt (a := 2) i
    refine Ev.step (f := fun k => impl_LogTable.l0 k (x.set (Gf.pw 2 i) (i : Int)) (expN 255) N ((i + 1 : Nat) : Int)) (fun k => ?_) (ih (i + 1) _ (by omega) (by rw [List.length_set]; exact hx))
    simp only [impl_LogTable.l0, hr, wrap_succ i (by omega), Int.toNat_natCast, expN_length]
    rw [if_pos (by omega), if_pos (by omega), if_pos (by omega), if_pos (by omega), if_pos (by omega)]
theorem impl_LogTable_ev : Ev (fun k => impl_LogTable.f k) (logL (Gf.pw 2) 255 0 (List.replicate 256 0)) := by
  unfold impl_LogTable.f
  have z : 256 ≤ 35184372088832 := by decide
  simp only [if_pos z]
  refine Ev.bind (f := fun k (t : List Int) => impl_LogTable.l0 k (List.replicate 256 0) t (t.length : Int) 0) impl_ExpTable_ev ?_
  simp only [expN_length]
  exact impl_LogTable_l0 _ rfl 255 0 _ (by omega) List.length_replicate

theorem nat_nn (n : Nat) : ((n : Int) < 0) = False := by simp
theorem one_nat : (1 : Int) = ((1 : Nat) : Int) := rfl
theorem one_nn (n : Nat) : (((n : Nat) : Int) = ((n : Nat) : Int)) = True := by simp

theorem FnExactLogTable : laws_FnExactLogTable.Pure := by
  have hlen : (logL (Gf.pw 2) 255 0 (List.replicate 256 0)).length = 256 := by rw [logL_length, List.length_replicate]
  have E1 := spec_LogTable_ev
  have E2 := impl_LogTable_ev
  generalize logL (Gf.pw 2) 255 0 (List.replicate 256 0) = t at E1 E2 hlen
  have E3 := laws_eqIntS_ev t t (by omega)
  have E4 := laws_markIntS_ev t 1 (by omega) (by omega)
  have E5 := laws_heldIntS_ev 1 t.length (by omega)
  rw [← one_nat] at E4 E5
  refine Ev.rounds ?_
  unfold laws_FnExactLogTable.f
  repeat' first
    | exact Ev.now _
    | refine Ev.bind (by assumption) ?_
    | simp only [decide_true, decide_false, if_true, if_false, bne_self_eq_false, Bool.false_eq_true, Bool.not_true, Bool.not_false, Bool.and_true, Bool.and_self, nat_nn, Option.bind_some, beq_self_eq_true, one_nn]

end Go.Proofs.Ytpfcdmcnajljcaa.Pure
