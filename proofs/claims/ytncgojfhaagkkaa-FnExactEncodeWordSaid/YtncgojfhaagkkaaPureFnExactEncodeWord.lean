/- EncodeWord answers as the reference's EncodeWord does, turns nothing that it was handed, and answers in memory of its own: the walk of the law. No conditions beyond the row's own. -/
import Derived.Test.YtncgojfhaagkkaaMFnExactEncodeWordx7
import Derived.Test.YtncgojfhaagkkaaMFnExactEncodeWordx0
import Derived.Test.YtncgojfhaagkkaaMFnExactEncodeWordx1
import Derived.Test.YtncgojfhaagkkaaMFnExactEncodeWordx2
import Derived.Test.YtncgojfhaagkkaaMFnExactEncodeWordx3
import Derived.Test.YtncgojfhaagkkaaMFnExactEncodeWordx4
import Derived.Test.YtncgojfhaagkkaaMFnExactEncodeWordx5
import Derived.Test.YtncgojfhaagkkaaMFnExactEncodeWordx6
import Derived.Test.YtncgojfhaagkkaaBit
import Derived.Test.YtncgojfhaagkkaaPoly
import Derived.Test.YtncgojfhaagkkaaPev
import Derived.Test.YtncgojfhaagkkaaMx
import Derived.Test.YtncgojfhaagkkaaEnv
import Derived.Test.YtncgojfhaagkkaaEnc
set_option linter.unusedVariables false
set_option linter.unusedSimpArgs false
namespace Go.Proofs.Ytncgojfhaagkkaa.Pure
open Go.RowKit Go.Proofs.Ytncgojfhaagkkaa Go.Proofs.Ytncgojfhaagkkaa.MFnExactEncodeWord Go.Proofs.YtncgojfhaagkkaaW.PrintWords Go.Proofs.YtncgojfhaagkkaaW.PrintLast Go.Proofs.Ytncgojfhaagkkaa.Bit

theorem impl_within_eq (a b c : Int) : impl_within.f a b c = some (decide (b ≤ a ∧ a ≤ c)) := by
  unfold impl_within.f
  by_cases h : a ≥ b
  · rw [if_pos h]; congr 1; simp [show b ≤ a from h]
  · rw [if_neg h]; congr 1; simp; omega

/-- Is a number an element? -/
def isB (a : Int) : Bool := decide (0 ≤ a ∧ a ≤ 255)
theorem isB_nat {a : Int} (h : isB a = true) : ∃ n : Nat, a = (n : Int) ∧ n < 256 := by
  simp only [isB, decide_eq_true_eq] at h
  exact ⟨a.toNat, by omega, by omega⟩
theorem isB_cast {n : Nat} (h : n < 256) : isB (n : Int) = true := by simp only [isB, decide_eq_true_eq]; omega

theorem impl_isGf_eq (a : Int) : impl_isGf.f a = some (isB a) := by
  unfold impl_isGf.f; rw [impl_within_eq]; rfl

theorem rd_nat (l : List Int) (i : Nat) (h : i < l.length) : rd l (i : Int) = l[i] := by
  unfold rd
  simp [List.getD_eq_getElem?_getD, List.getElem?_eq_getElem h]
theorem wrap_succ (i : Nat) (h : i < 9223372036854775807) : wrap64 ((i : Int) + 1) = ((i + 1 : Nat) : Int) := by rw [wrap_id (by omega) (by omega)]; omega

theorem laws_toIntS_l0 (l : List Int) (hl : l.length ≤ 1048576) : ∀ d i : Nat, i + d = l.length → Ev (fun k => laws_toIntS.l0 k l (l.take i ++ List.replicate d 0) (i : Int)) l := by
  intro d
  induction d with
  | zero =>
    intro i hi
    obtain rfl : i = l.length := by omega
    exact Ev.step (f := fun _ => some l) (fun k => by simp only [laws_toIntS.l0]; rw [if_neg (by omega)]; simp) (Ev.now _)
  | succ d ih =>
    intro i hi
    have hlt : i < l.length := by omega
    refine Ev.step (f := fun k => laws_toIntS.l0 k l (l.take (i + 1) ++ List.replicate d 0) ((i + 1 : Nat) : Int)) (fun k => ?_) (ih (i + 1) (by omega))
    have e : ((l.take i ++ List.replicate (d + 1) 0).set i l[i]) = l.take (i + 1) ++ List.replicate d 0 := by
      rw [List.set_append_right _ _ (by simp; omega)]
      simp only [List.length_take, Nat.min_eq_left (Nat.le_of_lt hlt), Nat.sub_self, List.replicate_succ, List.set_cons_zero]
      rw [List.take_succ_eq_append_getElem hlt, List.append_assoc]; rfl
    have z : (i : Int) < ((l.take i ++ List.replicate (d + 1) (0 : Int)).length : Int) := by simp only [List.length_append, List.length_take, List.length_replicate]; omega
    simp only [laws_toIntS.l0, rd_nat l i hlt, wrap_succ i (by omega), Int.toNat_natCast]
    rw [if_pos (by omega), if_pos (by omega), if_pos z, e]
theorem laws_toIntS_ev (l : List Int) (hl : l.length ≤ 1048576) : Ev (fun k => laws_toIntS.f k l) l := by
  unfold laws_toIntS.f
  have z1 : (0 : Int) ≤ (l.length : Int) := by omega
  have z2 : (l.length : Int).toNat ≤ 35184372088832 := by omega
  simp only [if_pos z1, if_pos z2]
  have := laws_toIntS_l0 l hl l.length 0 (by omega)
  simpa using this

theorem laws_eqIntS_l0 (l m : List Int) (hlm : l.length = m.length) (hl : l.length ≤ 140737488351232) : ∀ d i : Nat, i + d = l.length → Ev (fun k => laws_eqIntS.l0 k l m (i : Int)) (decide (l.drop i = m.drop i)) := by
  intro d
  induction d with
  | zero =>
    intro i hi
    obtain rfl : i = l.length := by omega
    have e : decide (l.drop l.length = m.drop l.length) = true := by
      have e2 : m.drop l.length = [] := by rw [hlm, List.drop_length]
      rw [e2, List.drop_length]; rfl
    rw [e]
    exact Ev.step (f := fun _ => some true) (fun k => by simp only [laws_eqIntS.l0]; rw [if_neg (by omega)]) (Ev.now _)
  | succ d ih =>
    intro i hi
    have hlt : i < l.length := by omega
    have hlt2 : i < m.length := by omega
    rw [List.drop_eq_getElem_cons hlt, List.drop_eq_getElem_cons hlt2]
    by_cases e : l[i] = m[i]
    · have : decide (l[i] :: l.drop (i + 1) = m[i] :: m.drop (i + 1)) = decide (l.drop (i + 1) = m.drop (i + 1)) := by simp only [List.cons.injEq, e, true_and]
      rw [this]
      refine Ev.step (f := fun k => laws_eqIntS.l0 k l m ((i + 1 : Nat) : Int)) (fun k => ?_) (ih (i + 1) (by omega))
      simp only [laws_eqIntS.l0, rd_nat l i hlt, rd_nat m i hlt2, wrap_succ i (by omega)]
      rw [if_pos (by omega), if_pos (by omega), if_pos (by omega), if_pos e]
    · have : decide (l[i] :: l.drop (i + 1) = m[i] :: m.drop (i + 1)) = false := by simp only [List.cons.injEq, e, false_and, decide_false]
      rw [this]
      refine Ev.step (f := fun k => some false) (fun k => ?_) (Ev.now _)
      simp only [laws_eqIntS.l0, rd_nat l i hlt, rd_nat m i hlt2, wrap_succ i (by omega)]
      rw [if_pos (by omega), if_pos (by omega), if_pos (by omega), if_neg e]
theorem laws_eqIntS_ev (l m : List Int) (hl : l.length ≤ 140737488351232) : Ev (fun k => laws_eqIntS.f k l m) (decide (l = m)) := by
  unfold laws_eqIntS.f
  by_cases h : l.length = m.length
  · simp only [if_pos (show (l.length : Int) = (m.length : Int) by omega)]
    exact laws_eqIntS_l0 l m h hl l.length 0 (by omega)
  · simp only [if_neg (show ¬ (l.length : Int) = (m.length : Int) by omega)]
    have : decide (l = m) = false := by simp only [decide_eq_false_iff_not]; rintro rfl; exact h rfl
    rw [this]
    exact Ev.now _

/-- The numbers m, m + 1, .., n of them. -/
def marks (m n : Nat) : List Int := (List.range n).map fun j => ((m + j : Nat) : Int)
theorem marks_length (m n : Nat) : (marks m n).length = n := by simp [marks]
theorem marks_succ (m n : Nat) : marks m (n + 1) = marks m n ++ [((m + n : Nat) : Int)] := by simp [marks, List.range_succ]
theorem marks_get (m n i : Nat) (h : i < (marks m n).length) : (marks m n)[i] = ((m + i : Nat) : Int) := by simp [marks]

theorem laws_markIntS_l0 (l : List Int) (m : Nat) (hl : l.length ≤ 1048576) (hm : m ≤ 1000000000) : ∀ d i : Nat, i + d = l.length → Ev (fun k => laws_markIntS.l0 k (marks m i ++ l.drop i) ((m + i : Nat) : Int) (i : Int)) (((m + l.length : Nat) : Int), marks m l.length) := by
  intro d
  induction d with
  | zero =>
    intro i hi
    obtain rfl : i = l.length := by omega
    refine Ev.step (f := fun _ => some (((m + l.length : Nat) : Int), marks m l.length)) (fun k => ?_) (Ev.now _)
    simp only [laws_markIntS.l0, List.drop_length, List.append_nil, marks_length]
    rw [if_neg (by omega)]
  | succ d ih =>
    intro i hi
    have hlt : i < l.length := by omega
    refine Ev.step (f := fun k => laws_markIntS.l0 k (marks m (i + 1) ++ l.drop (i + 1)) ((m + (i + 1) : Nat) : Int) ((i + 1 : Nat) : Int)) (fun k => ?_) (ih (i + 1) (by omega))
    have e : (marks m i ++ l.drop i).set i ((m + i : Nat) : Int) = marks m (i + 1) ++ l.drop (i + 1) := by
      rw [List.set_append_right _ _ (by rw [marks_length]; omega), marks_length, Nat.sub_self, List.drop_eq_getElem_cons hlt, List.set_cons_zero, marks_succ, List.append_assoc]
      rfl
    have hlen : (marks m i ++ l.drop i).length = l.length := by rw [List.length_append, marks_length, List.length_drop]; omega
    have e2 : wrap64 (((m + i : Nat) : Int) + 1) = ((m + (i + 1) : Nat) : Int) := by rw [wrap_id (by omega) (by omega)]; omega
    simp only [laws_markIntS.l0, hlen, Int.toNat_natCast, e, e2, wrap_succ i (by omega)]
    rw [if_pos (by omega), if_pos (by omega)]
theorem laws_markIntS_ev (l : List Int) (m : Nat) (hl : l.length ≤ 1048576) (hm : m ≤ 1000000000) : Ev (fun k => laws_markIntS.f k l (m : Int)) (((m + l.length : Nat) : Int), marks m l.length) := by
  have := laws_markIntS_l0 l m hl hm l.length 0 (by omega)
  simp only [marks, List.range_zero, List.map_nil, List.nil_append, List.drop_zero, Nat.add_zero] at this
  exact this

theorem laws_heldIntS_l0 (m n : Nat) (h : m + n ≤ 2000000000) : ∀ d i : Nat, i + d = n → Ev (fun k => laws_heldIntS.l0 k (marks m n) ((m + i : Nat) : Int) (i : Int)) ((m + n : Nat) : Int) := by
  intro d
  induction d with
  | zero =>
    intro i hi
    obtain rfl : i = n := by omega
    refine Ev.step (f := fun _ => some ((m + i : Nat) : Int)) (fun k => ?_) (Ev.now _)
    simp only [laws_heldIntS.l0, marks_length]
    rw [if_neg (by omega)]
  | succ d ih =>
    intro i hi
    refine Ev.step (f := fun k => laws_heldIntS.l0 k (marks m n) ((m + (i + 1) : Nat) : Int) ((i + 1 : Nat) : Int)) (fun k => ?_) (ih (i + 1) (by omega))
    have hlt : i < (marks m n).length := by rw [marks_length]; omega
    have e2 : wrap64 (((m + i : Nat) : Int) + 1) = ((m + (i + 1) : Nat) : Int) := by rw [wrap_id (by omega) (by omega)]; omega
    simp only [laws_heldIntS.l0, rd_nat _ i hlt, marks_get, marks_length, e2, wrap_succ i (by omega)]
    rw [if_pos (by omega), if_pos (by omega)]
    simp
theorem laws_heldIntS_ev (m n : Nat) (h : m + n ≤ 2000000000) : Ev (fun k => laws_heldIntS.f k (marks m n) (m : Int)) ((m + n : Nat) : Int) := laws_heldIntS_l0 m n h n 0 (by omega)

theorem spec_l1Mul_l0 : ∀ (n a b o : Nat), a < 256 → o < 256 → b < 2 ^ n → b < 2 ^ 63 → Ev (fun k => spec_l1Mul.l0 k (a : Int) (b : Int) (o : Int)) ((Gf.gmA n a b o : Nat) : Int) := by
  have stop : ∀ a o : Nat, Ev (fun k => spec_l1Mul.l0 k (a : Int) ((0 : Nat) : Int) (o : Int)) ((o : Nat) : Int) := fun a o =>
    Ev.step (f := fun _ => some ((o : Nat) : Int)) (fun k => by simp only [spec_l1Mul.l0]; rw [if_neg (by omega)]) (Ev.now _)
  intro n
  induction n with
  | zero =>
    intro a b o ha ho hb _
    obtain rfl : b = 0 := by simpa using hb
    exact stop a o
  | succ n ih =>
    intro a b o ha ho hb hb63
    by_cases h0 : b = 0
    · subst h0
      rw [Gf.gmA_zero]
      exact stop a o
    · have e1 : wrap64 ((a : Int) * 2) = ((a * 2 : Nat) : Int) := by rw [wrap_id (by omega) (by omega)]; omega
      have e2 : Go.bits .xor .i64 ((a * 2 : Nat) : Int) 285 = (((a * 2) ^^^ 285 : Nat) : Int) := xor_nat (a := a * 2) (b := 285) (by omega) (by decide)
      have e3 : Go.bits .xor .i64 (o : Int) (a : Int) = ((o ^^^ a : Nat) : Int) := xor_nat (by omega) (by omega)
      have e4 := and_one (a := b) hb63
      refine Ev.step (f := fun k => spec_l1Mul.l0 k ((Gf.xt a : Nat) : Int) ((b / 2 : Nat) : Int) (((if b % 2 = 1 then o ^^^ a else o) : Nat) : Int)) (fun k => ?_) (ih _ _ _ (Gf.xt_lt a ha) ?_ (by rw [Nat.pow_succ] at hb; omega) (by omega))
      · simp only [spec_l1Mul.l0, e1, e2, e3, e4, half_nat, Gf.xt]
        rw [if_pos (show (b : Int) > 0 by omega)]
        by_cases h1 : b % 2 = 1 <;> by_cases h2 : 255 < a * 2
        · rw [if_pos (show ((b % 2 : Nat) : Int) = 1 by omega), if_pos h1, if_pos (by omega), if_pos h2]
        · rw [if_pos (show ((b % 2 : Nat) : Int) = 1 by omega), if_pos h1, if_neg (by omega), if_neg h2]
        · rw [if_neg (show ¬ ((b % 2 : Nat) : Int) = 1 by omega), if_neg h1, if_pos (by omega), if_pos h2]
        · rw [if_neg (show ¬ ((b % 2 : Nat) : Int) = 1 by omega), if_neg h1, if_neg (by omega), if_neg h2]
      · split
        · exact Gf.xor_byte ho ha
        · exact ho
theorem spec_l1Mul_ev (a b : Nat) (ha : a < 256) (hb : b < 256) : Ev (fun k => spec_l1Mul.f k (a : Int) (b : Int)) ((Gf.gm a b : Nat) : Int) :=
  spec_l1Mul_l0 8 a b 0 ha (by decide) hb (by omega)

theorem spec_l1Pow_l0 : ∀ (f a n o : Nat), a < 256 → o < 256 → n < 2 ^ f → n < 2 ^ 63 → Ev (fun k => spec_l1Pow.l0 k (a : Int) (n : Int) (o : Int)) ((Gf.pwA f a n o : Nat) : Int) := by
  have stop : ∀ a o : Nat, Ev (fun k => spec_l1Pow.l0 k (a : Int) ((0 : Nat) : Int) (o : Int)) ((o : Nat) : Int) := fun a o =>
    Ev.step (f := fun _ => some ((o : Nat) : Int)) (fun k => by simp only [spec_l1Pow.l0]; rw [if_neg (by omega)]) (Ev.now _)
  have z : ∀ f a o, Gf.pwA f a 0 o = o := by
    intro f
    induction f with
    | zero => intro a o; rfl
    | succ f ih => intro a o; exact ih _ _
  intro f
  induction f with
  | zero =>
    intro a n o ha ho hn _
    obtain rfl : n = 0 := by simpa using hn
    exact stop a o
  | succ f ih =>
    intro a n o ha ho hn hn63
    by_cases h0 : n = 0
    · subst h0
      rw [z]
      exact stop a o
    · have e4 := and_one (a := n) hn63
      have hsq := Gf.gm_lt a ha
      by_cases h1 : n % 2 = 1
      · refine Ev.step (f := fun k => (spec_l1Mul.f k (o : Int) (a : Int)).bind fun t => (spec_l1Mul.f k (a : Int) (a : Int)).bind fun u => spec_l1Pow.l0 k u ((n / 2 : Nat) : Int) t) (fun k => ?_) ?_
        · simp only [spec_l1Pow.l0, e4, half_nat]
          rw [if_pos (show (n : Int) > 0 by omega), if_pos (show ((n % 2 : Nat) : Int) = 1 by omega)]
        · have := ih (Gf.gm a a) (n / 2) (Gf.gm o a) hsq (Gf.gm_lt a ho) (by rw [Nat.pow_succ] at hn; omega) (by omega)
          show Ev _ ((Gf.pwA f (Gf.gm a a) (n / 2) (if n % 2 = 1 then Gf.gm o a else o) : Nat) : Int)
          rw [if_pos h1]
          exact Ev.bind (f := fun k t => (spec_l1Mul.f k (a : Int) (a : Int)).bind fun u => spec_l1Pow.l0 k u ((n / 2 : Nat) : Int) t) (spec_l1Mul_ev o a ho ha) (Ev.bind (f := fun k u => spec_l1Pow.l0 k u ((n / 2 : Nat) : Int) ((Gf.gm o a : Nat) : Int)) (spec_l1Mul_ev a a ha ha) this)
      · refine Ev.step (f := fun k => (spec_l1Mul.f k (a : Int) (a : Int)).bind fun u => spec_l1Pow.l0 k u ((n / 2 : Nat) : Int) (o : Int)) (fun k => ?_) ?_
        · simp only [spec_l1Pow.l0, e4, half_nat]
          rw [if_pos (show (n : Int) > 0 by omega), if_neg (show ¬ ((n % 2 : Nat) : Int) = 1 by omega)]
        · have := ih (Gf.gm a a) (n / 2) o hsq ho (by rw [Nat.pow_succ] at hn; omega) (by omega)
          show Ev _ ((Gf.pwA f (Gf.gm a a) (n / 2) (if n % 2 = 1 then Gf.gm o a else o) : Nat) : Int)
          rw [if_neg h1]
          exact Ev.bind (f := fun k u => spec_l1Pow.l0 k u ((n / 2 : Nat) : Int) (o : Int)) (spec_l1Mul_ev a a ha ha) this
theorem spec_l1Pow_ev (a n : Nat) (ha : a < 256) (hn : n < 2 ^ 62) : Ev (fun k => spec_l1Pow.f k (a : Int) (n : Int)) ((Gf.pw a n : Nat) : Int) := by
  have := spec_l1Pow_l0 62 a n 1 ha (by decide) hn (by omega)
  rw [Gf.pwA_eq 62 a n 1 ha (by decide) hn, Gf.one_gm _ (Gf.pw_lt n)] at this
  exact this

theorem spec_l1Div_ev (a b : Nat) (ha : a < 256) (hb : b < 256) : Ev (fun k => spec_l1Div.f k (a : Int) (b : Int)) ((Gf.gm a (Gf.gi b) : Nat) : Int) := by
  unfold spec_l1Div.f
  refine Ev.bind (f := fun k t => (spec_l1Mul.f k (a : Int) t).bind fun u => some u) (spec_l1Pow_ev b 254 hb (by decide)) ?_
  exact Ev.bind (f := fun _ u => some u) (spec_l1Mul_ev a (Gf.gi b) ha (Gf.gi_lt b)) (Ev.now _)

theorem xor_up {a b : Nat} (ha : a < 256) (hb : b < 256) : Go.bits .xor .i64 (a : Int) (b : Int) = ((a ^^^ b : Nat) : Int) := xor_nat (by omega) (by omega)
theorem wrap_nat (n : Nat) (h : n ≤ 9223372036854775807) : wrap64 (n : Int) = (n : Int) := wrap_id (by omega) (by omega)
theorem wrap_add (a b : Nat) (h : a + b ≤ 9223372036854775807) : wrap64 ((a : Int) + (b : Int)) = ((a + b : Nat) : Int) := by rw [wrap_id (by omega) (by omega)]; omega
theorem wrap_pred (a : Nat) (h : a ≤ 9223372036854775807) (h0 : 0 < a) : wrap64 ((a : Int) - 1) = ((a - 1 : Nat) : Int) := by rw [wrap_id (by omega) (by omega)]; omega

theorem spec_l1Cut_l0 (l : List Nat) (hl : l.length ≤ 1000000) : ∀ n, n ≤ l.length → Ev (fun k => spec_l1Cut.l0 k (Poly.up (l.take n))) (Poly.up (Poly.trN l n)) := by
  intro n
  induction n with
  | zero =>
    intro _
    refine Ev.step (f := fun _ => some (Poly.up (Poly.trN l 0))) (fun k => ?_) (Ev.now _)
    simp only [spec_l1Cut.l0, List.take_zero, Poly.up_length, Option.bind_some]
    rw [if_neg (by simp), if_pos (by simp)]
    rfl
  | succ n ih =>
    intro hn
    have hlen : (Poly.up (l.take (n + 1))).length = n + 1 := by rw [Poly.up_length, List.length_take]; omega
    have hw : wrap64 (((n + 1 : Nat) : Int) - 1) = (n : Int) := by rw [wrap_pred _ (by omega) (by omega)]; rfl
    have hr : rd (Poly.up (l.take (n + 1))) (n : Int) = ((l.getD n 0 : Nat) : Int) := by
      rw [Poly.rd_up]
      simp only [List.getD_eq_getElem?_getD]
      rw [List.getElem?_take_of_lt (by omega)]
    unfold Poly.trN
    by_cases h : l.getD n 0 = 0
    · rw [if_pos h]
      refine Ev.step (f := fun k => spec_l1Cut.l0 k (Poly.up (l.take n))) (fun k => ?_) (ih (by omega))
      simp only [spec_l1Cut.l0, hlen, hw, hr, h]
      rw [if_pos (by omega), if_pos (by omega), if_pos (by omega), if_pos (by omega), if_pos (by omega), Int.toNat_natCast, Poly.up_take, List.take_take, Nat.min_eq_left (by omega)]
    · rw [if_neg h]
      refine Ev.step (f := fun _ => some (Poly.up (l.take (n + 1)))) (fun k => ?_) (Ev.now _)
      simp only [spec_l1Cut.l0, hlen, hw, hr, Option.bind_some]
      rw [if_pos (by omega), if_pos (by omega), if_pos (by omega), if_neg (by omega), if_pos (by simp; omega)]
      rfl
theorem spec_l1Cut_ev (l : List Nat) (hl : l.length ≤ 1000000) : Ev (fun k => spec_l1Cut.f k (Poly.up l)) (Poly.up (Poly.tr l)) := by
  have := spec_l1Cut_l0 l hl l.length (Nat.le_refl _)
  rw [List.take_length] at this
  exact this

theorem spec_l1In_eq (a b c : Int) : spec_l1In.f a b c = some (decide (b ≤ a ∧ a ≤ c)) := by
  unfold spec_l1In.f
  by_cases h : a ≥ b
  · rw [if_pos h]; congr 1; simp [show b ≤ a from h]
  · rw [if_neg h]; congr 1; simp; omega

theorem spec_l1Gf_eq (a : Int) : spec_l1Gf.f a = some (isB a) := by
  unfold spec_l1Gf.f; rw [spec_l1In_eq]; rfl

theorem rd_get (l : List Int) (i : Nat) (h : i < l.length) : rd l (i : Int) = l[i] := by
  unfold rd
  simp [List.getD_eq_getElem?_getD, List.getElem?_eq_getElem h]
theorem wrap_up (i : Nat) (h : i < 9223372036854775807) : wrap64 ((i : Int) + 1) = ((i + 1 : Nat) : Int) := by rw [wrap_id (by omega) (by omega)]; omega
theorem wrap_down (a : Nat) (h : a ≤ 9223372036854775807) : wrap64 ((a : Int) - 1) = (a : Int) - 1 := wrap_id (by omega) (by omega)
theorem allB_up {l : List Int} (h : l.all isB = true) : ∃ m : List Nat, l = Poly.up m ∧ Poly.AllB m := by
  refine Poly.up_of fun x hx => ?_
  have := List.all_eq_true.1 h x hx
  simpa [isB] using this
theorem up_allB {m : List Nat} (h : Poly.AllB m) : (Poly.up m).all isB = true := by
  rw [List.all_eq_true]
  intro x hx
  have := Poly.up_bytes h x hx
  simp only [isB, decide_eq_true_eq]; omega

theorem spec_l1All_l0 (l : List Int) (hl : l.length ≤ 140737488351232) : ∀ d i : Nat, i + d = l.length → Ev (fun k => spec_l1All.l0 k l (l.length : Int) (i : Int)) ((l.drop i).all isB) := by
  intro d
  induction d with
  | zero =>
    intro i hi
    obtain rfl : i = l.length := by omega
    rw [List.drop_length]
    exact Ev.step (f := fun _ => some true) (fun k => by simp only [spec_l1All.l0]; rw [if_neg (by omega)]) (Ev.now _)
  | succ d ih =>
    intro i hi
    have hlt : i < l.length := by omega
    rw [List.drop_eq_getElem_cons hlt, List.all_cons]
    cases hb : isB l[i] with
    | true =>
      refine Ev.step (f := fun k => spec_l1All.l0 k l (l.length : Int) ((i + 1 : Nat) : Int)) (fun k => ?_) (ih (i + 1) (by omega))
      simp only [spec_l1All.l0, rd_get l i hlt, wrap_up i (by omega), spec_l1Gf_eq, hb, Option.bind_some, if_true]
      rw [if_pos (by omega), if_pos (by omega), if_pos (by omega)]
    | false =>
      refine Ev.step (f := fun _ => some false) (fun k => ?_) (Ev.now _)
      simp only [spec_l1All.l0, rd_get l i hlt, wrap_up i (by omega), spec_l1Gf_eq, hb, Option.bind_some]
      rw [if_pos (by omega), if_pos (by omega), if_pos (by omega)]; rfl
theorem spec_l1All_ev (l : List Int) (hl : l.length ≤ 140737488351232) : Ev (fun k => spec_l1All.f k l) (l.all isB) := spec_l1All_l0 l hl l.length 0 (by omega)

/-- Is a list a polynomial? -/
def isP (l : List Int) : Bool := decide (l.length ≤ 40) && (l.all isB && (decide (l.length = 0) || (rd l ((l.length : Int) - 1) != 0)))
theorem isP_up {l : List Int} (h : isP l = true) : ∃ m : List Nat, l = Poly.up m ∧ Poly.AllB m ∧ m.length ≤ 40 ∧ (m = [] ∨ m.getD (m.length - 1) 0 ≠ 0) := by
  unfold isP at h
  simp only [Bool.and_eq_true, Bool.or_eq_true, decide_eq_true_eq, bne_iff_ne] at h
  obtain ⟨h1, h2, h3⟩ := h
  obtain ⟨m, rfl, hm⟩ := allB_up h2
  rw [Poly.up_length] at h1 h3
  refine ⟨m, rfl, hm, h1, ?_⟩
  rcases h3 with h3 | h3
  · exact .inl (List.length_eq_zero_iff.1 h3)
  · by_cases h0 : m.length = 0
    · exact .inl (List.length_eq_zero_iff.1 h0)
    · refine .inr fun e => h3 ?_
      have : (m.length : Int) - 1 = ((m.length - 1 : Nat) : Int) := by omega
      rw [this, Poly.rd_up, e]; rfl
theorem up_isP {m : List Nat} (hm : Poly.AllB m) (hl : m.length ≤ 40) (h : m = [] ∨ m.getD (m.length - 1) 0 ≠ 0) : isP (Poly.up m) = true := by
  unfold isP
  simp only [Bool.and_eq_true, Bool.or_eq_true, decide_eq_true_eq, bne_iff_ne, Poly.up_length]
  refine ⟨hl, up_allB hm, ?_⟩
  by_cases h0 : m.length = 0
  · exact .inl h0
  · refine .inr fun e => ?_
    have e1 : (m.length : Int) - 1 = ((m.length - 1 : Nat) : Int) := by omega
    rw [e1, Poly.rd_up] at e
    rcases h with h | h
    · rw [h] at h0; exact h0 rfl
    · exact h (by omega)

theorem spec_l1Poly_ev (l : List Int) : Ev (fun k => spec_l1Poly.f k l) (isP l) := by
  unfold spec_l1Poly.f isP
  by_cases h1 : l.length ≤ 40
  · have z : (l.length : Int) ≤ 40 := by omega
    simp only [if_pos z, decide_eq_true h1, Bool.true_and]
    refine Ev.bind (spec_l1All_ev l (by omega)) ?_
    cases l.all isB
    · exact Ev.now _
    · by_cases h2 : l.length = 0
      · have z2 : (l.length : Int) = 0 := by omega
        simp only [if_true, if_pos z2, decide_eq_true h2, Bool.true_and, Bool.true_or]
        exact Ev.now _
      · have z2 : ¬ (l.length : Int) = 0 := by omega
        have z3 : (0 : Int) ≤ (l.length : Int) - 1 := by omega
        have z4 : (l.length : Int) - 1 < (l.length : Int) := by omega
        simp only [if_true, if_neg z2, decide_eq_false h2, Bool.true_and, Bool.false_or, wrap_down l.length (by omega), if_pos z3, if_pos z4]
        exact Ev.now _
  · have z : ¬ (l.length : Int) ≤ 40 := by omega
    simp only [if_neg z, decide_eq_false h1, Bool.false_and]
    exact Ev.now _

theorem wrap_sub (a b : Nat) (h : b ≤ a) (h2 : a ≤ 9223372036854775807) : wrap64 ((a : Int) - (b : Int)) = ((a - b : Nat) : Int) := by rw [wrap_id (by omega) (by omega)]; omega
theorem wrap_two (a : Nat) (h : a ≤ 1000000) : wrap64 (2 * (a : Int)) = ((2 * a : Nat) : Int) := by rw [wrap_id (by omega) (by omega)]; omega
theorem wrap_addn (a b : Nat) (h : a + b ≤ 9223372036854775807) : wrap64 ((a : Int) + (b : Int)) = ((a + b : Nat) : Int) := by rw [wrap_id (by omega) (by omega)]; omega
theorem drop_getD (l : List Nat) (i : Nat) (h : i < l.length) : l.drop i = l.getD i 0 :: l.drop (i + 1) := by
  rw [List.drop_eq_getElem_cons h]
  simp [List.getD_eq_getElem?_getD, List.getElem?_eq_getElem h]

/-- What EvalGf answers. -/
def evalV (l : List Int) (a : Int) : Int × Bool := if isP l && isB a then (((Poly.gev (l.map Int.toNat) a.toNat : Nat) : Int), true) else (0, false)
theorem toNat_up (m : List Nat) : (Poly.up m).map Int.toNat = m := by
  unfold Poly.up
  rw [List.map_map]
  conv => rhs; rw [← List.map_id m]
  exact List.map_congr_left fun x _ => by simp

/-- The steps of the reference's division: the quotient's list is as long as p. -/
def divS (p q : List Nat) : List Nat × List Nat := Poly.dvA q (Gf.gi (q.getD (q.length - 1) 0)) (p.length + 1 - q.length) (List.replicate p.length 0) p
/-- The steps of the program's division. -/
def divI (p q : List Nat) : List Nat × List Nat := Poly.dvA q (Gf.gi (q.getD (q.length - 1) 0)) (p.length + 1 - q.length) (List.replicate (p.length + 1 - q.length) 0) p
theorem dvA_more (q : List Nat) (inv m : Nat) : ∀ (i : Nat) (quo rest : List Nat), i ≤ quo.length → Poly.dvA q inv i (quo ++ List.replicate m 0) rest = ((Poly.dvA q inv i quo rest).1 ++ List.replicate m 0, (Poly.dvA q inv i quo rest).2)
  | 0, _, _, _ => rfl
  | i + 1, quo, rest, h => by
    unfold Poly.dvA
    rw [List.set_append_left _ _ (by omega)]
    exact dvA_more q inv m i _ _ (by rw [List.length_set]; omega)
theorem div_same (p q : List Nat) (hq : 0 < q.length) : Poly.tr (divS p q).1 = Poly.tr (divI p q).1 ∧ (divS p q).2 = (divI p q).2 := by
  have e : List.replicate p.length 0 = List.replicate (p.length + 1 - q.length) 0 ++ List.replicate (p.length - (p.length + 1 - q.length)) 0 := by
    rw [List.replicate_append_replicate]; congr 1; omega
  have h := dvA_more q (Gf.gi (q.getD (q.length - 1) 0)) (p.length - (p.length + 1 - q.length)) (p.length + 1 - q.length) (List.replicate (p.length + 1 - q.length) 0) p (by rw [List.length_replicate]; exact Nat.le_refl _)
  unfold divS divI
  rw [e, h]
  exact ⟨Poly.tr_zeros _ _, rfl⟩
/-- What DivPoly answers. -/
def divPV (l m : List Int) : List Int × List Int × Bool := if isP l && isP m && decide (0 < m.length) then (Poly.up (Poly.tr (divI (l.map Int.toNat) (m.map Int.toNat)).1), Poly.up (Poly.tr (divI (l.map Int.toNat) (m.map Int.toNat)).2), true) else ([], [], false)
theorem divPV_length (l m : List Int) : (divPV l m).1.length ≤ 41 ∧ (divPV l m).2.1.length ≤ 41 := by
  unfold divPV
  split
  · rename_i h
    simp only [Bool.and_eq_true, decide_eq_true_eq] at h
    obtain ⟨p, rfl, hp, hpl, _⟩ := isP_up h.1.1
    have h1 := Poly.tr_length (divI p (m.map Int.toNat)).1
    have h2 := Poly.tr_length (divI p (m.map Int.toNat)).2
    have h3 := Pev.dvA_length (m.map Int.toNat) (Gf.gi ((m.map Int.toNat).getD ((m.map Int.toNat).length - 1) 0)) (p.length + 1 - (m.map Int.toNat).length) (List.replicate (p.length + 1 - (m.map Int.toNat).length) 0) p
    simp only [Poly.up_length, toNat_up]
    unfold divI at h1 h2 ⊢
    rw [h3.1, List.length_replicate] at h1
    rw [h3.2] at h2
    omega
  · simp

theorem spec_DivPoly_l (q : List Nat) (hq : Poly.AllB q) (hq0 : 0 < q.length) (hql : q.length ≤ 1000) : ∀ (n : Nat) (quo rest : List Nat), Poly.AllB quo → Poly.AllB rest → n ≤ quo.length → n + q.length ≤ rest.length + 1 → quo.length ≤ 5000 → rest.length ≤ 5000 →
    Ev (fun r => spec_DivPoly.l0 r (Poly.up q) (Poly.up rest) (Poly.up quo) ((q.getD (q.length - 1) 0 : Nat) : Int) ((n : Int) - 1)) (Poly.up (Poly.tr (Poly.dvA q (Gf.gi (q.getD (q.length - 1) 0)) n quo rest).1), Poly.up (Poly.tr (Poly.dvA q (Gf.gi (q.getD (q.length - 1) 0)) n quo rest).2), true) := by
  have ht := Pev.getD_lt hq (q.length - 1)
  intro n
  induction n with
  | zero =>
    intro quo rest h1 h2 _ _ h5 h6
    have z : ¬ (((0 : Nat) : Int) - 1 ≥ 0) := by omega
    refine Ev.step (fun k => spec_DivPoly.l0.eq_2 _ _ _ _ _ k) ?_
    simp only [if_neg z]
    exact Ev.bind (spec_l1Cut_ev quo (by omega)) (Ev.bind (spec_l1Cut_ev rest (by omega)) (Ev.now _))
  | succ n ih =>
    intro quo rest h1 h2 h3 h4 h5 h6
    have e0 : ((n + 1 : Nat) : Int) - 1 = (n : Int) := by omega
    have e1 : wrap64 (wrap64 ((n : Int) + (q.length : Int)) - 1) = ((n + q.length - 1 : Nat) : Int) := by rw [wrap_addn _ _ (by omega), wrap_id (by omega) (by omega)]; omega
    have z1 : (n : Int) ≥ 0 := by omega
    have z2 : (0 : Int) ≤ ((n + q.length - 1 : Nat) : Int) := by omega
    have z3 : ((n + q.length - 1 : Nat) : Int) < (rest.length : Int) := by omega
    have z4 : (0 : Int) ≤ (n : Int) := by omega
    have z5 : (n : Int) < (quo.length : Int) := by omega
    have hf := Gf.gm_lt (Gf.gi (q.getD (q.length - 1) 0)) (Pev.getD_lt h2 (n + q.length - 1))
    rw [e0]
    refine Ev.step (fun k => spec_DivPoly.l0.eq_2 _ _ _ _ _ k) ?_
    simp only [Poly.up_length, Poly.rd_up, e1, if_pos z1, if_pos z2, if_pos z3, if_pos z4, if_pos z5, Int.toNat_natCast]
    refine Ev.bind (spec_l1Div_ev _ _ (Pev.getD_lt h2 (n + q.length - 1)) ht) ?_
    unfold Poly.dvA
    generalize Gf.gm (rest.getD (n + q.length - 1) 0) (Gf.gi (q.getD (q.length - 1) 0)) = f at hf ⊢
    rw [Poly.up_set]
    have inner : ∀ (d j : Nat) (out : List Nat), j + d = q.length → Poly.AllB out → out.length = rest.length → 
        Poly.mrow f (q.drop j) (n + j) out = Poly.mrow f q n rest → Ev (fun r => spec_DivPoly.l1 r (Poly.up q) (Poly.up out) (Poly.up (quo.set n f)) ((q.getD (q.length - 1) 0 : Nat) : Int) (n : Int) (f : Int) (Poly.up q) (q.length : Int) (j : Int)) (Poly.up (Poly.tr (Poly.dvA q (Gf.gi (q.getD (q.length - 1) 0)) n (quo.set n f) (Poly.mrow f q n rest)).1), Poly.up (Poly.tr (Poly.dvA q (Gf.gi (q.getD (q.length - 1) 0)) n (quo.set n f) (Poly.mrow f q n rest)).2), true) := by
      intro d
      induction d with
      | zero =>
        intro j out hj ho hl he
        obtain rfl : j = q.length := by omega
        rw [List.drop_length] at he
        have he' : out = Poly.mrow f q n rest := he
        have z : ¬ ((q.length : Nat) : Int) < ((q.length : Nat) : Int) := by omega
        refine Ev.step (fun k => spec_DivPoly.l1.eq_2 _ _ _ _ _ _ _ _ _ k) ?_
        simp only [if_neg z, wrap_down n (by omega)]
        rw [← he']
        exact ih (quo.set n f) out (Poly.AllB.set h1 n hf) ho (by rw [List.length_set]; omega) (by omega) (by rw [List.length_set]; omega) (by omega)
      | succ d ihd =>
        intro j out hj ho hl he
        have hjl : j < q.length := by omega
        have y1 : (j : Int) < (q.length : Int) := by omega
        have y2 : (0 : Int) ≤ (j : Int) := by omega
        have y3 : (0 : Int) ≤ ((n + j : Nat) : Int) := by omega
        have y4 : ((n + j : Nat) : Int) < (out.length : Int) := by omega
        refine Ev.step (fun k => spec_DivPoly.l1.eq_2 _ _ _ _ _ _ _ _ _ k) ?_
        simp only [Poly.up_length, Poly.rd_up, if_pos y1, if_pos y2, wrap_addn n j (by omega), if_pos y3, if_pos y4, wrap_up j (by omega), Int.toNat_natCast]
        refine Ev.bind (spec_l1Mul_ev f (q.getD j 0) hf (hq.get j)) ?_
        rw [xor_up (ho.get (n + j)) (Gf.gm_lt (q.getD j 0) hf), Poly.up_set]
        refine ihd (j + 1) (out.set (n + j) (out.getD (n + j) 0 ^^^ Gf.gm f (q.getD j 0))) (by omega) (ho.set _ (Gf.xor_byte (ho.get _) (Gf.gm_lt _ hf))) (by rw [List.length_set]; exact hl) ?_
        rw [← he, drop_getD q j hjl, show n + (j + 1) = n + j + 1 by omega]
        rfl
    exact inner q.length 0 rest (by omega) h2 rfl (by rw [List.drop_zero, Nat.add_zero])
theorem spec_DivPoly_ev (l m : List Int) : Ev (fun k => spec_DivPoly.f k l m) (divPV l m) := by
  have no : Ev (fun k => spec_DivPoly.j0 k l m true) (([] : List Int), ([] : List Int), false) := Ev.step (f := fun _ => some (([] : List Int), ([] : List Int), false)) (fun k => by simp only [spec_DivPoly.j0]; rfl) (Ev.now _)
  unfold spec_DivPoly.f divPV
  refine Ev.bind (spec_l1Poly_ev l) ?_
  cases h1 : isP l
  · exact no
  · simp only [if_true]
    refine Ev.bind (spec_l1Poly_ev m) ?_
    cases h2 : isP m
    · exact no
    · by_cases h3 : 0 < m.length
      · obtain ⟨p, rfl, hp, hpl, _⟩ := isP_up h1
        obtain ⟨q, rfl, hq, hql, _⟩ := isP_up h2
        rw [Poly.up_length] at h3
        have z0 : (((q.length : Nat) : Int) == 0) = false := beq_eq_false_iff_ne.2 (by omega)
        have z1 : ([] : List Int).length + (Poly.up p).length < 17592186044416 := by rw [Poly.up_length]; simp; omega
        have z2 : (0 : Int) ≤ (p.length : Int) := by omega
        have z3 : (p.length : Int).toNat ≤ 35184372088832 := by omega
        have z4 : (0 : Int) ≤ ((q.length - 1 : Nat) : Int) := by omega
        have z5 : ((q.length - 1 : Nat) : Int) < (q.length : Int) := by omega
        have e2 : wrap64 ((q.length : Int) - 1) = ((q.length - 1 : Nat) : Int) := by rw [wrap_id (by omega) (by omega)]; omega
        simp only [if_true, Bool.and_self, Poly.up_length, h3, decide_true, toNat_up, z0]
        refine Ev.step (f := fun r => spec_DivPoly.l0 r (Poly.up q) (Poly.up p) (Poly.up (List.replicate p.length 0)) ((q.getD (q.length - 1) 0 : Nat) : Int) (wrap64 ((p.length : Int) - (q.length : Int)))) (fun r => ?_) ?_
        · rw [spec_DivPoly.j0.eq_2, if_neg (by decide), Option.bind_some, if_pos z1, Poly.up_length, if_pos z2, if_pos z3, Poly.up_length, e2, if_pos z4, if_pos z5, Poly.rd_up, List.nil_append, Int.toNat_natCast, Poly.up_zeros]
        · have hsm := div_same p q h3
          rw [← hsm.1, ← hsm.2]
          unfold divS
          by_cases h4 : q.length ≤ p.length + 1
          · have e3 : wrap64 ((p.length : Int) - (q.length : Int)) = ((p.length + 1 - q.length : Nat) : Int) - 1 := by rw [wrap_id (by omega) (by omega)]; omega
            rw [e3]
            exact spec_DivPoly_l q hq h3 (by omega) (p.length + 1 - q.length) _ p (Poly.AllB.zeros _) hp (by rw [List.length_replicate]; omega) (by omega) (by rw [List.length_replicate]; omega) (by omega)
          · have e4 : p.length + 1 - q.length = 0 := by omega
            rw [e4]
            have z6 : ¬ (wrap64 ((p.length : Int) - (q.length : Int)) ≥ 0) := by rw [wrap_id (by omega) (by omega)]; omega
            refine Ev.step (fun k => spec_DivPoly.l0.eq_2 _ _ _ _ _ k) ?_
            simp only [if_neg z6]
            exact Ev.bind (spec_l1Cut_ev _ (by rw [List.length_replicate]; omega)) (Ev.bind (spec_l1Cut_ev p (by omega)) (Ev.now _))
      · have z0 : (((m.length : Nat) : Int) == 0) = true := by rw [beq_iff_eq]; omega
        simp only [if_true, z0, h3, decide_false, Bool.and_false]
        exact no

/-- What GeneratorOf answers. -/
def isW (a : Int) : Bool := decide (1 ≤ a ∧ a ≤ 3)
theorem isW_nat {a : Int} (h : isW a = true) : ∃ n : Nat, a = (n : Int) ∧ 1 ≤ n ∧ n ≤ 3 := by
  simp only [isW, decide_eq_true_eq] at h
  exact ⟨a.toNat, by omega, by omega, by omega⟩
def genV (a : Int) : List Int × Bool := if isW a then (Poly.up (Poly.gen a.toNat), true) else ([], false)

theorem spec_l4Wrong_eq (a : Int) : spec_l4Wrong.f a = some (isW a) := by
  unfold spec_l4Wrong.f; rw [spec_l1In_eq]; rfl

theorem spec_l1MulPoly_l0 (p q : List Nat) (hp : Poly.AllB p) (hq : Poly.AllB q) (hpl : p.length ≤ 1000) (hql : q.length ≤ 1000) : ∀ (d i : Nat) (out : List Nat), i + d = p.length → out.length = p.length + q.length → Poly.AllB out →
    Ev (fun k => spec_l1MulPoly.l0 k (Poly.up q) (Poly.up out) (Poly.up p) (p.length : Int) (i : Int)) (Poly.up (Poly.tr (Poly.mpA q (p.drop i) i out))) := by
  intro d
  induction d with
  | zero =>
    intro i out hi hol hob
    obtain rfl : i = p.length := by omega
    rw [List.drop_length]
    refine Ev.step (f := fun k => (spec_l1Cut.f k (Poly.up out)).bind fun t => some t) (fun k => ?_) (Ev.bind (f := fun _ t => some t) (spec_l1Cut_ev out (by omega)) (Ev.now _))
    simp only [spec_l1MulPoly.l0]
    rw [if_neg (by omega)]
  | succ d ih =>
    intro i out hi hol hob
    have hlt : i < p.length := by omega
    have ha : p.getD i 0 < 256 := hp.get i
    have inner : ∀ (e j : Nat) (o : List Nat), j + e = q.length → o.length = p.length + q.length → Poly.AllB o →
        Ev (fun k => spec_l1MulPoly.l1 k (Poly.up q) (Poly.up o) (i : Int) ((p.getD i 0 : Nat) : Int) (Poly.up p) (p.length : Int) (i : Int) (Poly.up q) (q.length : Int) (j : Int)) (Poly.up (Poly.tr (Poly.mpA q (p.drop (i + 1)) (i + 1) (Poly.mrow (p.getD i 0) (q.drop j) (i + j) o)))) := by
      intro e
      induction e with
      | zero =>
        intro j o hj hol hob
        obtain rfl : j = q.length := by omega
        rw [List.drop_length]
        refine Ev.step (f := fun k => spec_l1MulPoly.l0 k (Poly.up q) (Poly.up o) (Poly.up p) (p.length : Int) ((i + 1 : Nat) : Int)) (fun k => ?_) (ih (i + 1) o (by omega) hol hob)
        simp only [spec_l1MulPoly.l1, wrap_succ i (by omega)]
        rw [if_neg (by omega)]
      | succ e ihe =>
        intro j o hj hol hob
        have hjl : j < q.length := by omega
        have hb : q.getD j 0 < 256 := hq.get j
        have hdrop : q.drop j = q.getD j 0 :: q.drop (j + 1) := by
          rw [List.drop_eq_getElem_cons hjl]
          simp [List.getD_eq_getElem?_getD, List.getElem?_eq_getElem hjl]
        rw [hdrop]
        unfold Poly.mrow
        have hx := xor_up (hob.get (i + j)) (Gf.gm_lt (q.getD j 0) ha)
        refine Ev.step (f := fun k => (spec_l1Mul.f k ((p.getD i 0 : Nat) : Int) ((q.getD j 0 : Nat) : Int)).bind fun t => spec_l1MulPoly.l1 k (Poly.up q) ((Poly.up o).set (i + j) (Go.bits .xor .i64 ((o.getD (i + j) 0 : Nat) : Int) t)) (i : Int) ((p.getD i 0 : Nat) : Int) (Poly.up p) (p.length : Int) (i : Int) (Poly.up q) (q.length : Int) ((j + 1 : Nat) : Int)) (fun k => ?_) ?_
        · simp only [spec_l1MulPoly.l1, wrap_add i j (by omega), wrap_succ j (by omega), Poly.rd_up, Poly.up_length, Int.toNat_natCast]
          rw [if_pos (by omega), if_pos (by omega), if_pos (by omega), if_pos (by omega), if_pos (by omega)]
        · refine Ev.bind (f := fun k t => spec_l1MulPoly.l1 k (Poly.up q) ((Poly.up o).set (i + j) (Go.bits .xor .i64 ((o.getD (i + j) 0 : Nat) : Int) t)) (i : Int) ((p.getD i 0 : Nat) : Int) (Poly.up p) (p.length : Int) (i : Int) (Poly.up q) (q.length : Int) ((j + 1 : Nat) : Int)) (spec_l1Mul_ev _ _ ha hb) ?_
          simp only [hx, Poly.up_set]
          have := ihe (j + 1) (o.set (i + j) (o.getD (i + j) 0 ^^^ Gf.gm (p.getD i 0) (q.getD j 0))) (by omega) (by rw [List.length_set]; exact hol) (hob.set _ (Gf.xor_byte (hob.get _) (Gf.gm_lt _ ha)))
          rw [show i + (j + 1) = i + j + 1 by omega] at this
          exact this
    have hdrop : p.drop i = p.getD i 0 :: p.drop (i + 1) := by
      rw [List.drop_eq_getElem_cons hlt]
      simp [List.getD_eq_getElem?_getD, List.getElem?_eq_getElem hlt]
    rw [hdrop]
    unfold Poly.mpA
    have := inner q.length 0 out (by omega) hol hob
    rw [List.drop_zero, Nat.add_zero] at this
    refine Ev.step (f := fun k => spec_l1MulPoly.l1 k (Poly.up q) (Poly.up out) (i : Int) ((p.getD i 0 : Nat) : Int) (Poly.up p) (p.length : Int) (i : Int) (Poly.up q) (q.length : Int) 0) (fun k => ?_) this
    simp only [spec_l1MulPoly.l0, Poly.rd_up, Poly.up_length]
    rw [if_pos (by omega), if_pos (by omega), if_pos (by omega)]
theorem spec_l1MulPoly_ev (p q : List Nat) (hp : Poly.AllB p) (hq : Poly.AllB q) (hpl : p.length ≤ 1000) (hql : q.length ≤ 1000) : Ev (fun k => spec_l1MulPoly.f k (Poly.up p) (Poly.up q)) (Poly.up (Poly.mulP p q)) := by
  unfold spec_l1MulPoly.f Poly.mulP
  have z1 : (0 : Int) ≤ ((p.length + q.length : Nat) : Int) := by omega
  have z2 : p.length + q.length ≤ 35184372088832 := by omega
  simp only [Poly.up_length, wrap_add p.length q.length (by omega), if_pos z1, Int.toNat_natCast, if_pos z2, Poly.up_zeros]
  exact spec_l1MulPoly_l0 p q hp hq hpl hql p.length 0 _ (by omega) (by simp) (Poly.AllB.zeros _)

theorem spec_l4Generator_l0 (w : Nat) (hw : w ≤ 3) : ∀ (d k0 : Nat) (acc : List Nat), k0 + d = 2 * w → acc.length ≤ 900 - 2 * d → Poly.AllB acc → Ev (fun k => spec_l4Generator.l0 k (w : Int) (Poly.up acc) (k0 : Int)) (Poly.up (Poly.genA d k0 acc)) := by
  have e2 : wrap64 (2 * (w : Int)) = ((2 * w : Nat) : Int) := by rw [wrap_id (by omega) (by omega)]; omega
  intro d
  induction d with
  | zero =>
    intro k0 acc hk _ _
    refine Ev.step (f := fun _ => some (Poly.up acc)) (fun k => ?_) (Ev.now _)
    simp only [spec_l4Generator.l0, e2]
    rw [if_neg (by omega)]
  | succ d ih =>
    intro k0 acc hk hl hb
    have hq : Poly.AllB [Gf.pw 2 k0, 1] := Poly.AllB.cons (Gf.pw_lt _) (Poly.AllB.cons (by decide) Poly.AllB.nil)
    have hml := Poly.mulP_length acc [Gf.pw 2 k0, 1]
    simp only [List.length_cons, List.length_nil] at hml
    refine Ev.step (f := fun k => (spec_l1Pow.f k 2 (k0 : Int)).bind fun t => (spec_l1MulPoly.f k (Poly.up acc) [t, 1]).bind fun u => spec_l4Generator.l0 k (w : Int) u ((k0 + 1 : Nat) : Int)) (fun k => ?_) ?_
    · simp only [spec_l4Generator.l0, e2, wrap_succ k0 (by omega)]
      rw [if_pos (by omega)]
    · refine Ev.bind (f := fun k t => (spec_l1MulPoly.f k (Poly.up acc) [t, 1]).bind fun u => spec_l4Generator.l0 k (w : Int) u ((k0 + 1 : Nat) : Int)) (spec_l1Pow_ev 2 k0 (by decide) (by omega)) ?_
      exact Ev.bind (f := fun k u => spec_l4Generator.l0 k (w : Int) u ((k0 + 1 : Nat) : Int)) (spec_l1MulPoly_ev acc [Gf.pw 2 k0, 1] hb hq (by omega) (by simp)) (ih (k0 + 1) _ (by omega) (by omega) (Poly.mulP_bytes _ hb))
theorem spec_l4Generator_ev (w : Nat) (hw : w ≤ 3) : Ev (fun k => spec_l4Generator.f k (w : Int)) (Poly.up (Poly.gen w)) :=
  spec_l4Generator_l0 w hw (2 * w) 0 [1] (by omega) (by simp; omega) (Poly.AllB.cons (by decide) Poly.AllB.nil)

/-- Is a list a word? -/
def isLg (l : List Int) (w : Int) : Bool := isW w && (decide (2 * w < (l.length : Int) ∧ l.length ≤ 24) && l.all isB)
theorem isLg_up {l : List Int} {w : Int} (h : isLg l w = true) : ∃ (m : List Nat) (n : Nat), l = Poly.up m ∧ w = (n : Int) ∧ Poly.AllB m ∧ 1 ≤ n ∧ n ≤ 3 ∧ 2 * n < m.length ∧ m.length ≤ 24 := by
  unfold isLg at h
  simp only [Bool.and_eq_true, decide_eq_true_eq] at h
  obtain ⟨h1, ⟨h2, h3⟩, h4⟩ := h
  obtain ⟨n, rfl, hn1, hn3⟩ := isW_nat h1
  obtain ⟨m, rfl, hm⟩ := allB_up h4
  rw [Poly.up_length] at h2 h3
  exact ⟨m, n, rfl, rfl, hm, hn1, hn3, by omega, h3⟩

def wEncOk (m : List Int) (w : Int) : Bool := isW w && (decide (1 ≤ m.length ∧ (m.length : Int) + 2 * w ≤ 24) && m.all isB)
/-- What EncodeWord answers. -/
def wEncV (m : List Int) (w : Int) : List Int × Bool := if wEncOk m w then (Poly.up (Enc.encL (m.map Int.toNat) w.toNat), true) else ([], false)
theorem wEncOk_up {l : List Int} {w : Int} (h : wEncOk l w = true) : ∃ (m : List Nat) (n : Nat), l = Poly.up m ∧ w = (n : Int) ∧ Poly.AllB m ∧ 1 ≤ n ∧ n ≤ 3 ∧ 1 ≤ m.length ∧ m.length + 2 * n ≤ 24 := by
  unfold wEncOk at h
  simp only [Bool.and_eq_true, decide_eq_true_eq] at h
  obtain ⟨h1, ⟨h2, h3⟩, h4⟩ := h
  obtain ⟨n, rfl, hn1, hn3⟩ := isW_nat h1
  obtain ⟨m, rfl, hm⟩ := allB_up h4
  rw [Poly.up_length] at h2 h3
  exact ⟨m, n, rfl, rfl, hm, hn1, hn3, h2, by omega⟩
theorem up_wEncOk {m : List Nat} {n : Nat} (hm : Poly.AllB m) (h1 : 1 ≤ n) (h3 : n ≤ 3) (h4 : 1 ≤ m.length) (h5 : m.length + 2 * n ≤ 24) : wEncOk (Poly.up m) (n : Int) = true := by
  unfold wEncOk isW
  rw [up_allB hm, Poly.up_length, decide_eq_true (by omega), decide_eq_true (by omega)]; rfl
theorem wEncV_up {m : List Nat} {n : Nat} (h : wEncOk (Poly.up m) (n : Int) = true) : wEncV (Poly.up m) (n : Int) = (Poly.up (Enc.encL m n), true) := by
  unfold wEncV
  rw [if_pos h, toNat_up, Int.toNat_natCast]
theorem wEncV_length (m : List Int) (w : Int) : (wEncV m w).1.length ≤ 24 := by
  unfold wEncV
  split
  · rename_i h
    obtain ⟨x, n, rfl, rfl, hx, h1, h3, h4, h5⟩ := wEncOk_up h
    rw [toNat_up, Int.toNat_natCast, Poly.up_length, Enc.encL_length hx]; omega
  · simp

theorem rst_divI (m : List Nat) (n : Nat) : Poly.tr (divI (List.replicate (2 * n) 0 ++ m) (Poly.gen n)).2 = Enc.rst m n := by
  unfold divI Enc.rst
  rw [Enc.dvA_rs]
theorem rst_divS {m : List Nat} (hm : Poly.AllB m) (n : Nat) (h : 2 * n + m.length ≤ 39) :
    (divPV (Poly.up (Poly.tr (List.replicate (2 * n) 0 ++ m))) (Poly.up (Poly.gen n))).2.1 = Poly.up (Enc.rst m n) := by
  obtain ⟨g1, g2⟩ := Enc.gen_top n
  have hl := Poly.tr_length (List.replicate (2 * n) 0 ++ m)
  rw [List.length_append, List.length_replicate] at hl
  have h1 : isP (Poly.up (Poly.tr (List.replicate (2 * n) 0 ++ m))) = true := up_isP (Poly.tr_bytes (Enc.zm_Bs hm n)) (by omega) (Pev.tr_last _)
  have h2 : isP (Poly.up (Poly.gen n)) = true := up_isP (Poly.gen_bytes n) (by rw [g1]; omega) (.inr g2)
  unfold divPV
  rw [h1, h2, decide_eq_true (show 0 < (Poly.up (Poly.gen n)).length by rw [Poly.up_length]; omega), toNat_up, toNat_up]
  show Poly.up (Poly.tr (divI (Poly.tr (List.replicate (2 * n) 0 ++ m)) (Poly.gen n)).2) = _
  unfold divI Enc.rst
  rw [Enc.dvA_rs, Enc.rs_cut _ (by omega)]
theorem encL_drop_rst (m : List Nat) (n : Nat) : Enc.rst m n ++ (List.replicate (2 * n) 0 ++ m).drop (Enc.rst m n).length = Enc.encL m n ∨ 2 * n < (Enc.rst m n).length := by
  by_cases h : 2 * n < (Enc.rst m n).length
  · exact .inr h
  · refine .inl ?_
    unfold Enc.encL
    rw [List.drop_append_of_le_length (by rw [List.length_replicate]; omega), List.drop_replicate, List.append_assoc]

theorem spec_EncodeWord_l0 (out rest : List Nat) (h : rest.length ≤ out.length) (hb : out.length ≤ 1000) : ∀ d i : Nat, i + d = rest.length → Ev (fun k => spec_EncodeWord.l0 k (Poly.up (rest.take i ++ out.drop i)) (Poly.up rest) ((Poly.up rest).length : Int) (i : Int)) (Poly.up (rest ++ out.drop rest.length), true) := by
  intro d
  induction d with
  | zero =>
    intro i hi
    obtain rfl : i = rest.length := by omega
    rw [List.take_length]
    exact Ev.step (f := fun _ => some (Poly.up (rest ++ out.drop rest.length), true)) (fun k => by rw [spec_EncodeWord.l0.eq_2, if_neg (by rw [Poly.up_length]; omega)]) (Ev.now _)
  | succ d ih =>
    intro i hi
    have hl : (rest.take i ++ out.drop i).length = out.length := by rw [List.length_append, List.length_take, List.length_drop]; omega
    have hir : i < rest.length := by omega
    have hs : (rest.take i ++ out.drop i).set i (rest.getD i 0) = rest.take (i + 1) ++ out.drop (i + 1) := by
      rw [List.set_append_right _ _ (by rw [List.length_take]; omega), List.length_take, show i - min i rest.length = 0 by omega, List.drop_eq_getElem_cons (show i < out.length by omega), List.set_cons_zero,
        List.take_succ_eq_append_getElem hir, List.append_assoc, List.getD_eq_getElem?_getD, List.getElem?_eq_getElem hir]; rfl
    refine Ev.step (f := fun k => spec_EncodeWord.l0 k (Poly.up (rest.take (i + 1) ++ out.drop (i + 1))) (Poly.up rest) ((Poly.up rest).length : Int) ((i + 1 : Nat) : Int)) (fun k => ?_) (ih (i + 1) (by omega))
    rw [spec_EncodeWord.l0.eq_2, if_pos (by rw [Poly.up_length]; omega), if_pos (by omega), if_pos (by rw [Poly.up_length]; omega), if_pos (by rw [Poly.up_length, hl]; omega), Poly.rd_up, Int.toNat_natCast, Poly.up_set, hs, wrap_succ i (by omega)]
theorem spec_EncodeWord_ev (l : List Int) (w : Int) (hl : l.length ≤ 1048576) : Ev (fun k => spec_EncodeWord.f k l w) (wEncV l w) := by
  have J1 : Ev (fun k => spec_EncodeWord.j0 k l w true) (([] : List Int), false) := Ev.step (f := fun _ => some (([] : List Int), false)) (fun k => by rw [spec_EncodeWord.j0.eq_2, if_pos rfl]) (Ev.now _)
  unfold spec_EncodeWord.f wEncV wEncOk
  simp only [spec_l4Wrong_eq, spec_l1In_eq, Option.bind_some]
  cases h1 : isW w with
  | false =>
    simp only [Bool.false_eq_true, if_false, Bool.false_and]
    exact J1
  | true =>
    obtain ⟨n, rfl, h2, h3⟩ := isW_nat h1
    have e : wrap64 (24 - wrap64 (2 * (n : Int))) = 24 - 2 * (n : Int) := by
      rw [wrap_id (n := 2 * (n : Int)) (by omega) (by omega), wrap_id (by omega) (by omega)]
    have e2 : decide ((1 : Int) ≤ (l.length : Int) ∧ (l.length : Int) ≤ wrap64 (24 - wrap64 (2 * (n : Int)))) = decide (1 ≤ l.length ∧ (l.length : Int) + 2 * (n : Int) ≤ 24) := by
      rw [e]; exact decide_eq_decide.2 (by omega)
    simp only [if_true, e2, Bool.true_and]
    cases h4 : decide (1 ≤ l.length ∧ (l.length : Int) + 2 * (n : Int) ≤ 24) with
    | false =>
      simp only [Bool.false_eq_true, if_false, Bool.false_and]
      exact J1
    | true =>
      rw [decide_eq_true_eq] at h4
      simp only [if_true, Bool.true_and]
      refine Ev.bind (spec_l1All_ev l (by omega)) ?_
      cases h5 : l.all isB with
      | false =>
        simp only [Bool.not_false, Bool.false_eq_true, if_false]
        exact J1
      | true =>
        obtain ⟨m, rfl, hm⟩ := allB_up h5
        simp only [Bool.not_true, if_true]
        rw [Poly.up_length] at h4
        rw [toNat_up, Int.toNat_natCast]
        have ew : wrap64 (2 * (n : Int)) = ((2 * n : Nat) : Int) := by rw [wrap_id (by omega) (by omega)]; omega
        have hrl := Enc.rst_length hm n
        have e9 := (encL_drop_rst m n).resolve_right (by omega)
        have H0 := spec_EncodeWord_l0 (List.replicate (2 * n) 0 ++ m) (Enc.rst m n) (by rw [List.length_append, List.length_replicate]; omega) (by rw [List.length_append, List.length_replicate]; omega) (Enc.rst m n).length 0 (by omega)
        rw [List.take_zero, List.drop_zero, List.nil_append, e9] at H0
        refine Ev.step (f := fun k => (spec_l1Cut.f k (Poly.up (List.replicate (2 * n) 0 ++ m))).bind fun t219 => (spec_l4Generator.f k (n : Int)).bind fun t222 => (spec_DivPoly.f k t219 t222).bind fun bt225 => spec_EncodeWord.l0 k (Poly.up (List.replicate (2 * n) 0 ++ m)) bt225.2.1 (bt225.2.1.length : Int) 0) (fun k => ?_) ?_
        · rw [spec_EncodeWord.j0.eq_2, if_neg (by decide), ew, if_pos (by omega), if_pos (by omega), Option.bind_some, Int.toNat_natCast, if_pos (by rw [List.length_replicate, Poly.up_length]; omega), Option.bind_some, Poly.up_zeros, Poly.up_append]
        · refine Ev.bind (spec_l1Cut_ev _ (by rw [List.length_append, List.length_replicate]; omega)) ?_
          refine Ev.bind (spec_l4Generator_ev n (by omega)) ?_
          refine Ev.bind (spec_DivPoly_ev _ _) ?_
          rw [rst_divS hm n (by omega)]
          exact H0

theorem impl_areGf_eq (l : List Int) : impl_areGf.f l = some (l.all isB) := by
  unfold impl_areGf.f
  have e : impl_areGf.bad = fun n => !isB n := by
    funext n
    simp only [impl_areGf.bad, isB]
  rw [e, List.all_eq_not_any_not]

theorem impl_isWrong_eq (a : Int) : impl_isWrong.f a = some (isW a) := by
  unfold impl_isWrong.f; rw [impl_within_eq]; rfl

theorem impl_mul_l0 : ∀ (n a b o : Nat), a < 256 → o < 256 → b < 2 ^ n → b < 2 ^ 63 → Ev (fun k => impl_mul.l0 k (a : Int) (b : Int) (o : Int)) ((Gf.gmA n a b o : Nat) : Int) := by
  have stop : ∀ a o : Nat, Ev (fun k => impl_mul.l0 k (a : Int) ((0 : Nat) : Int) (o : Int)) ((o : Nat) : Int) := fun a o =>
    Ev.step (f := fun _ => some ((o : Nat) : Int)) (fun k => by simp only [impl_mul.l0]; rw [if_neg (by omega)]) (Ev.now _)
  intro n
  induction n with
  | zero =>
    intro a b o ha ho hb _
    obtain rfl : b = 0 := by simpa using hb
    exact stop a o
  | succ n ih =>
    intro a b o ha ho hb hb63
    by_cases h0 : b = 0
    · subst h0
      rw [Gf.gmA_zero]
      exact stop a o
    · have e1 : wrap64 ((a : Int) * 2) = ((a * 2 : Nat) : Int) := by rw [wrap_id (by omega) (by omega)]; omega
      have e2 : Go.bits .xor .i64 ((a * 2 : Nat) : Int) 285 = (((a * 2) ^^^ 285 : Nat) : Int) := xor_nat (a := a * 2) (b := 285) (by omega) (by decide)
      have e3 : Go.bits .xor .i64 (o : Int) (a : Int) = ((o ^^^ a : Nat) : Int) := xor_nat (by omega) (by omega)
      have e4 := and_one (a := b) hb63
      refine Ev.step (f := fun k => impl_mul.l0 k ((Gf.xt a : Nat) : Int) ((b / 2 : Nat) : Int) (((if b % 2 = 1 then o ^^^ a else o) : Nat) : Int)) (fun k => ?_) (ih _ _ _ (Gf.xt_lt a ha) ?_ (by rw [Nat.pow_succ] at hb; omega) (by omega))
      · simp only [impl_mul.l0, e1, e2, e3, e4, half_nat, Gf.xt]
        rw [if_pos (show (b : Int) > 0 by omega)]
        by_cases h1 : b % 2 = 1 <;> by_cases h2 : 255 < a * 2
        · rw [if_pos (show ((b % 2 : Nat) : Int) = 1 by omega), if_pos h1, if_pos (by omega), if_pos h2]
        · rw [if_pos (show ((b % 2 : Nat) : Int) = 1 by omega), if_pos h1, if_neg (by omega), if_neg h2]
        · rw [if_neg (show ¬ ((b % 2 : Nat) : Int) = 1 by omega), if_neg h1, if_pos (by omega), if_pos h2]
        · rw [if_neg (show ¬ ((b % 2 : Nat) : Int) = 1 by omega), if_neg h1, if_neg (by omega), if_neg h2]
      · split
        · exact Gf.xor_byte ho ha
        · exact ho
theorem impl_mul_ev (a b : Nat) (ha : a < 256) (hb : b < 256) : Ev (fun k => impl_mul.f k (a : Int) (b : Int)) ((Gf.gm a b : Nat) : Int) :=
  impl_mul_l0 8 a b 0 ha (by decide) hb (by omega)

theorem impl_pow_l0 : ∀ (f a n o : Nat), a < 256 → o < 256 → n < 2 ^ f → n < 2 ^ 63 → Ev (fun k => impl_pow.l0 k (a : Int) (n : Int) (o : Int)) ((Gf.pwA f a n o : Nat) : Int) := by
  have stop : ∀ a o : Nat, Ev (fun k => impl_pow.l0 k (a : Int) ((0 : Nat) : Int) (o : Int)) ((o : Nat) : Int) := fun a o =>
    Ev.step (f := fun _ => some ((o : Nat) : Int)) (fun k => by simp only [impl_pow.l0]; rw [if_neg (by omega)]) (Ev.now _)
  have z : ∀ f a o, Gf.pwA f a 0 o = o := by
    intro f
    induction f with
    | zero => intro a o; rfl
    | succ f ih => intro a o; exact ih _ _
  intro f
  induction f with
  | zero =>
    intro a n o ha ho hn _
    obtain rfl : n = 0 := by simpa using hn
    exact stop a o
  | succ f ih =>
    intro a n o ha ho hn hn63
    by_cases h0 : n = 0
    · subst h0
      rw [z]
      exact stop a o
    · have e4 := and_one (a := n) hn63
      have hsq := Gf.gm_lt a ha
      by_cases h1 : n % 2 = 1
      · refine Ev.step (f := fun k => (impl_mul.f k (o : Int) (a : Int)).bind fun t => (impl_mul.f k (a : Int) (a : Int)).bind fun u => impl_pow.l0 k u ((n / 2 : Nat) : Int) t) (fun k => ?_) ?_
        · simp only [impl_pow.l0, e4, half_nat]
          rw [if_pos (show (n : Int) > 0 by omega), if_pos (show ((n % 2 : Nat) : Int) = 1 by omega)]
        · have := ih (Gf.gm a a) (n / 2) (Gf.gm o a) hsq (Gf.gm_lt a ho) (by rw [Nat.pow_succ] at hn; omega) (by omega)
          show Ev _ ((Gf.pwA f (Gf.gm a a) (n / 2) (if n % 2 = 1 then Gf.gm o a else o) : Nat) : Int)
          rw [if_pos h1]
          exact Ev.bind (f := fun k t => (impl_mul.f k (a : Int) (a : Int)).bind fun u => impl_pow.l0 k u ((n / 2 : Nat) : Int) t) (impl_mul_ev o a ho ha) (Ev.bind (f := fun k u => impl_pow.l0 k u ((n / 2 : Nat) : Int) ((Gf.gm o a : Nat) : Int)) (impl_mul_ev a a ha ha) this)
      · refine Ev.step (f := fun k => (impl_mul.f k (a : Int) (a : Int)).bind fun u => impl_pow.l0 k u ((n / 2 : Nat) : Int) (o : Int)) (fun k => ?_) ?_
        · simp only [impl_pow.l0, e4, half_nat]
          rw [if_pos (show (n : Int) > 0 by omega), if_neg (show ¬ ((n % 2 : Nat) : Int) = 1 by omega)]
        · have := ih (Gf.gm a a) (n / 2) o hsq ho (by rw [Nat.pow_succ] at hn; omega) (by omega)
          show Ev _ ((Gf.pwA f (Gf.gm a a) (n / 2) (if n % 2 = 1 then Gf.gm o a else o) : Nat) : Int)
          rw [if_neg h1]
          exact Ev.bind (f := fun k u => impl_pow.l0 k u ((n / 2 : Nat) : Int) (o : Int)) (impl_mul_ev a a ha ha) this
theorem impl_pow_ev (a n : Nat) (ha : a < 256) (hn : n < 2 ^ 62) : Ev (fun k => impl_pow.f k (a : Int) (n : Int)) ((Gf.pw a n : Nat) : Int) := by
  have := impl_pow_l0 62 a n 1 ha (by decide) hn (by omega)
  rw [Gf.pwA_eq 62 a n 1 ha (by decide) hn, Gf.one_gm _ (Gf.pw_lt n)] at this
  exact this

theorem impl_inverse_ev (b : Nat) (hb : b < 256) : Ev (fun k => impl_inverse.f k (b : Int)) ((Gf.gi b : Nat) : Int) := by
  unfold impl_inverse.f
  exact Ev.bind (f := fun _ u => some u) (impl_pow_ev b 254 hb (by decide)) (Ev.now _)



theorem impl_trimmed_l0 (l : List Nat) (hl : l.length ≤ 1000000) : ∀ n, n ≤ l.length → Ev (fun k => impl_trimmed.l0 k (Poly.up l) (n : Int)) (Poly.up (Poly.trN l n)) := by
  intro n
  induction n with
  | zero =>
    intro _
    refine Ev.step (f := fun _ => some (Poly.up (Poly.trN l 0))) (fun k => ?_) (Ev.now _)
    simp only [impl_trimmed.l0, Poly.up_length]
    rw [if_neg (by omega), if_pos (by omega), if_pos (by omega)]
    rfl
  | succ n ih =>
    intro hn
    have hw : wrap64 (((n + 1 : Nat) : Int) - 1) = (n : Int) := by rw [wrap_pred _ (by omega) (by omega)]; rfl
    unfold Poly.trN
    by_cases h : l.getD n 0 = 0
    · rw [if_pos h]
      refine Ev.step (f := fun k => impl_trimmed.l0 k (Poly.up l) (n : Int)) (fun k => ?_) (ih (by omega))
      simp only [impl_trimmed.l0, Poly.up_length, hw, Poly.rd_up, h]
      rw [if_pos (by omega), if_pos (by omega), if_pos (by omega), if_pos (by omega)]
    · rw [if_neg h]
      refine Ev.step (f := fun _ => some (Poly.up (l.take (n + 1)))) (fun k => ?_) (Ev.now _)
      simp only [impl_trimmed.l0, Poly.up_length, hw, Poly.rd_up]
      rw [if_pos (by omega), if_pos (by omega), if_pos (by omega), if_neg (by omega), if_pos (by omega), if_pos (by omega), Int.toNat_natCast, Poly.up_take]
theorem impl_trimmed_ev (l : List Nat) (hl : l.length ≤ 1000000) : Ev (fun k => impl_trimmed.f k (Poly.up l)) (Poly.up (Poly.tr l)) := by
  have := impl_trimmed_l0 l hl l.length (Nat.le_refl _)
  unfold impl_trimmed.f
  rw [Poly.up_length]
  exact this

theorem impl_divPoly_l (q : List Nat) (hq : Poly.AllB q) (hq0 : 0 < q.length) (hql : q.length ≤ 1000) (inv : Nat) (hinv : inv < 256) : ∀ (n : Nat) (quo rest : List Nat), Poly.AllB quo → Poly.AllB rest → n ≤ quo.length → n + q.length ≤ rest.length + 1 → quo.length ≤ 5000 → rest.length ≤ 5000 →
    Ev (fun r => impl_divPoly.l0 r (Poly.up q) (Poly.up rest) (Poly.up quo) (inv : Int) ((n : Int) - 1)) (Poly.up (Poly.tr (Poly.dvA q inv n quo rest).1), Poly.up (Poly.tr (Poly.dvA q inv n quo rest).2)) := by
  intro n
  induction n with
  | zero =>
    intro quo rest h1 h2 _ _ h5 h6
    have z : ¬ (((0 : Nat) : Int) - 1 ≥ 0) := by omega
    refine Ev.step (fun k => impl_divPoly.l0.eq_2 _ _ _ _ _ k) ?_
    simp only [if_neg z]
    exact Ev.bind (impl_trimmed_ev quo (by omega)) (Ev.bind (impl_trimmed_ev rest (by omega)) (Ev.now _))
  | succ n ih =>
    intro quo rest h1 h2 h3 h4 h5 h6
    have e0 : ((n + 1 : Nat) : Int) - 1 = (n : Int) := by omega
    have e1 : wrap64 (wrap64 ((n : Int) + (q.length : Int)) - 1) = ((n + q.length - 1 : Nat) : Int) := by rw [wrap_addn _ _ (by omega), wrap_id (by omega) (by omega)]; omega
    have z1 : (n : Int) ≥ 0 := by omega
    have z2 : (0 : Int) ≤ ((n + q.length - 1 : Nat) : Int) := by omega
    have z3 : ((n + q.length - 1 : Nat) : Int) < (rest.length : Int) := by omega
    have z4 : (0 : Int) ≤ (n : Int) := by omega
    have z5 : (n : Int) < (quo.length : Int) := by omega
    have hf := Gf.gm_lt inv (Pev.getD_lt h2 (n + q.length - 1))
    rw [e0]
    refine Ev.step (fun k => impl_divPoly.l0.eq_2 _ _ _ _ _ k) ?_
    simp only [Poly.up_length, Poly.rd_up, e1, if_pos z1, if_pos z2, if_pos z3, if_pos z4, if_pos z5, Int.toNat_natCast]
    refine Ev.bind (impl_mul_ev _ _ (Pev.getD_lt h2 (n + q.length - 1)) hinv) ?_
    unfold Poly.dvA
    generalize Gf.gm (rest.getD (n + q.length - 1) 0) inv = f at hf ⊢
    rw [Poly.up_set]
    have hqn : (quo.set n f).getD n 0 = f := by rw [Pev.getD_set _ _ _ _ (by omega), if_pos rfl]
    have inner : ∀ (d j : Nat) (out : List Nat), j + d = q.length → Poly.AllB out → out.length = rest.length → 
        Poly.mrow f (q.drop j) (n + j) out = Poly.mrow f q n rest → Ev (fun r => impl_divPoly.l1 r (Poly.up q) (Poly.up out) (Poly.up (quo.set n f)) (inv : Int) (n : Int) (Poly.up q) (q.length : Int) (j : Int)) (Poly.up (Poly.tr (Poly.dvA q inv n (quo.set n f) (Poly.mrow f q n rest)).1), Poly.up (Poly.tr (Poly.dvA q inv n (quo.set n f) (Poly.mrow f q n rest)).2)) := by
      intro d
      induction d with
      | zero =>
        intro j out hj ho hl he
        obtain rfl : j = q.length := by omega
        rw [List.drop_length] at he
        have he' : out = Poly.mrow f q n rest := he
        have z : ¬ ((q.length : Nat) : Int) < ((q.length : Nat) : Int) := by omega
        refine Ev.step (fun k => impl_divPoly.l1.eq_2 _ _ _ _ _ _ _ _ k) ?_
        simp only [if_neg z, wrap_down n (by omega)]
        rw [← he']
        exact ih (quo.set n f) out (Poly.AllB.set h1 n hf) ho (by rw [List.length_set]; omega) (by omega) (by rw [List.length_set]; omega) (by omega)
      | succ d ihd =>
        intro j out hj ho hl he
        have hjl : j < q.length := by omega
        have y1 : (j : Int) < (q.length : Int) := by omega
        have y2 : (0 : Int) ≤ (j : Int) := by omega
        have y3 : (0 : Int) ≤ ((n + j : Nat) : Int) := by omega
        have y4 : ((n + j : Nat) : Int) < (out.length : Int) := by omega
        have y5 : (n : Int) < ((quo.set n f).length : Int) := by rw [List.length_set]; omega
        refine Ev.step (fun k => impl_divPoly.l1.eq_2 _ _ _ _ _ _ _ _ k) ?_
        simp only [Poly.up_length, Poly.rd_up, if_pos y1, if_pos y2, wrap_addn n j (by omega), if_pos y3, if_pos y4, if_pos z4, if_pos y5, hqn, wrap_up j (by omega), Int.toNat_natCast]
        refine Ev.bind (impl_mul_ev f (q.getD j 0) hf (hq.get j)) ?_
        rw [xor_up (ho.get (n + j)) (Gf.gm_lt (q.getD j 0) hf), Poly.up_set]
        refine ihd (j + 1) (out.set (n + j) (out.getD (n + j) 0 ^^^ Gf.gm f (q.getD j 0))) (by omega) (ho.set _ (Gf.xor_byte (ho.get _) (Gf.gm_lt _ hf))) (by rw [List.length_set]; exact hl) ?_
        rw [← he, drop_getD q j hjl, show n + (j + 1) = n + j + 1 by omega]
        rfl
    exact inner q.length 0 rest (by omega) h2 rfl (by rw [List.drop_zero, Nat.add_zero])
theorem impl_divPoly_ev (p q : List Nat) (hp : Poly.AllB p) (hq : Poly.AllB q) (hq0 : 0 < q.length) (hpl : p.length ≤ 1000) (hql : q.length ≤ 1000) : Ev (fun r => impl_divPoly.f r (Poly.up p) (Poly.up q)) (Poly.up (Poly.tr (divI p q).1), Poly.up (Poly.tr (divI p q).2)) := by
  have e0 : mx 0 (wrap64 (wrap64 ((p.length : Int) - (q.length : Int)) + 1)) = ((p.length + 1 - q.length : Nat) : Int) := by
    rw [wrap_id (n := (p.length : Int) - (q.length : Int)) (by omega) (by omega), wrap_id (by omega) (by omega)]
    unfold mx
    split <;> omega
  have z1 : (0 : Int) ≤ ((p.length + 1 - q.length : Nat) : Int) := by omega
  have z2 : ((p.length + 1 - q.length : Nat) : Int).toNat ≤ 35184372088832 := by omega
  have e2 : wrap64 ((q.length : Int) - 1) = ((q.length - 1 : Nat) : Int) := by rw [wrap_id (by omega) (by omega)]; omega
  have z4 : (0 : Int) ≤ ((q.length - 1 : Nat) : Int) := by omega
  have z5 : ((q.length - 1 : Nat) : Int) < (q.length : Int) := by omega
  have hcl : slices_Clone_int_int.f (Poly.up p) = some (Poly.up p) := by
    unfold slices_Clone_int_int.f
    exact if_pos (by rw [Poly.up_length]; omega)
  have ht := Pev.getD_lt hq (q.length - 1)
  have e3 : wrap64 ((((p.length + 1 - q.length) : Nat) : Int) - 1) = (((p.length + 1 - q.length) : Nat) : Int) - 1 := wrap_id (by omega) (by omega)
  refine Ev.congr (f := fun r => (impl_inverse.f r ((q.getD (q.length - 1) 0 : Nat) : Int)).bind fun t => impl_divPoly.l0 r (Poly.up q) (Poly.up p) (Poly.up (List.replicate (p.length + 1 - q.length) 0)) t ((((p.length + 1 - q.length) : Nat) : Int) - 1)) (fun r => ?_) ?_
  · unfold impl_divPoly.f
    rw [hcl, Option.bind_some, Poly.up_length, Poly.up_length, e0, if_pos z1, if_pos z2, Option.bind_some, e2, if_pos z4, if_pos z5, Poly.rd_up, Int.toNat_natCast, Poly.up_zeros, Poly.up_length, List.length_replicate, e3]
  · refine Ev.bind (impl_inverse_ev _ ht) ?_
    by_cases h4 : q.length ≤ p.length + 1
    · exact impl_divPoly_l q hq hq0 (by omega) _ (Gf.gi_lt _) (p.length + 1 - q.length) _ p (Poly.AllB.zeros _) hp (by rw [List.length_replicate]; exact Nat.le_refl _) (by omega) (by rw [List.length_replicate]; omega) (by omega)
    · have e4 : p.length + 1 - q.length = 0 := by omega
      unfold divI
      rw [e4]
      have z6 : ¬ (((0 : Nat) : Int) - 1 ≥ 0) := by omega
      refine Ev.step (fun k => impl_divPoly.l0.eq_2 _ _ _ _ _ k) ?_
      simp only [if_neg z6]
      exact Ev.bind (impl_trimmed_ev _ (by rw [List.length_replicate]; omega)) (Ev.bind (impl_trimmed_ev p (by omega)) (Ev.now _))

theorem impl_mulPoly_l0 (p q : List Nat) (hp : Poly.AllB p) (hq : Poly.AllB q) (hpl : p.length ≤ 1000) (hql : q.length ≤ 1000) : ∀ (d i : Nat) (out : List Nat), i + d = p.length → out.length = p.length + q.length → Poly.AllB out →
    Ev (fun k => impl_mulPoly.l0 k (Poly.up q) (Poly.up out) (Poly.up p) (p.length : Int) (i : Int)) (Poly.up (Poly.tr (Poly.mpA q (p.drop i) i out))) := by
  intro d
  induction d with
  | zero =>
    intro i out hi hol hob
    obtain rfl : i = p.length := by omega
    rw [List.drop_length]
    refine Ev.step (f := fun k => (impl_trimmed.f k (Poly.up out)).bind fun t => some t) (fun k => ?_) (Ev.bind (f := fun _ t => some t) (impl_trimmed_ev out (by omega)) (Ev.now _))
    simp only [impl_mulPoly.l0]
    rw [if_neg (by omega)]
  | succ d ih =>
    intro i out hi hol hob
    have hlt : i < p.length := by omega
    have ha : p.getD i 0 < 256 := hp.get i
    have inner : ∀ (e j : Nat) (o : List Nat), j + e = q.length → o.length = p.length + q.length → Poly.AllB o →
        Ev (fun k => impl_mulPoly.l1 k (Poly.up q) (Poly.up o) (i : Int) ((p.getD i 0 : Nat) : Int) (Poly.up p) (p.length : Int) (i : Int) (Poly.up q) (q.length : Int) (j : Int)) (Poly.up (Poly.tr (Poly.mpA q (p.drop (i + 1)) (i + 1) (Poly.mrow (p.getD i 0) (q.drop j) (i + j) o)))) := by
      intro e
      induction e with
      | zero =>
        intro j o hj hol hob
        obtain rfl : j = q.length := by omega
        rw [List.drop_length]
        refine Ev.step (f := fun k => impl_mulPoly.l0 k (Poly.up q) (Poly.up o) (Poly.up p) (p.length : Int) ((i + 1 : Nat) : Int)) (fun k => ?_) (ih (i + 1) o (by omega) hol hob)
        simp only [impl_mulPoly.l1, wrap_succ i (by omega)]
        rw [if_neg (by omega)]
      | succ e ihe =>
        intro j o hj hol hob
        have hjl : j < q.length := by omega
        have hb : q.getD j 0 < 256 := hq.get j
        have hdrop : q.drop j = q.getD j 0 :: q.drop (j + 1) := by
          rw [List.drop_eq_getElem_cons hjl]
          simp [List.getD_eq_getElem?_getD, List.getElem?_eq_getElem hjl]
        rw [hdrop]
        unfold Poly.mrow
        have hx := xor_up (hob.get (i + j)) (Gf.gm_lt (q.getD j 0) ha)
        refine Ev.step (f := fun k => (impl_mul.f k ((p.getD i 0 : Nat) : Int) ((q.getD j 0 : Nat) : Int)).bind fun t => impl_mulPoly.l1 k (Poly.up q) ((Poly.up o).set (i + j) (Go.bits .xor .i64 ((o.getD (i + j) 0 : Nat) : Int) t)) (i : Int) ((p.getD i 0 : Nat) : Int) (Poly.up p) (p.length : Int) (i : Int) (Poly.up q) (q.length : Int) ((j + 1 : Nat) : Int)) (fun k => ?_) ?_
        · simp only [impl_mulPoly.l1, wrap_add i j (by omega), wrap_succ j (by omega), Poly.rd_up, Poly.up_length, Int.toNat_natCast]
          rw [if_pos (by omega), if_pos (by omega), if_pos (by omega), if_pos (by omega), if_pos (by omega)]
        · refine Ev.bind (f := fun k t => impl_mulPoly.l1 k (Poly.up q) ((Poly.up o).set (i + j) (Go.bits .xor .i64 ((o.getD (i + j) 0 : Nat) : Int) t)) (i : Int) ((p.getD i 0 : Nat) : Int) (Poly.up p) (p.length : Int) (i : Int) (Poly.up q) (q.length : Int) ((j + 1 : Nat) : Int)) (impl_mul_ev _ _ ha hb) ?_
          simp only [hx, Poly.up_set]
          have := ihe (j + 1) (o.set (i + j) (o.getD (i + j) 0 ^^^ Gf.gm (p.getD i 0) (q.getD j 0))) (by omega) (by rw [List.length_set]; exact hol) (hob.set _ (Gf.xor_byte (hob.get _) (Gf.gm_lt _ ha)))
          rw [show i + (j + 1) = i + j + 1 by omega] at this
          exact this
    have hdrop : p.drop i = p.getD i 0 :: p.drop (i + 1) := by
      rw [List.drop_eq_getElem_cons hlt]
      simp [List.getD_eq_getElem?_getD, List.getElem?_eq_getElem hlt]
    rw [hdrop]
    unfold Poly.mpA
    have := inner q.length 0 out (by omega) hol hob
    rw [List.drop_zero, Nat.add_zero] at this
    refine Ev.step (f := fun k => impl_mulPoly.l1 k (Poly.up q) (Poly.up out) (i : Int) ((p.getD i 0 : Nat) : Int) (Poly.up p) (p.length : Int) (i : Int) (Poly.up q) (q.length : Int) 0) (fun k => ?_) this
    simp only [impl_mulPoly.l0, Poly.rd_up, Poly.up_length]
    rw [if_pos (by omega), if_pos (by omega), if_pos (by omega)]
theorem impl_mulPoly_ev (p q : List Nat) (hp : Poly.AllB p) (hq : Poly.AllB q) (hpl : p.length ≤ 1000) (hql : q.length ≤ 1000) : Ev (fun k => impl_mulPoly.f k (Poly.up p) (Poly.up q)) (Poly.up (Poly.mulP p q)) := by
  unfold impl_mulPoly.f Poly.mulP
  have z1 : (0 : Int) ≤ ((p.length + q.length : Nat) : Int) := by omega
  have z2 : p.length + q.length ≤ 35184372088832 := by omega
  simp only [Poly.up_length, wrap_add p.length q.length (by omega), if_pos z1, Int.toNat_natCast, if_pos z2, Poly.up_zeros]
  exact impl_mulPoly_l0 p q hp hq hpl hql p.length 0 _ (by omega) (by simp) (Poly.AllB.zeros _)

theorem impl_generator_l0 (w : Nat) (hw : w ≤ 3) : ∀ (d k0 : Nat) (acc : List Nat), k0 + d = 2 * w → acc.length ≤ 900 - 2 * d → Poly.AllB acc → Ev (fun k => impl_generator.l0 k (Poly.up acc) ((2 * w : Nat) : Int) (k0 : Int)) (Poly.up (Poly.genA d k0 acc)) := by
  intro d
  induction d with
  | zero =>
    intro k0 acc hk _ _
    refine Ev.step (f := fun _ => some (Poly.up acc)) (fun k => ?_) (Ev.now _)
    simp only [impl_generator.l0]
    rw [if_neg (by omega)]
  | succ d ih =>
    intro k0 acc hk hl hb
    have hq : Poly.AllB [Gf.pw 2 k0, 1] := Poly.AllB.cons (Gf.pw_lt _) (Poly.AllB.cons (by decide) Poly.AllB.nil)
    have hml := Poly.mulP_length acc [Gf.pw 2 k0, 1]
    simp only [List.length_cons, List.length_nil] at hml
    refine Ev.step (f := fun k => (impl_pow.f k 2 (k0 : Int)).bind fun t => (impl_mulPoly.f k (Poly.up acc) [t, 1]).bind fun u => impl_generator.l0 k u ((2 * w : Nat) : Int) ((k0 + 1 : Nat) : Int)) (fun k => ?_) ?_
    · simp only [impl_generator.l0, wrap_succ k0 (by omega)]
      rw [if_pos (by omega)]
    · refine Ev.bind (f := fun k t => (impl_mulPoly.f k (Poly.up acc) [t, 1]).bind fun u => impl_generator.l0 k u ((2 * w : Nat) : Int) ((k0 + 1 : Nat) : Int)) (impl_pow_ev 2 k0 (by decide) (by omega)) ?_
      exact Ev.bind (f := fun k u => impl_generator.l0 k u ((2 * w : Nat) : Int) ((k0 + 1 : Nat) : Int)) (impl_mulPoly_ev acc [Gf.pw 2 k0, 1] hb hq (by omega) (by simp)) (ih (k0 + 1) _ (by omega) (by omega) (Poly.mulP_bytes _ hb))
theorem impl_generator_ev (w : Nat) (hw : w ≤ 3) : Ev (fun k => impl_generator.f k (w : Int)) (Poly.up (Poly.gen w)) := by
  have e2 : wrap64 (2 * (w : Int)) = ((2 * w : Nat) : Int) := by rw [wrap_id (by omega) (by omega)]; omega
  unfold impl_generator.f
  rw [e2]
  exact impl_generator_l0 w hw (2 * w) 0 [1] (by omega) (by simp; omega) (Poly.AllB.cons (by decide) Poly.AllB.nil)

/-- All places numbered from a on. -/
def marksS : Nat → List (List Int) → List (List Int)
  | _, [] => []
  | a, r :: m => marks a r.length :: marksS (a + r.length) m
def tot : List (List Int) → Nat
  | [] => 0
  | r :: m => r.length + tot m
theorem marksS_length : ∀ (a : Nat) (m : List (List Int)), (marksS a m).length = m.length
  | _, [] => rfl
  | a, r :: m => by simp only [marksS, List.length_cons, marksS_length]
theorem tot_append : ∀ (l m : List (List Int)), tot (l ++ m) = tot l + tot m
  | [], m => by simp [tot]
  | r :: l, m => by simp only [List.cons_append, tot, tot_append l m]; omega
theorem tot_take (m : List (List Int)) (i : Nat) : tot (m.take i) ≤ tot m := by
  have := tot_append (m.take i) (m.drop i)
  rw [List.take_append_drop] at this; omega
theorem tot_succ (m : List (List Int)) (i : Nat) (h : i < m.length) : tot (m.take (i + 1)) = tot (m.take i) + m[i].length := by
  rw [List.take_succ_eq_append_getElem h, tot_append]
  simp [tot]
theorem marksS_append : ∀ (a : Nat) (l m : List (List Int)), marksS a (l ++ m) = marksS a l ++ marksS (a + tot l) m
  | a, [], m => by simp [marksS, tot]
  | a, r :: l, m => by simp only [List.cons_append, marksS, tot, marksS_append (a + r.length) l m, Nat.add_assoc]
theorem tot_marksS : ∀ (a : Nat) (m : List (List Int)), tot (marksS a m) = tot m
  | _, [] => rfl
  | a, r :: m => by simp only [marksS, tot, marks_length, tot_marksS]
theorem tot_le : ∀ {m : List (List Int)} {b : Nat}, (∀ r ∈ m, r.length ≤ b) → tot m ≤ m.length * b
  | [], _, _ => by simp [tot]
  | r :: m, b, h => by
    have h1 := h r List.mem_cons_self
    have h2 := tot_le (m := m) (fun x hx => h x (List.mem_cons_of_mem _ hx))
    simp only [tot, List.length_cons, Nat.succ_mul]; omega
theorem marksS_get : ∀ (a : Nat) (m : List (List Int)) (i : Nat) (h : i < m.length) (h' : i < (marksS a m).length), (marksS a m)[i] = marks (a + tot (m.take i)) m[i].length
  | a, r :: m, 0, _, _ => by simp [marksS, tot]
  | a, r :: m, i + 1, h, h' => by
    simp only [marksS, List.getElem_cons_succ, List.take_succ_cons, tot]
    rw [marksS_get (a + r.length) m i (by simpa using h)]
    rw [Nat.add_assoc]

theorem rows_len {w : World} {A : Option Addr} {n : Nat} {E : TypeId} {xs : List (List Int)} (h : Kd.C (Kd.slice E (Kd.int .i64)) w A n xs) : xs.length ≤ 9223372036854775807 ∧ ∀ r ∈ xs, r.length ≤ 9223372036854775807 := by
  have hn := h.1
  have hm := h.2.1
  refine ⟨by omega, fun r hr => ?_⟩
  obtain ⟨i, hi, rfl⟩ := List.getElem_of_mem hr
  obtain ⟨_, _, _, _, _, _, hC⟩ := Mx.rows_at h i (by omega) hi
  have := hC.2.1
  have := hC.1
  omega
theorem small_rows {m : List (List Int)} (h : m.length + tot m ≤ 1048576) : m.length ≤ 1048576 ∧ (∀ r ∈ m, r.length ≤ 1048576) ∧ tot m ≤ 1048576 := by
  have ht : ∀ (l : List (List Int)), ∀ r ∈ l, r.length ≤ tot l := by
    intro l
    induction l with
    | nil => intro r hr; cases hr
    | cons x l ih =>
      intro r hr
      rcases List.mem_cons.1 hr with rfl | hr
      · simp only [tot]; omega
      · have := ih r hr; simp only [tot]; omega
  exact ⟨by omega, fun r hr => by have := ht m r hr; omega, by omega⟩
theorem le_small {m : List (List Int)} {k : Nat} (h : m.length ≤ k ∧ ∀ r ∈ m, r.length ≤ k) (hk : k ≤ 1000 := by decide) : m.length ≤ 1000 ∧ ∀ r ∈ m, r.length ≤ 1000 := ⟨by omega, fun r hr => by have := h.2 r hr; omega⟩

theorem toS_e {w0 w : World} {L : List (Value × Env.It)} (E : Env.Env 28 3 w0 w L) (A : Option Addr) (c : Nat) (x : List Int) (hr0 : Kd.C (Kd.int .i64) w0 A x.length x) (hc0 : x.length ≤ c) (hxl : x.length ≤ 1048576) :
    Calls Try.prog 39 #[.slice A x.length c] w fun e w' => ∃ A1 c1, e = .returned (.slice A1 x.length c1) ∧ Env.Env 28 3 w0 w' ((.slice A1 x.length c1, .row x) :: L) := by
  obtain ⟨K, hK⟩ := (laws_toIntS_ev x hxl).rounds
  exact (laws_toIntS.calls K A c x x w (E.camer hr0) hc0 hK).mono fun e w' ⟨v, he, hR, hb⟩ => by
    obtain ⟨A1, c1, hv, hE⟩ := E.madeR hR hb
    subst hv
    exact ⟨A1, c1, he, hE⟩

theorem eqS_e {w0 w : World} {L : List (Value × Env.It)} (E : Env.Env 28 3 w0 w L) (i j : Nat) {A1 A2 : Option Addr} {c1 c2 : Nat} {x : List Int} (hi : L[i]? = some (.slice A1 x.length c1, .row x)) (hj : L[j]? = some (.slice A2 x.length c2, .row x)) (hl : x.length ≤ 1048576) :
    Calls Try.prog 41 #[.slice A1 x.length c1, .slice A2 x.length c2] w fun e w' => e = .returned (.bool true) ∧ Env.Env 28 3 w0 w' L := by
  obtain ⟨K, hK⟩ := (laws_eqIntS_ev x x (by omega)).rounds
  rw [decide_eq_true rfl] at hK
  exact (laws_eqIntS.calls K A1 c1 x A2 c2 x true w (E.Cr i hi) (E.capr i hi) (E.Cr j hj) (E.capr j hj) hK).mono fun e w' ⟨he, hd⟩ => ⟨he, E.below hd.below⟩

theorem markS_e {w0 w : World} {L : List (Value × Env.It)} (E : Env.Env 28 3 w0 w L) (i : Nat) {A : Option Addr} {c : Nat} {x : List Int} (hi : L[i]? = some (.slice A x.length c, .row x)) (a : Nat) (z : Int) (hz : z = (a : Int)) (n : Nat) (hn : n = a + x.length) (hl : x.length ≤ 1048576) (hs : n ≤ 500000000) :
    Calls Try.prog 42 #[.slice A x.length c, .int .i64 z] w fun e w' => e = .returned (.int .i64 (n : Int)) ∧ Env.Env 28 3 w0 w' (L.set i (.slice A x.length c, .row (marks a x.length))) := by
  subst hz hn
  obtain ⟨lo, hi', h1, h2, hR, h4⟩ := E.turn i hi
  obtain ⟨K, hK⟩ := (laws_markIntS_ev x a hl (by omega)).rounds
  have hcall := laws_markIntS.calls K (fun k => some k = (Value.slice A x.length c).ownBlock) (.slice A x.length c) x _ _ _ w0 w E.1 (Kd.R_lower (Kd.R_tight rfl hR) h1) hK
  refine hcall.mono fun e w' => ?_
  rintro ⟨he, hR1, hb1, hk1⟩
  refine ⟨he, h4 w' (.row (marks a x.length)) (Mx.Only.of_kept E.1 hb1 hk1 (fun k hk => ?_)) (Mx.row_base hR1 (fun k hk => ?_))⟩
  · exact ⟨(Mx.row_lo hR k hk.symm).1, (Mx.row_lo hR k hk.symm).2.1⟩
  · exact ⟨(Mx.row_lo hR k hk).1, (Mx.row_lo hR k hk).2.1⟩

theorem heldS_e {w0 w : World} {L : List (Value × Env.It)} (E : Env.Env 28 3 w0 w L) (i : Nat) {A : Option Addr} {c : Nat} {x : Nat} (a : Nat) (hi : L[i]? = some (.slice A x c, .row (marks a x))) (z : Int) (hz : z = (a : Int)) (n : Nat) (hn : n = a + x) (hs : n ≤ 1000000000) :
    Calls Try.prog 43 #[.slice A x c, .int .i64 z] w fun e w' => e = .returned (.int .i64 (n : Int)) ∧ Env.Env 28 3 w0 w' L := by
  subst hz hn
  obtain ⟨K, hK⟩ := (laws_heldIntS_ev a x (by omega)).rounds
  have hC := E.Cr i hi
  have := laws_heldIntS.calls K A c (marks a x) (a : Int) _ w hC (by rw [marks_length]; exact E.capr i hi) hK
  rw [marks_length] at this
  exact this.mono fun e w' ⟨he, hd⟩ => ⟨he, E.below hd.below⟩

theorem infoJ : (Try.prog.info? 3).map (fun i => (i.zero, i.size, i.bytes)) = some (some (.int .i64 0), 1, 8) := by kernel_rfl

def impl_EncodeWord.f (l : List Int) (a : Int) : Option (List Int × Bool) := if l.length ≤ 1048576 then some (wEncV l a) else none
theorem impl_EncodeWord_ev (l : List Int) (a : Int) (h : l.length ≤ 1048576) : impl_EncodeWord.f l a = some (wEncV l a) := if_pos h
set_option maxHeartbeats 4000000 in
set_option maxRecDepth 100000 in
theorem impl_EncodeWord.calls (A0 : Option Addr) (c0 : Nat) (l0 : List Int) (a1 : Int) (r1 : List Int) (r2 : Bool) (w : World) (hr0 : (Kd.int .i64).C w A0 l0.length l0) (hc0 : l0.length ≤ c0) (h : impl_EncodeWord.f l0 a1 = some (r1, r2)) :
    Calls Try.prog 45 #[.slice A0 l0.length c0, .int .i64 a1] w fun e w' => ∃ v0_ : Value, e = .returned (.tuple #[v0_, .bool r2]) ∧ (Kd.int .i64).R 3 w' w.heap.size (fun _ => True) v0_ r1 ∧ Below w.heap.size w w' := by
  have HR := Aside0.mk hr0
  have HC := Aside0.mk hc0
  have HB := Aside0.mk (Below.refl w.heap.size w)
  clear hr0 hc0
  unfold impl_EncodeWord.f at h
  split at h
  rotate_left
  · cases h
  rename_i hsz
  have H0 := Option.some.inj h
  clear h
  have no : wEncOk l0 a1 = false → r1 = [] ∧ r2 = false := fun hx => by
    unfold wEncV at H0
    rw [hx] at H0
    injection H0 with e1 e2
    exact ⟨e1.symm, e2.symm⟩
  have hW := impl_isWrong_eq a1
  have hG := impl_areGf_eq l0
  cases g1 : isW a1 with
  | false =>
    obtain ⟨rfl, rfl⟩ := no (by unfold wEncOk; rw [g1]; rfl)
    rw [g1] at hW
    have H1 := Aside0.mk hW
    clear hW hG g1 no H0 hsz
    go_enter Try.func45, Try.ntmps45
    go_wp2_with (go_at_call 107; refine (impl_isWrong.calls a1 false _ H1.out).mono ?_; rintro e w' ⟨rfl, ⟨nd, rfl⟩⟩)
    go_ret2
    exact ⟨_, rfl, Kd.R_nil _ _ _ _ _, pw_below_drewN HB.out _⟩
  | true =>
    obtain ⟨n, rfl, h1, h3⟩ := isW_nat g1
    rw [g1] at hW
    have H1 := Aside0.mk hW
    have y0 : (0 : Int) ≤ (n : Int) := by omega
    have y1 : (n : Int) ≤ 3 := by omega
    by_cases c1 : l0.length < 1
    · obtain ⟨rfl, rfl⟩ := no (by unfold wEncOk; rw [g1, decide_eq_false (by omega)]; rfl)
      obtain rfl : l0 = [] := List.length_eq_zero_iff.1 (by omega)
      clear hW hG g1 no H0 hsz c1
      go_enter Try.func45, Try.ntmps45
      go_wp2_with (go_at_call 107; refine (impl_isWrong.calls (n : Int) true _ H1.out).mono ?_; rintro e w' ⟨rfl, ⟨nd, rfl⟩⟩)
      go_ret2
      exact ⟨_, rfl, Kd.R_nil _ _ _ _ _, pw_below_drewN HB.out _⟩
    have p1 : (l0.length < 1) = False := eq_false c1
    have p2 : ((l0.length : Int) < 1) = False := eq_false (by omega)
    have p3 : (l0.length = 0) = False := eq_false (by omega)
    have z0 : (l0.length : Int) ≤ 1048576 := by omega
    by_cases c2 : 24 < (l0.length : Int) + 2 * (n : Int)
    · obtain ⟨rfl, rfl⟩ := no (by unfold wEncOk; rw [g1, decide_eq_false (by omega)]; rfl)
      have p4 : (24 < (l0.length : Int) + 2 * (n : Int)) = True := eq_true c2
      clear hW hG g1 no H0 hsz c1 c2
      go_enter Try.func45, Try.ntmps45
      go_wp2_with (go_at_call 107; refine (impl_isWrong.calls (n : Int) true _ H1.out).mono ?_; rintro e w' ⟨rfl, ⟨nd, rfl⟩⟩)
      go_ret2
      exact ⟨_, rfl, Kd.R_nil _ _ _ _ _, pw_below_drewN HB.out _⟩
    have p4 : (24 < (l0.length : Int) + 2 * (n : Int)) = False := eq_false c2
    cases g3 : l0.all isB with
    | false =>
      obtain ⟨rfl, rfl⟩ := no (by unfold wEncOk; rw [g1, g3, Bool.and_false, Bool.and_false])
      rw [g3] at hG
      have H2 := Aside0.mk hG
      clear hW hG g1 no H0 hsz c1 c2 g3
      go_enter Try.func45, Try.ntmps45
      go_wp2_with (first | (go_at_call 107; refine (impl_isWrong.calls (n : Int) true _ H1.out).mono ?_; rintro e w' ⟨rfl, ⟨nd, rfl⟩⟩) | (go_at_call 102; refine (impl_areGf.calls A0 c0 l0 false _ (Kd.C_drewN HR.out _) HC.out H2.out).mono ?_; rintro e w' ⟨rfl, ⟨nd3, rfl⟩⟩))
      go_ret2
      exact ⟨_, rfl, Kd.R_nil _ _ _ _ _, pw_below_drewN HB.out _⟩
    | true =>
      obtain ⟨m, rfl, hm⟩ := allB_up g3
      have hml := Poly.up_length m
      have hok : wEncOk (Poly.up m) (n : Int) = true := by unfold wEncOk; rw [g1, g3, decide_eq_true (by omega)]; rfl
      rw [wEncV_up hok] at H0
      injection H0 with e1 e2
      subst e1 e2
      rw [g3] at hG
      have H2 := Aside0.mk hG
      have hzl : (List.replicate (2 * n) 0 ++ m).length = 2 * n + m.length := by rw [List.length_append, List.length_replicate]
      obtain ⟨K3, h3'⟩ := (impl_generator_ev n (by omega)).rounds
      have hgt := Enc.gen_top n
      obtain ⟨K4, h4⟩ := (impl_divPoly_ev (List.replicate (2 * n) 0 ++ m) (Poly.gen n) (Enc.zm_Bs hm n) (Poly.gen_bytes n) (by omega) (by omega) (by omega)).rounds
      rw [rst_divI] at h4
      generalize Poly.up (Poly.tr (divI (List.replicate (2 * n) 0 ++ m) (Poly.gen n)).1) = Q at h4
      have H3 := Aside0.mk h3'
      have H4 := Aside0.mk h4
      have hrl := Enc.rst_length hm n
      have HE := Aside0.mk (show Poly.up (Enc.rst m n) ++ (Poly.up (List.replicate (2 * n) 0 ++ m)).drop (Enc.rst m n).length = Poly.up (Enc.encL m n) from by
        rw [Poly.up_drop, Poly.up_append, (encL_drop_rst m n).resolve_right (by omega)])
      have HZ := Aside0.mk (show List.replicate (2 * (n : Int)).toNat (0 : Int) ++ Poly.up m = Poly.up (List.replicate (2 * n) 0 ++ m) from by
        rw [show (2 * (n : Int)).toNat = 2 * n by omega, Poly.up_zeros, Poly.up_append])
      have HLN := Aside0.mk (show (Enc.rst m n).length ≤ 2 * n ∧ m.length ≤ 24 ∧ n ≤ 3 from ⟨hrl, by omega, h3⟩)
      clear hW hG g1 no hsz c1 c2 g3 hok h3' h4 hgt hrl hm hml
      go_enter Try.func45, Try.ntmps45
      have z1 : (0 : Int) ≤ 2 * (n : Int) := by omega
      go_wp2_with (first | (go_at_call 107; refine (impl_isWrong.calls (n : Int) true _ H1.out).mono ?_; rintro e w' ⟨rfl, ⟨nd, rfl⟩⟩) | (go_at_call 102; refine (impl_areGf.calls A0 c0 (Poly.up m) true _ (Kd.C_drewN HR.out _) HC.out H2.out).mono ?_; rintro e w' ⟨rfl, ⟨nd3, rfl⟩⟩) | ((with_reducible refine gate_dst (N := 32) rfl ?_); refine Kd.R_make (Kd.int .i64) _ 3 rfl (N := 32) rfl 28 _ _ rfl (2 * (n : Int)) rfl rfl Try.underlying28 (.int .i64 0) 8 infoJ rfl (by decide) (by omega) 0 (ok := fun _ => True) (okp := fun _ => True) rfl (fun _ hk => hk) trivial z1 (by have := HLN.out; omega) (Below.refl _ _) (Nat.le_refl _) ?_; intro v5 w5 ho5 hb5 hg5 hn5; have HO5 := Aside0.mk ho5; have HB5 := Aside0.mk hb5; clear ho5 hb5 hg5 hn5) | ((with_reducible refine gate_builtin (b := .append) (xs := #[.tmp 32, .tmp 33]) rfl ?_); at_builtin; refine Kd.R_append_rows (Kd.int .i64) (w0 := w) w.heap.size rfl (.tmp 32) (.tmp 33) 28 3 (.int .i64 0) 8 rfl Try.underlying28 infoJ rfl (by decide) (by omega) v5 (List.replicate (2 * (n : Int)).toNat 0) (Poly.up m) _ _ _ (fun _ => True) (fun _ => False) rfl rfl ?aO ?aR (fun _ _ h => h) (fun _ h => h.elim) ?aF ?aB ?aS ?aL ?_; (case aR => exact Kd.C_below HR.out (below_step (pw_below_drewN HB.out _) HB5.out)); (case aB => exact below_step (pw_below_drewN HB.out _) HB5.out); (case aF => exact (fun _ _ => trivial)); (case aO => exact Kd.R_lower HO5.out (below_size (pw_below_drewN HB.out _))); (case aS => exact below_size (below_step (pw_below_drewN HB.out _) HB5.out)); (case aL => rw [List.length_replicate, Poly.up_length]; have := HLN.out; omega); intro v6 w6 ho6 hb6 hg6 hat6; rw [HZ.out] at ho6; have HO6 := Aside0.mk ho6; have HB6 := Aside0.mk hb6; clear ho6 hb6 hg6 hat6; obtain ⟨A6, c6, eo6⟩ := Kd.R_slice HO6.out; subst eo6))
      refine (impl_generator.calls K3 (n : Int) (Poly.up (Poly.gen n)) _ H3.out).mono ?_
      rintro e w7 ⟨v7, rfl, ho7, hb7⟩
      obtain ⟨A7, c7, rfl, hc7, hC7⟩ := Kd.R_reads ho7
      have HO7 := Aside0.mk (Kd.R_below HO6.out hb7)
      have HB7 := Aside0.mk (below_step HB6.out hb7)
      have HC7 := Aside0.mk hC7
      have HN7 := Aside0.mk hc7
      clear ho7 hb7 hC7 hc7 HO6 HB6 HO5 HB5
      go_wp2_with fail
      have hq6 := Kd.R_reads' HO7.out
      refine (impl_divPoly.calls K4 A6 c6 (Poly.up (List.replicate (2 * n) 0 ++ m)) A7 c7 (Poly.up (Poly.gen n)) Q (Poly.up (Enc.rst m n)) _ hq6.2.2 hq6.2.1 HC7.out HN7.out H4.out).mono ?_
      clear hq6
      rintro e w8 ⟨v8, v9, rfl, ho8, ho9, hb8⟩
      obtain ⟨A9, c9, rfl, hc9, hC9⟩ := Kd.R_reads ho9
      have HO8 := Aside0.mk (Kd.R_below HO7.out hb8)
      have HB8 := Aside0.mk (below_step HB7.out hb8)
      have HC9 := Aside0.mk hC9
      have HI := Aside0.mk (show (Try.prog.info? 3).map (·.size) = some 1 from by kernel_rfl)
      clear ho8 ho9 hb8 hc9 hC9 HO7 HB7 HC7 HN7
      go_wp2_with ((with_reducible refine gate_builtin (b := .copy) (xs := #[.tmp 42, .tmp 43]) rfl ?_); refine Kd.R_copy (0 : Int) (w0 := w) w.heap.size rfl (.tmp 42) (.tmp 43) 28 28 3 rfl Try.underlying28 HI.out (.slice A6 (Poly.up (List.replicate (2 * n) 0 ++ m)).length c6) (Poly.up (List.replicate (2 * n) 0 ++ m)) (Poly.up (Enc.rst m n)) A9 _ c9 (fun _ => True) rfl rfl HO8.out HC9.out HB8.out (below_size HB8.out) ?_; intro w10 ho10 hb10 hg10; have HO10 := Aside0.mk ho10; have HB10 := Aside0.mk hb10; clear ho10 hb10 hg10)
      go_ret2
      have h9 := HO10.out
      rw [Nat.min_eq_left (by rw [Poly.up_length, Poly.up_length, List.length_append, List.length_replicate]; have := HLN.out; omega), List.take_length, Poly.up_length (Enc.rst m n), HE.out] at h9
      exact ⟨_, rfl, h9, HB10.out⟩

set_option maxHeartbeats 8000000 in
set_option maxRecDepth 100000 in
theorem laws_FnExactEncodeWord_calls (A0 : Option Addr) (c0 : Nat) (l0 : List Int) (a1 : Int) (w : World) (hr0 : (Kd.int .i64).C w A0 l0.length l0) (hc0 : l0.length ≤ c0) (y0 : l0.length * 8 ≤ 140737488351232) (hw0 : ∀ x ∈ l0, (Lit.int .i64 x).wf = true) (hw1 : (Lit.int .i64 a1).wf = true) :
    Calls Try.prog 6 #[.slice A0 l0.length c0, .int .i64 a1] w fun e w' => e = .returned (.bool true) ∧ Below w.heap.size w w' := by
  have HR0 := Aside0.mk hr0
  have HC0 := Aside0.mk hc0
  have HG0 := Aside0.mk hw0
  clear hr0 hc0 hw0
  have HG1 := Aside0.mk hw1
  clear hw1
  clear y0
  have ENV := Aside0.mk (Env.Env.start (e := 28) (t := 3) w)
  by_cases g0 : l0.length ≤ 1048576
  rotate_left
  · have t0 : decide (1048576 < (l0.length : Int)) = true := decide_eq_true (by omega)
    have t0b : decide (1048576 < l0.length) = true := decide_eq_true (by omega)
    clear g0
    go_enter Try.func6, Try.ntmps6
    go_wp2
    go_ret
    exact ⟨rfl, ENV.out.1⟩
  have t0 : decide (1048576 < (l0.length : Int)) = false := decide_eq_false (by omega)
  have t0b : decide (1048576 < l0.length) = false := decide_eq_false (by omega)
  have HL0 := Aside0.mk g0
  clear g0
  obtain ⟨K91, h91⟩ := (spec_EncodeWord_ev l0 a1 HL0.out).rounds
  have h92 := impl_EncodeWord_ev l0 a1 HL0.out
  have hsm := (show (wEncV l0 a1).1.length ≤ 1000 from Nat.le_trans (wEncV_length l0 a1) (by decide))
  generalize wEncV l0 a1 = g at h91 h92 hsm
  obtain ⟨r0, r1⟩ := g
  have HP := Aside0.mk (show r0.length ≤ 1048576 ∧ r0.length ≤ 1000000 from ⟨by have : r0.length ≤ 1000 := hsm; omega, by have : r0.length ≤ 1000 := hsm; omega⟩)
  clear hsm
  have cc91 := fun A0_ c0_ w_ h0_ b0_ => spec_EncodeWord.calls K91 A0_ c0_ l0 a1 r0 r1 w_ h0_ b0_ h91
  have cc92 := fun A0_ c0_ w_ h0_ b0_ => impl_EncodeWord.calls A0_ c0_ l0 a1 r0 r1 w_ h0_ b0_ h92
  have e1 : (r1 != r1) = false := by simp
  have e1b : (r1 == r1) = true := by simp
  clear h91 h92
  obtain ⟨k0, hk0⟩ : ∃ n : Nat, n = 1 + l0.length := ⟨_, rfl⟩
  have HK0 := Aside0.mk hk0
  clear hk0
  have HKB0 := Aside0.mk (show k0 ≤ 1048577 by have := HK0.out; have := HL0.out; omega)
  have qk : decide ((k0 : Int) < 0) = false := decide_eq_false (by omega)
  obtain ⟨kg, hkg⟩ : ∃ n : Nat, n = 1 + r0.length := ⟨_, rfl⟩
  have HKG := Aside0.mk hkg
  have HKGB := Aside0.mk (show kg ≤ 2000000 by have := HP.out.2; omega)
  clear hkg
  have qg : decide ((kg : Int) < 0) = false := decide_eq_false (by omega)
  have qg2 : ((kg : Int) != (kg : Int)) = false := by simp
  have qg3 : ((kg : Int) == (kg : Int)) = true := by simp
  go_enter Try.func6, Try.ntmps6
  go_wp2_with fail
  refine (toS_e ENV.out A0 c0 l0 HR0.out HC0.out HL0.out).mono ?_
  rintro e w1 ⟨B1, d1, rfl, hE_⟩
  replace ENV := Aside0.mk hE_
  clear hE_
  go_wp2_with fail
  refine (cc91 B1 d1 _ (ENV.out.Cr (A := B1) (n := l0.length) (c := d1) 0 rfl) (ENV.out.capr (A := B1) (n := l0.length) (c := d1) 0 rfl)).mono ?_
  rintro e w2 ⟨v_, rfl, hS_, hb_⟩
  obtain ⟨B2, d2, rfl, hE_⟩ := ENV.out.madeR hS_ hb_
  clear hS_ hb_
  replace ENV := Aside0.mk hE_
  clear hE_
  go_wp2_with fail
  refine (toS_e ENV.out A0 c0 l0 HR0.out HC0.out HL0.out).mono ?_
  rintro e w3 ⟨B3, d3, rfl, hE_⟩
  replace ENV := Aside0.mk hE_
  clear hE_
  go_wp2_with fail
  refine (cc92 B3 d3 _ (ENV.out.Cr (A := B3) (n := l0.length) (c := d3) 0 rfl) (ENV.out.capr (A := B3) (n := l0.length) (c := d3) 0 rfl)).mono ?_
  rintro e w4 ⟨v_, rfl, hS_, hb_⟩
  obtain ⟨B4, d4, rfl, hE_⟩ := ENV.out.madeR hS_ hb_
  clear hS_ hb_
  replace ENV := Aside0.mk hE_
  clear hE_
  go_wp2_with fail
  refine (eqS_e ENV.out 0 2 (A1 := B4) (A2 := B2) (c1 := d4) (c2 := d2) rfl rfl HP.out.1).mono ?_
  rintro e w5 ⟨rfl, hE_⟩
  replace ENV := Aside0.mk hE_
  clear hE_
  go_wp2_with fail
  refine (toS_e ENV.out A0 c0 l0 HR0.out HC0.out HL0.out).mono ?_
  rintro e w6 ⟨B6, d6, rfl, hE_⟩
  replace ENV := Aside0.mk hE_
  clear hE_
  go_wp2_with fail
  refine (eqS_e ENV.out 2 0 (A1 := B3) (A2 := B6) (c1 := d3) (c2 := d6) rfl rfl HL0.out).mono ?_
  rintro e w7 ⟨rfl, hE_⟩
  replace ENV := Aside0.mk hE_
  clear hE_
  go_wp2_with fail
  refine (markS_e ENV.out 2 (A := B3) (c := d3) rfl 1 _ rfl k0 HK0.out HL0.out (by have := HKB0.out; omega)).mono ?_
  rintro e w8 ⟨rfl, hE_⟩
  replace ENV := Aside0.mk hE_
  clear hE_
  go_wp2_with fail
  refine (eqS_e ENV.out 1 3 (A1 := B4) (A2 := B2) (c1 := d4) (c2 := d2) rfl rfl HP.out.1).mono ?_
  rintro e w9 ⟨rfl, hE_⟩
  replace ENV := Aside0.mk hE_
  clear hE_
  go_wp2_with fail
  refine (markS_e ENV.out 1 (A := B4) (c := d4) rfl 1 _ rfl kg HKG.out HP.out.1 (by have := HKGB.out; omega)).mono ?_
  rintro e w10 ⟨rfl, hE_⟩
  replace ENV := Aside0.mk hE_
  clear hE_
  go_wp2_with fail
  refine (heldS_e ENV.out 1 (A := B4) (c := d4) (x := r0.length) 1 rfl _ rfl kg HKG.out (by have := HKGB.out; omega)).mono ?_
  rintro e w11 ⟨rfl, hE_⟩
  replace ENV := Aside0.mk hE_
  clear hE_
  go_wp2_with fail
  refine (toS_e ENV.out A0 c0 l0 HR0.out HC0.out HL0.out).mono ?_
  rintro e w12 ⟨B12, d12, rfl, hE_⟩
  replace ENV := Aside0.mk hE_
  clear hE_
  go_wp2_with fail
  refine (cc92 B12 d12 _ (ENV.out.Cr (A := B12) (n := l0.length) (c := d12) 0 rfl) (ENV.out.capr (A := B12) (n := l0.length) (c := d12) 0 rfl)).mono ?_
  rintro e w13 ⟨v_, rfl, hS_, hb_⟩
  obtain ⟨B13, d13, rfl, hE_⟩ := ENV.out.madeR hS_ hb_
  clear hS_ hb_
  replace ENV := Aside0.mk hE_
  clear hE_
  go_wp2_with fail
  refine (eqS_e ENV.out 0 5 (A1 := B13) (A2 := B2) (c1 := d13) (c2 := d2) rfl rfl HP.out.1).mono ?_
  rintro e w14 ⟨rfl, hE_⟩
  replace ENV := Aside0.mk hE_
  clear hE_
  go_wp2_with fail
  refine (heldS_e ENV.out 3 (A := B4) (c := d4) (x := r0.length) 1 rfl _ rfl kg HKG.out (by have := HKGB.out; omega)).mono ?_
  rintro e w15 ⟨rfl, hE_⟩
  replace ENV := Aside0.mk hE_
  clear hE_
  go_wp2
  go_ret
  exact ⟨rfl, ENV.out.1⟩

end Go.Proofs.Ytncgojfhaagkkaa.Pure
