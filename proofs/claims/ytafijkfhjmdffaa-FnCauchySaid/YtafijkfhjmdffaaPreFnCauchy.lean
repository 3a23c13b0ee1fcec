/- Values and contracts that the law's own text builds on. No conditions beyond those typed. -/
import Derived.Test.YtafijkfhjmdffaaMFnCauchyx6
import Derived.Test.YtafijkfhjmdffaaMFnCauchyx0
import Derived.Test.YtafijkfhjmdffaaMFnCauchyx1
import Derived.Test.YtafijkfhjmdffaaMFnCauchyx2
import Derived.Test.YtafijkfhjmdffaaMFnCauchyx3
import Derived.Test.YtafijkfhjmdffaaMFnCauchyx4
import Derived.Test.YtafijkfhjmdffaaMFnCauchyx5
import Derived.Test.YtafijkfhjmdffaaBit
import Derived.Test.YtafijkfhjmdffaaPoly
import Derived.Test.YtafijkfhjmdffaaMat
import Derived.Test.YtafijkfhjmdffaaLin
import Derived.Test.YtafijkfhjmdffaaRoot
import Derived.Test.YtafijkfhjmdffaaElim
import Derived.Test.YtafijkfhjmdffaaMx
import Derived.Test.YtafijkfhjmdffaaEnv
import Derived.Test.YtafijkfhjmdffaaSrt
import Derived.RegionTactic
import Derived.ChangeAlike
import Derived.BigRegion
import Derived.StillTailTactics
set_option linter.unusedVariables false
set_option linter.unusedSimpArgs false
namespace Go.Proofs.Ytafijkfhjmdffaa.Pure
open Go.RowKit Go.Proofs.Ytafijkfhjmdffaa Go.Proofs.Ytafijkfhjmdffaa.MFnCauchy Go.Proofs.YtafijkfhjmdffaaW.PrintWords Go.Proofs.YtafijkfhjmdffaaW.PrintLast Go.Proofs.Ytafijkfhjmdffaa.Bit

theorem impl_within_eq (a b c : Int) : impl_within.f a b c = some (decide (b ≤ a ∧ a ≤ c)) := by
 unfold impl_within.f
 by_cases h : a ≥ b
 ·rw [if_pos h]; congr 1; simp [show b ≤ a from h]
 ·rw [if_neg h]; congr 1; simp; omega

/-- Is a number an element? -/
def isB (a : Int) : Bool := decide (0 ≤ a ∧ a ≤ 255)
theorem isB_nat {a : Int} (h : isB a = true) : ∃ n : Nat, a = (n : Int) ∧ n < 256 := by
 simp only [isB, decide_eq_true_eq] at h
 exact ⟨a.toNat, by omega, by omega⟩
theorem isB_cast {n : Nat} (h : n < 256) : isB (n : Int) = true := by simp only [isB, decide_eq_true_eq]; omega

theorem impl_isGf_eq (a : Int) : impl_isGf.f a = some (isB a) := by
 unfold impl_isGf.f; rw [impl_within_eq]; rfl

theorem spec_l1In_eq (a b c : Int) : spec_l1In.f a b c = some (decide (b ≤ a ∧ a ≤ c)) := by
 unfold spec_l1In.f
 by_cases h : a ≥ b
 ·rw [if_pos h]; congr 1; simp [show b ≤ a from h]
 ·rw [if_neg h]; congr 1; simp; omega

theorem spec_l1Gf_eq (a : Int) : spec_l1Gf.f a = some (isB a) := by
 unfold spec_l1Gf.f; rw [spec_l1In_eq]; rfl

theorem rd_nat (l : List Int) (i : Nat) (h : i < l.length) : rd l (i : Int) = l[i] := by
 unfold rd
 simp [List.getD_eq_getElem?_getD, List.getElem?_eq_getElem h]
theorem wrap_succ (i : Nat) (h : i < 9223372036854775807) : wrap64 ((i : Int) + 1) = ((i + 1 : Nat) : Int) := by rw [wrap_id (by omega) (by omega)]; omega

theorem spec_l1Has_l0 (a : Int) (l : List Int) (hl : l.length ≤ 140737488351232) : ∀ (d i : Nat), i + d = l.length → Ev (fun k => spec_l1Has.l0 k a l (l.length : Int) (i : Int)) (decide (a ∈ l.drop i)) := by
 intro d
 induction d with
 | zero =>
  intro i hi
  obtain rfl : i = l.length := by omega
  have e : decide (a ∈ l.drop l.length) = false := by rw [List.drop_length]; rfl
  rw [e]
  exact Ev.step (f := fun _ => some false) (fun k => by rw [spec_l1Has.l0.eq_2, if_neg (by omega)]) (Ev.now _)
 | succ d ih =>
  intro i hi
  have hlt : i < l.length := by omega
  rw [List.drop_eq_getElem_cons hlt]
  by_cases e : l[i] = a
  ·have e2 : decide (a ∈ l[i] :: l.drop (i + 1)) = true := decide_eq_true (by rw [e]; exact List.mem_cons_self)
   rw [e2]
   exact Ev.step (f := fun _ => some true) (fun k => by rw [spec_l1Has.l0.eq_2, if_pos (by omega), if_pos (by omega), if_pos (by omega), rd_nat l i hlt, if_pos e]) (Ev.now _)
  ·have e2 : decide (a ∈ l[i] :: l.drop (i + 1)) = decide (a ∈ l.drop (i + 1)) := decide_eq_decide.2 (by rw [List.mem_cons]; exact ⟨fun h => h.resolve_left (fun h => e h.symm), .inr⟩)
   rw [e2]
   refine Ev.step (f := fun k => spec_l1Has.l0 k a l (l.length : Int) ((i + 1 : Nat) : Int)) (fun k => ?_) (ih (i + 1) (by omega))
   rw [spec_l1Has.l0.eq_2, if_pos (by omega), if_pos (by omega), if_pos (by omega), rd_nat l i hlt, if_neg e, wrap_succ i (by omega)]
theorem spec_l1Has_ev (l : List Int) (a : Int) (hl : l.length ≤ 140737488351232) : Ev (fun k => spec_l1Has.f k l a) (decide (a ∈ l)) := spec_l1Has_l0 a l hl l.length 0 (by omega)

theorem spec_l1Mul_l0 : ∀ (n a b o : Nat), a < 256 → o < 256 → b < 2 ^ n → b < 2 ^ 63 → Ev (fun k => spec_l1Mul.l0 k (a : Int) (b : Int) (o : Int)) ((Gf.gmA n a b o : Nat) : Int) := by
 have stop : ∀ a o : Nat, Ev (fun k => spec_l1Mul.l0 k (a : Int) ((0 : Nat) : Int) (o : Int)) ((o : Nat) : Int) := fun a o =>
  Ev.step (f := fun _ => some ((o : Nat) : Int)) (fun k => by simp only [spec_l1Mul.l0]; rw [if_neg (by omega)]) (Ev.now _)
 intro n
 induction n with
 | zero =>
  intro a b o ha ho hb _
  obtain rfl : b = 0 := by simpa using hb
  exact stop a o
 | succ n ih =>
  intro a b o ha ho hb hb63
  by_cases h0 : b = 0
  ·subst h0
   rw [Gf.gmA_zero]
   exact stop a o
  ·have e1 : wrap64 ((a : Int) * 2) = ((a * 2 : Nat) : Int) := by rw [wrap_id (by omega) (by omega)]; omega
   have e2 : Go.bits .xor .i64 ((a * 2 : Nat) : Int) 285 = (((a * 2) ^^^ 285 : Nat) : Int) := xor_nat (a := a * 2) (b := 285) (by omega) (by decide)
   have e3 : Go.bits .xor .i64 (o : Int) (a : Int) = ((o ^^^ a : Nat) : Int) := xor_nat (by omega) (by omega)
   have e4 := and_one (a := b) hb63
   refine Ev.step (f := fun k => spec_l1Mul.l0 k ((Gf.xt a : Nat) : Int) ((b / 2 : Nat) : Int) (((if b % 2 = 1 then o ^^^ a else o) : Nat) : Int)) (fun k => ?_) (ih _ _ _ (Gf.xt_lt a ha) ?_ (by rw [Nat.pow_succ] at hb; omega) (by omega))
   ·simp only [spec_l1Mul.l0, e1, e2, e3, e4, half_nat, Gf.xt]
    rw [if_pos (show (b : Int) > 0 by omega)]
    by_cases h1 : b % 2 = 1 <;> by_cases h2 : 255 < a * 2
    ·rw [if_pos (show ((b % 2 : Nat) : Int) = 1 by omega), if_pos h1, if_pos (by omega), if_pos h2]
    ·rw [if_pos (show ((b % 2 : Nat) : Int) = 1 by omega), if_pos h1, if_neg (by omega), if_neg h2]
    ·rw [if_neg (show ¬ ((b % 2 : Nat) : Int) = 1 by omega), if_neg h1, if_pos (by omega), if_pos h2]
    ·rw [if_neg (show ¬ ((b % 2 : Nat) : Int) = 1 by omega), if_neg h1, if_neg (by omega), if_neg h2]
   ·split
    ·exact Gf.xor_byte ho ha
    ·exact ho
theorem spec_l1Mul_ev (a b : Nat) (ha : a < 256) (hb : b < 256) : Ev (fun k => spec_l1Mul.f k (a : Int) (b : Int)) ((Gf.gm a b : Nat) : Int) :=
 spec_l1Mul_l0 8 a b 0 ha (by decide) hb (by omega)

theorem spec_l1Pow_l0 : ∀ (f a n o : Nat), a < 256 → o < 256 → n < 2 ^ f → n < 2 ^ 63 → Ev (fun k => spec_l1Pow.l0 k (a : Int) (n : Int) (o : Int)) ((Gf.pwA f a n o : Nat) : Int) := by
 have stop : ∀ a o : Nat, Ev (fun k => spec_l1Pow.l0 k (a : Int) ((0 : Nat) : Int) (o : Int)) ((o : Nat) : Int) := fun a o =>
  Ev.step (f := fun _ => some ((o : Nat) : Int)) (fun k => by simp only [spec_l1Pow.l0]; rw [if_neg (by omega)]) (Ev.now _)
 have z : ∀ f a o, Gf.pwA f a 0 o = o := by
  intro f
  induction f with
  | zero => intro a o; rfl
  | succ f ih => intro a o; exact ih _ _
 intro f
 induction f with
 | zero =>
  intro a n o ha ho hn _
  obtain rfl : n = 0 := by simpa using hn
  exact stop a o
 | succ f ih =>
  intro a n o ha ho hn hn63
  by_cases h0 : n = 0
  ·subst h0
   rw [z]
   exact stop a o
  ·have e4 := and_one (a := n) hn63
   have hsq := Gf.gm_lt a ha
   by_cases h1 : n % 2 = 1
   ·refine Ev.step (f := fun k => (spec_l1Mul.f k (o : Int) (a : Int)).bind fun t => (spec_l1Mul.f k (a : Int) (a : Int)).bind fun u => spec_l1Pow.l0 k u ((n / 2 : Nat) : Int) t) (fun k => ?_) ?_
    ·simp only [spec_l1Pow.l0, e4, half_nat]
     rw [if_pos (show (n : Int) > 0 by omega), if_pos (show ((n % 2 : Nat) : Int) = 1 by omega)]
    ·have := ih (Gf.gm a a) (n / 2) (Gf.gm o a) hsq (Gf.gm_lt a ho) (by rw [Nat.pow_succ] at hn; omega) (by omega)
     show Ev _ ((Gf.pwA f (Gf.gm a a) (n / 2) (if n % 2 = 1 then Gf.gm o a else o) : Nat) : Int)
     rw [if_pos h1]
     exact Ev.bind (f := fun k t => (spec_l1Mul.f k (a : Int) (a : Int)).bind fun u => spec_l1Pow.l0 k u ((n / 2 : Nat) : Int) t) (spec_l1Mul_ev o a ho ha) (Ev.bind (f := fun k u => spec_l1Pow.l0 k u ((n / 2 : Nat) : Int) ((Gf.gm o a : Nat) : Int)) (spec_l1Mul_ev a a ha ha) this)
   ·refine Ev.step (f := fun k => (spec_l1Mul.f k (a : Int) (a : Int)).bind fun u => spec_l1Pow.l0 k u ((n / 2 : Nat) : Int) (o : Int)) (fun k => ?_) ?_
    ·simp only [spec_l1Pow.l0, e4, half_nat]
     rw [if_pos (show (n : Int) > 0 by omega), if_neg (show ¬ ((n % 2 : Nat) : Int) = 1 by omega)]
    ·have := ih (Gf.gm a a) (n / 2) o hsq ho (by rw [Nat.pow_succ] at hn; omega) (by omega)
     show Ev _ ((Gf.pwA f (Gf.gm a a) (n / 2) (if n % 2 = 1 then Gf.gm o a else o) : Nat) : Int)
     rw [if_neg h1]
     exact Ev.bind (f := fun k u => spec_l1Pow.l0 k u ((n / 2 : Nat) : Int) (o : Int)) (spec_l1Mul_ev a a ha ha) this
theorem spec_l1Pow_ev (a n : Nat) (ha : a < 256) (hn : n < 2 ^ 62) : Ev (fun k => spec_l1Pow.f k (a : Int) (n : Int)) ((Gf.pw a n : Nat) : Int) := by
 have := spec_l1Pow_l0 62 a n 1 ha (by decide) hn (by omega)
 rw [Gf.pwA_eq 62 a n 1 ha (by decide) hn, Gf.one_gm _ (Gf.pw_lt n)] at this
 exact this

theorem spec_l1Div_ev (a b : Nat) (ha : a < 256) (hb : b < 256) : Ev (fun k => spec_l1Div.f k (a : Int) (b : Int)) ((Gf.gm a (Gf.gi b) : Nat) : Int) := by
 unfold spec_l1Div.f
 refine Ev.bind (f := fun k t => (spec_l1Mul.f k (a : Int) t).bind fun u => some u) (spec_l1Pow_ev b 254 hb (by decide)) ?_
 exact Ev.bind (f := fun _ u => some u) (spec_l1Mul_ev a (Gf.gi b) ha (Gf.gi_lt b)) (Ev.now _)

theorem rdL_nat (l : List (List Int)) (i : Nat) (h : i < l.length) : rd_L1 l (i : Int) = l[i] := by
 unfold rd_L1
 simp [List.getD_eq_getElem?_getD, List.getElem?_eq_getElem h]

theorem rd_get (l : List Int) (i : Nat) (h : i < l.length) : rd l (i : Int) = l[i] := by
 unfold rd
 simp [List.getD_eq_getElem?_getD, List.getElem?_eq_getElem h]
theorem wrap_up (i : Nat) (h : i < 9223372036854775807) : wrap64 ((i : Int) + 1) = ((i + 1 : Nat) : Int) := by rw [wrap_id (by omega) (by omega)]; omega
theorem wrap_down (a : Nat) (h : a ≤ 9223372036854775807) : wrap64 ((a : Int) - 1) = (a : Int) - 1 := wrap_id (by omega) (by omega)
theorem allB_up {l : List Int} (h : l.all isB = true) : ∃ m : List Nat, l = Poly.up m ∧ Poly.AllB m := by
 refine Poly.up_of fun x hx => ?_
 have := List.all_eq_true.1 h x hx
 simpa [isB] using this
theorem up_allB {m : List Nat} (h : Poly.AllB m) : (Poly.up m).all isB = true := by
 rw [List.all_eq_true]
 intro x hx
 have := Poly.up_bytes h x hx
 simp only [isB, decide_eq_true_eq]; omega

theorem xor_up {a b : Nat} (ha : a < 256) (hb : b < 256) : Go.bits .xor .i64 (a : Int) (b : Int) = ((a ^^^ b : Nat) : Int) := xor_nat (by omega) (by omega)
theorem wrap_nat (n : Nat) (h : n ≤ 9223372036854775807) : wrap64 (n : Int) = (n : Int) := wrap_id (by omega) (by omega)
theorem wrap_add (a b : Nat) (h : a + b ≤ 9223372036854775807) : wrap64 ((a : Int) + (b : Int)) = ((a + b : Nat) : Int) := by rw [wrap_id (by omega) (by omega)]; omega
theorem wrap_pred (a : Nat) (h : a ≤ 9223372036854775807) (h0 : 0 < a) : wrap64 ((a : Int) - 1) = ((a - 1 : Nat) : Int) := by rw [wrap_id (by omega) (by omega)]; omega

/-- Lists of rows of natural numbers as Go's. -/
def upM (m : List (List Nat)) : List (List Int) := m.map Poly.up
def dnM (m : List (List Int)) : List (List Nat) := m.map fun r => r.map Int.toNat
theorem upM_length (m : List (List Nat)) : (upM m).length = m.length := by simp [upM]
theorem upM_snoc (m : List (List Nat)) (r : List Nat) : upM m ++ [Poly.up r] = upM (m ++ [r]) := by simp [upM]
theorem upM_append (l m : List (List Nat)) : upM l ++ upM m = upM (l ++ m) := by simp [upM]
theorem upM_set (m : List (List Nat)) (i : Nat) (r : List Nat) : (upM m).set i (Poly.up r) = upM (m.set i r) := by simp [upM, List.map_set]
theorem upM_nil : ([] : List (List Int)) = upM [] := rfl
theorem upM_getD (m : List (List Nat)) (i : Nat) : (upM m).getD i [] = Poly.up (m.getD i []) := by
 unfold upM
 rw [List.getD_eq_getElem?_getD, List.getElem?_map, List.getD_eq_getElem?_getD]
 cases m[i]? <;> rfl
theorem rdL_up (m : List (List Nat)) (i : Nat) : rd_L1 (upM m) (i : Int) = Poly.up (m.getD i []) := by
 unfold rd_L1
 rw [Int.toNat_natCast]
 exact upM_getD m i
theorem rdL_up0 (m : List (List Nat)) : rd_L1 (upM m) 0 = Poly.up (m.getD 0 []) := rdL_up m 0
theorem dn_up (l : List Nat) : (Poly.up l).map Int.toNat = l := by
 unfold Poly.up
 rw [List.map_map]
 exact (List.map_congr_left (fun x _ => Int.toNat_natCast x)).trans (List.map_id' l)
theorem dnM_upM (m : List (List Nat)) : dnM (upM m) = m := by
 unfold dnM upM
 rw [List.map_map]
 exact (List.map_congr_left (fun x _ => dn_up x)).trans (List.map_id' m)
theorem upM_inj {l m : List (List Nat)} (h : upM l = upM m) : l = m := by rw [← dnM_upM l, h, dnM_upM]
/-- Rows of c elements. -/
def areR (c : Nat) (m : List (List Int)) : Bool := m.all fun r => decide (r.length = c) && r.all isB
theorem areR_up {c : Nat} : ∀ {m : List (List Int)}, areR c m = true → ∃ n, m = upM n ∧ Mat.MB' c n
 | [], _ => ⟨[], rfl, fun r hr => by cases hr⟩
 | r :: m, h => by
  simp only [areR, List.all_cons, Bool.and_eq_true, decide_eq_true_eq] at h
  obtain ⟨n, rfl, hn⟩ := areR_up (m := m) (by simpa [areR] using h.2)
  obtain ⟨q, rfl, hq⟩ := allB_up h.1.2
  refine ⟨q :: n, rfl, fun x hx => ?_⟩
  rcases List.mem_cons.1 hx with rfl | hx
  ·exact ⟨by simpa [Poly.up_length] using h.1.1, hq⟩
  ·exact hn x hx
theorem up_areR {c : Nat} {n : List (List Nat)} (h : Mat.MB' c n) : areR c (upM n) = true := by
 unfold areR upM
 rw [List.all_eq_true]
 intro x hx
 obtain ⟨r, hr, rfl⟩ := List.mem_map.1 hx
 rw [Bool.and_eq_true, decide_eq_true_eq, Poly.up_length]
 exact ⟨(h r hr).1, up_allB (h r hr).2⟩
def goodM (m : List (List Int)) : Bool := decide (1 ≤ m.length ∧ m.length ≤ 8) && (decide (1 ≤ (m.getD 0 []).length ∧ (m.getD 0 []).length ≤ 8) && areR (m.getD 0 []).length m)
theorem goodM_up {m : List (List Int)} (h : goodM m = true) : ∃ c n, m = upM n ∧ Mat.MB' c n ∧ (m.getD 0 []).length = c ∧ m.length = n.length ∧ 1 ≤ n.length ∧ n.length ≤ 8 ∧ 1 ≤ c ∧ c ≤ 8 := by
 simp only [goodM, Bool.and_eq_true, decide_eq_true_eq] at h
 obtain ⟨n, hn, hB⟩ := areR_up h.2.2
 exact ⟨_, n, hn, hB, rfl, by rw [hn, upM_length], by rw [← upM_length, ← hn]; exact h.1.1, by rw [← upM_length, ← hn]; exact h.1.2, h.2.1.1, h.2.1.2⟩
theorem up_goodM {c : Nat} {n : List (List Nat)} (h : Mat.MB' c n) (h1 : 1 ≤ n.length) (h2 : n.length ≤ 8) (h3 : 1 ≤ c) (h4 : c ≤ 8) : goodM (upM n) = true := by
 have e : ((upM n).getD 0 []).length = c := by rw [upM_getD, Poly.up_length]; exact (h.get (by omega)).1
 unfold goodM
 rw [e, up_areR h, upM_length, decide_eq_true (by omega), decide_eq_true (by omega)]; rfl
theorem goodM_rows {m : List (List Int)} (h : goodM m = true) : m.length ≤ 8 ∧ ∀ r ∈ m, r.length ≤ 8 := by
 obtain ⟨c, n, rfl, hB, _, _, _, h2, _, h4⟩ := goodM_up h
 refine ⟨by rw [upM_length]; exact h2, fun r hr => ?_⟩
 obtain ⟨q, hq, rfl⟩ := List.mem_map.1 hr
 rw [Poly.up_length, (hB q hq).1]; exact h4
theorem upM_small {c k : Nat} {n : List (List Nat)} (h : Mat.MB' c n) (hl : n.length ≤ k) (hc : c ≤ k) : (upM n).length ≤ k ∧ ∀ r ∈ upM n, r.length ≤ k := by
 refine ⟨by rw [upM_length]; exact hl, fun r hr => ?_⟩
 obtain ⟨q, hq, rfl⟩ := List.mem_map.1 hr
 rw [Poly.up_length, (h q hq).1]; exact hc

/-- The inverses of the sums. -/
def cauchyR (a : Nat) (Y : List Nat) : List Nat := Y.map fun b => Gf.gi (a ^^^ b)
def cauchyM (X Y : List Nat) : List (List Nat) := X.map fun a => cauchyR a Y
theorem cauchyR_bytes (a : Nat) (Y : List Nat) : Poly.AllB (cauchyR a Y) := fun x hx => by
 obtain ⟨b, _, rfl⟩ := List.mem_map.1 hx
 exact Gf.gi_lt _
theorem cauchyM_MB (X Y : List Nat) : Mat.MB' Y.length (cauchyM X Y) := fun r hr => by
 obtain ⟨a, _, rfl⟩ := List.mem_map.1 hr
 exact ⟨by simp [cauchyR], cauchyR_bytes a Y⟩
theorem cauchyM_length (X Y : List Nat) : (cauchyM X Y).length = X.length := by simp [cauchyM]
theorem drop_getD (l : List Nat) (i : Nat) (h : i < l.length) : l.drop i = l.getD i 0 :: l.drop (i + 1) := by
 rw [List.drop_eq_getElem_cons h, List.getD_eq_getElem?_getD, List.getElem?_eq_getElem h]; rfl

theorem spec_l2Cauchy_l0 (X Y : List Nat) (hX : Poly.AllB X) (hY : Poly.AllB Y) (hXl : X.length ≤ 1000) (hYl : Y.length ≤ 1000) : ∀ (d i : Nat) (out : List (List Nat)), i + d = X.length → out.length = i →
  Ev (fun k => spec_l2Cauchy.l0 k (Poly.up Y) (upM out) (Poly.up X) (X.length : Int) (i : Int)) (upM (out ++ cauchyM (X.drop i) Y)) := by
 intro d
 induction d with
 | zero =>
  intro i out hi hol
  obtain rfl : i = X.length := by omega
  have e : out ++ cauchyM (X.drop X.length) Y = out := by rw [List.drop_length]; simp [cauchyM]
  rw [e]
  exact Ev.step (f := fun _ => some (upM out)) (fun k => by rw [spec_l2Cauchy.l0.eq_2, if_neg (by omega)]) (Ev.now _)
 | succ d ih =>
  intro i out hi hol
  have hlt : i < X.length := by omega
  have ha : X.getD i 0 < 256 := hX.get i
  rw [drop_getD X i hlt]
  generalize hA : X.getD i 0 = a at ha
  have row : ∀ (e j : Nat) (acc : List Nat), j + e = Y.length → acc.length = j →
    Ev (fun k => spec_l2Cauchy.l1 k (Poly.up Y) (upM out) (a : Int) (Poly.up acc) (Poly.up X) (X.length : Int) (i : Int) (Poly.up Y) (Y.length : Int) (j : Int)) (upM (out ++ (acc ++ cauchyR a (Y.drop j)) :: cauchyM (X.drop (i + 1)) Y)) := by
   intro e
   induction e with
   | zero =>
    intro j acc hj hl
    obtain rfl : j = Y.length := by omega
    have e : acc ++ cauchyR a (Y.drop Y.length) = acc := by rw [List.drop_length]; simp [cauchyR]
    rw [e]
    refine Ev.step (f := fun k => spec_l2Cauchy.l0 k (Poly.up Y) (upM (out ++ [acc])) (Poly.up X) (X.length : Int) ((i + 1 : Nat) : Int)) (fun k => ?_) ?_
    ·rw [spec_l2Cauchy.l1.eq_2, if_neg (by omega), if_pos (by rw [upM_length]; omega), upM_snoc, wrap_succ i (by omega)]
    ·have := ih (i + 1) (out ++ [acc]) (by omega) (by simp [hol])
     rwa [List.append_assoc] at this
   | succ e ihe =>
    intro j acc hj hl
    have hjY : j < Y.length := by omega
    have hb : Y.getD j 0 < 256 := hY.get j
    have hx := xor_up ha hb
    have hab := Gf.xor_byte ha hb
    have e1 : cauchyR a (Y.drop j) = Gf.gi (a ^^^ Y.getD j 0) :: cauchyR a (Y.drop (j + 1)) := by rw [drop_getD Y j hjY]; rfl
    have e2 : Gf.gm 1 (Gf.gi (a ^^^ Y.getD j 0)) = Gf.gi (a ^^^ Y.getD j 0) := Gf.one_gm _ (Gf.gi_lt _)
    rw [e1]
    refine Ev.step (f := fun k => (spec_l1Div.f k ((1 : Nat) : Int) ((a ^^^ Y.getD j 0 : Nat) : Int)).bind fun t => if (Poly.up acc).length < 17592186044416 then spec_l2Cauchy.l1 k (Poly.up Y) (upM out) (a : Int) (Poly.up acc ++ [t]) (Poly.up X) (X.length : Int) (i : Int) (Poly.up Y) (Y.length : Int) ((j + 1 : Nat) : Int) else none) (fun k => ?_) ?_
    ·rw [spec_l2Cauchy.l1.eq_2, if_pos (by omega), if_pos (by omega), if_pos (by rw [Poly.up_length]; omega), Poly.rd_up, hx, wrap_succ j (by omega)]; rfl
    ·refine Ev.bind (f := fun k t => if (Poly.up acc).length < 17592186044416 then spec_l2Cauchy.l1 k (Poly.up Y) (upM out) (a : Int) (Poly.up acc ++ [t]) (Poly.up X) (X.length : Int) (i : Int) (Poly.up Y) (Y.length : Int) ((j + 1 : Nat) : Int) else none) (spec_l1Div_ev 1 _ (by decide) hab) ?_
     simp only [if_pos (show (Poly.up acc).length < 17592186044416 by rw [Poly.up_length]; omega), e2, Poly.up_snoc]
     have := ihe (j + 1) (acc ++ [Gf.gi (a ^^^ Y.getD j 0)]) (by omega) (by simp [hl])
     rwa [List.append_assoc] at this
  have e0 : out ++ cauchyM (a :: X.drop (i + 1)) Y = out ++ ([] ++ cauchyR a (Y.drop 0)) :: cauchyM (X.drop (i + 1)) Y := by rfl
  rw [e0]
  refine Ev.step (f := fun k => spec_l2Cauchy.l1 k (Poly.up Y) (upM out) (a : Int) (Poly.up []) (Poly.up X) (X.length : Int) (i : Int) (Poly.up Y) (Y.length : Int) 0) (fun k => ?_) (row Y.length 0 [] (by omega) rfl)
  rw [spec_l2Cauchy.l0.eq_2, if_pos (by omega), if_pos (by omega), if_pos (by rw [Poly.up_length]; omega), Poly.rd_up, hA, Poly.up_length]; rfl
theorem spec_l2Cauchy_ev (X Y : List Nat) (hX : Poly.AllB X) (hY : Poly.AllB Y) (hXl : X.length ≤ 1000) (hYl : Y.length ≤ 1000) : Ev (fun k => spec_l2Cauchy.f k (Poly.up X) (Poly.up Y)) (upM (cauchyM X Y)) := by
 unfold spec_l2Cauchy.f
 rw [Poly.up_length]
 exact spec_l2Cauchy_l0 X Y hX hY hXl hYl X.length 0 [] (by omega) rfl

/-- What CauchyMatrix answers. -/
def cauOk (x y : List Int) : Bool := decide (1 ≤ x.length ∧ x.length ≤ 8) && (decide (1 ≤ y.length ∧ y.length ≤ 8) && ((x ++ y).all isB && decide (x ++ y).Nodup))
def cauV (x y : List Int) : List (List Int) × Bool := if cauOk x y then (upM (cauchyM (x.map Int.toNat) (y.map Int.toNat)), true) else ([], false)
theorem cauV_small (x y : List Int) : (cauV x y).1.length ≤ 8 ∧ ∀ r ∈ (cauV x y).1, r.length ≤ 8 := by
 unfold cauV
 split
 ·rename_i h
  simp only [cauOk, Bool.and_eq_true, decide_eq_true_eq] at h
  exact upM_small (cauchyM_MB _ _) (by rw [cauchyM_length, List.length_map]; exact h.1.2) (by rw [List.length_map]; exact h.2.1.2)
 ·exact ⟨by simp, fun r hr => by cases hr⟩
theorem cauOk_up {x y : List Int} (h : (x ++ y).all isB = true) : ∃ X Y : List Nat, x = Poly.up X ∧ y = Poly.up Y ∧ Poly.AllB X ∧ Poly.AllB Y := by
 rw [List.all_append, Bool.and_eq_true] at h
 obtain ⟨X, hX, hXb⟩ := allB_up h.1
 obtain ⟨Y, hY, hYb⟩ := allB_up h.2
 exact ⟨X, Y, hX, hY, hXb, hYb⟩
theorem map_up (X : List Nat) : (Poly.up X).map Int.toNat = X := dn_up X

theorem nodup_snoc {l : List Int} {a : Int} : (l ++ [a]).Nodup ↔ l.Nodup ∧ a ∉ l := by
 rw [List.nodup_append]
 constructor
 ·rintro ⟨h1, _, h3⟩
  exact ⟨h1, fun h => h3 a h a List.mem_cons_self rfl⟩
 ·rintro ⟨h1, h2⟩
  exact ⟨h1, by simp, fun x hx y hy he => by
   rw [List.mem_singleton] at hy
   subst hy he
   exact h2 hx⟩
theorem spec_CauchyMatrix_l0 (x y l : List Int) (hl : l = x ++ y) (hx : x.length ≤ 1048576) (hy : y.length ≤ 1048576) : ∀ (d i : Nat), i + d = l.length → (l.take i).all isB = true → (l.take i).Nodup →
  Ev (fun k => spec_CauchyMatrix.l0 k x y l l (l.length : Int) (i : Int)) (cauV x y) := by
 have hll : l.length = x.length + y.length := by rw [hl, List.length_append]
 intro d
 induction d with
 | zero =>
  intro i hi h1 h2
  obtain rfl : i = l.length := by omega
  rw [List.take_length, hl] at h1 h2
  have E : Ev (fun k => (if decide (1 ≤ x.length ∧ x.length ≤ 8) = true then (if decide (1 ≤ y.length ∧ y.length ≤ 8) = true then ((spec_l2Cauchy.f k x y).bind fun t => some (t, true)) else some (([] : List (List Int)), false)) else some (([] : List (List Int)), false))) (cauV x y) := by
   unfold cauV cauOk
   rw [h1, decide_eq_true h2]
   cases g1 : decide (1 ≤ x.length ∧ x.length ≤ 8)
   ·exact Ev.now _
   cases g2 : decide (1 ≤ y.length ∧ y.length ≤ 8)
   ·exact Ev.now _
   simp only [if_true, Bool.and_self]
   obtain ⟨X, Y, rfl, rfl, hX, hY⟩ := cauOk_up h1
   have z1 := of_decide_eq_true g1
   have z2 := of_decide_eq_true g2
   rw [Poly.up_length] at z1 z2
   have := spec_l2Cauchy_ev X Y hX hY (by omega) (by omega)
   rw [map_up, map_up]
   exact Ev.bind (f := fun _ t => some (t, true)) this (Ev.now _)
  refine Ev.step (fun k => ?_) E
  rw [spec_CauchyMatrix.l0.eq_2, if_neg (by omega), spec_l1In_eq, spec_l1In_eq, Option.bind_some, Option.bind_some]
  rw [show decide ((1 : Int) ≤ (x.length : Int) ∧ (x.length : Int) ≤ 8) = decide (1 ≤ x.length ∧ x.length ≤ 8) from decide_eq_decide.2 (by omega), show decide ((1 : Int) ≤ (y.length : Int) ∧ (y.length : Int) ≤ 8) = decide (1 ≤ y.length ∧ y.length ≤ 8) from decide_eq_decide.2 (by omega)]
 | succ d ih =>
  intro i hi h1 h2
  have hlt : i < l.length := by omega
  have e := List.take_succ_eq_append_getElem hlt
  have hbad : ¬ (l.all isB = true ∧ l.Nodup) → cauV x y = ([], false) := fun h => by
   unfold cauV cauOk
   rw [← hl]
   apply if_neg
   intro g
   simp only [Bool.and_eq_true, decide_eq_true_eq] at g
   exact h ⟨g.2.2.1, g.2.2.2⟩
  cases g1 : isB l[i] with
  | false =>
   rw [hbad (fun h => by have := List.all_eq_true.1 h.1 _ (List.getElem_mem hlt); rw [g1] at this; cases this)]
   refine Ev.step (f := fun _ => some (([] : List (List Int)), false)) (fun k => ?_) (Ev.now _)
   rw [spec_CauchyMatrix.l0.eq_2, if_pos (by omega), if_pos (by omega), if_pos (by omega), rd_nat l i hlt, spec_l1Gf_eq, g1]; rfl
  | true =>
  have EH := spec_l1Has_ev (l.take i) l[i] (by rw [List.length_take]; omega)
  by_cases g2 : l[i] ∈ l.take i
  ·rw [hbad (fun h => by
    have h3 : (l.take (i + 1)).Nodup := h.2.sublist (List.take_sublist _ _)
    rw [e, nodup_snoc] at h3
    exact h3.2 g2)]
   rw [decide_eq_true g2] at EH
   refine Ev.step (f := fun k => (spec_l1Has.f k (l.take i) l[i]).bind fun t => if t = true then some (([] : List (List Int)), false) else spec_CauchyMatrix.l0 k x y l l (l.length : Int) ((i + 1 : Nat) : Int)) (fun k => ?_) (Ev.bind (f := fun k t => if t = true then some (([] : List (List Int)), false) else spec_CauchyMatrix.l0 k x y l l (l.length : Int) ((i + 1 : Nat) : Int)) EH (Ev.now _))
   rw [spec_CauchyMatrix.l0.eq_2, if_pos (by omega), if_pos (by omega), if_pos (by omega), rd_nat l i hlt, spec_l1Gf_eq, g1, Option.bind_some, if_pos rfl, if_pos (by omega), Int.toNat_natCast, wrap_succ i (by omega)]
  ·rw [decide_eq_false g2] at EH
   have hn := ih (i + 1) (by omega) (by rw [e, List.all_append, h1]; simp [g1]) (by rw [e, nodup_snoc]; exact ⟨h2, g2⟩)
   refine Ev.step (f := fun k => (spec_l1Has.f k (l.take i) l[i]).bind fun t => if t = true then some (([] : List (List Int)), false) else spec_CauchyMatrix.l0 k x y l l (l.length : Int) ((i + 1 : Nat) : Int)) (fun k => ?_) (Ev.bind (f := fun k t => if t = true then some (([] : List (List Int)), false) else spec_CauchyMatrix.l0 k x y l l (l.length : Int) ((i + 1 : Nat) : Int)) EH hn)
   rw [spec_CauchyMatrix.l0.eq_2, if_pos (by omega), if_pos (by omega), if_pos (by omega), rd_nat l i hlt, spec_l1Gf_eq, g1, Option.bind_some, if_pos rfl, if_pos (by omega), Int.toNat_natCast, wrap_succ i (by omega)]
theorem spec_CauchyMatrix_ev (x y : List Int) (hx : x.length ≤ 1048576) (hy : y.length ≤ 1048576) : Ev (fun k => spec_CauchyMatrix.f k x y) (cauV x y) := by
 unfold spec_CauchyMatrix.f
 simp only [Option.bind_some, List.nil_append, List.length_nil, if_pos (show 0 + x.length < 17592186044416 by omega), if_pos (show x.length + y.length < 17592186044416 by omega)]
 exact spec_CauchyMatrix_l0 x y (x ++ y) rfl hx hy (x ++ y).length 0 (by omega) rfl List.nodup_nil



theorem impl_areGf_eq (l : List Int) : impl_areGf.f l = some (l.all isB) := by
 unfold impl_areGf.f
 have e : impl_areGf.bad = fun n => !isB n := by
  funext n
  simp only [impl_areGf.bad, isB]
 rw [e, List.all_eq_not_any_not]

theorem impl_mul_l0 : ∀ (n a b o : Nat), a < 256 → o < 256 → b < 2 ^ n → b < 2 ^ 63 → Ev (fun k => impl_mul.l0 k (a : Int) (b : Int) (o : Int)) ((Gf.gmA n a b o : Nat) : Int) := by
 have stop : ∀ a o : Nat, Ev (fun k => impl_mul.l0 k (a : Int) ((0 : Nat) : Int) (o : Int)) ((o : Nat) : Int) := fun a o =>
  Ev.step (f := fun _ => some ((o : Nat) : Int)) (fun k => by simp only [impl_mul.l0]; rw [if_neg (by omega)]) (Ev.now _)
 intro n
 induction n with
 | zero =>
  intro a b o ha ho hb _
  obtain rfl : b = 0 := by simpa using hb
  exact stop a o
 | succ n ih =>
  intro a b o ha ho hb hb63
  by_cases h0 : b = 0
  ·subst h0
   rw [Gf.gmA_zero]
   exact stop a o
  ·have e1 : wrap64 ((a : Int) * 2) = ((a * 2 : Nat) : Int) := by rw [wrap_id (by omega) (by omega)]; omega
   have e2 : Go.bits .xor .i64 ((a * 2 : Nat) : Int) 285 = (((a * 2) ^^^ 285 : Nat) : Int) := xor_nat (a := a * 2) (b := 285) (by omega) (by decide)
   have e3 : Go.bits .xor .i64 (o : Int) (a : Int) = ((o ^^^ a : Nat) : Int) := xor_nat (by omega) (by omega)
   have e4 := and_one (a := b) hb63
   refine Ev.step (f := fun k => impl_mul.l0 k ((Gf.xt a : Nat) : Int) ((b / 2 : Nat) : Int) (((if b % 2 = 1 then o ^^^ a else o) : Nat) : Int)) (fun k => ?_) (ih _ _ _ (Gf.xt_lt a ha) ?_ (by rw [Nat.pow_succ] at hb; omega) (by omega))
   ·simp only [impl_mul.l0, e1, e2, e3, e4, half_nat, Gf.xt]
    rw [if_pos (show (b : Int) > 0 by omega)]
    by_cases h1 : b % 2 = 1 <;> by_cases h2 : 255 < a * 2
    ·rw [if_pos (show ((b % 2 : Nat) : Int) = 1 by omega), if_pos h1, if_pos (by omega), if_pos h2]
    ·rw [if_pos (show ((b % 2 : Nat) : Int) = 1 by omega), if_pos h1, if_neg (by omega), if_neg h2]
    ·rw [if_neg (show ¬ ((b % 2 : Nat) : Int) = 1 by omega), if_neg h1, if_pos (by omega), if_pos h2]
    ·rw [if_neg (show ¬ ((b % 2 : Nat) : Int) = 1 by omega), if_neg h1, if_neg (by omega), if_neg h2]
   ·split
    ·exact Gf.xor_byte ho ha
    ·exact ho
theorem impl_mul_ev (a b : Nat) (ha : a < 256) (hb : b < 256) : Ev (fun k => impl_mul.f k (a : Int) (b : Int)) ((Gf.gm a b : Nat) : Int) :=
 impl_mul_l0 8 a b 0 ha (by decide) hb (by omega)

theorem impl_pow_l0 : ∀ (f a n o : Nat), a < 256 → o < 256 → n < 2 ^ f → n < 2 ^ 63 → Ev (fun k => impl_pow.l0 k (a : Int) (n : Int) (o : Int)) ((Gf.pwA f a n o : Nat) : Int) := by
 have stop : ∀ a o : Nat, Ev (fun k => impl_pow.l0 k (a : Int) ((0 : Nat) : Int) (o : Int)) ((o : Nat) : Int) := fun a o =>
  Ev.step (f := fun _ => some ((o : Nat) : Int)) (fun k => by simp only [impl_pow.l0]; rw [if_neg (by omega)]) (Ev.now _)
 have z : ∀ f a o, Gf.pwA f a 0 o = o := by
  intro f
  induction f with
  | zero => intro a o; rfl
  | succ f ih => intro a o; exact ih _ _
 intro f
 induction f with
 | zero =>
  intro a n o ha ho hn _
  obtain rfl : n = 0 := by simpa using hn
  exact stop a o
 | succ f ih =>
  intro a n o ha ho hn hn63
  by_cases h0 : n = 0
  ·subst h0
   rw [z]
   exact stop a o
  ·have e4 := and_one (a := n) hn63
   have hsq := Gf.gm_lt a ha
   by_cases h1 : n % 2 = 1
   ·refine Ev.step (f := fun k => (impl_mul.f k (o : Int) (a : Int)).bind fun t => (impl_mul.f k (a : Int) (a : Int)).bind fun u => impl_pow.l0 k u ((n / 2 : Nat) : Int) t) (fun k => ?_) ?_
    ·simp only [impl_pow.l0, e4, half_nat]
     rw [if_pos (show (n : Int) > 0 by omega), if_pos (show ((n % 2 : Nat) : Int) = 1 by omega)]
    ·have := ih (Gf.gm a a) (n / 2) (Gf.gm o a) hsq (Gf.gm_lt a ho) (by rw [Nat.pow_succ] at hn; omega) (by omega)
     show Ev _ ((Gf.pwA f (Gf.gm a a) (n / 2) (if n % 2 = 1 then Gf.gm o a else o) : Nat) : Int)
     rw [if_pos h1]
     exact Ev.bind (f := fun k t => (impl_mul.f k (a : Int) (a : Int)).bind fun u => impl_pow.l0 k u ((n / 2 : Nat) : Int) t) (impl_mul_ev o a ho ha) (Ev.bind (f := fun k u => impl_pow.l0 k u ((n / 2 : Nat) : Int) ((Gf.gm o a : Nat) : Int)) (impl_mul_ev a a ha ha) this)
   ·refine Ev.step (f := fun k => (impl_mul.f k (a : Int) (a : Int)).bind fun u => impl_pow.l0 k u ((n / 2 : Nat) : Int) (o : Int)) (fun k => ?_) ?_
    ·simp only [impl_pow.l0, e4, half_nat]
     rw [if_pos (show (n : Int) > 0 by omega), if_neg (show ¬ ((n % 2 : Nat) : Int) = 1 by omega)]
    ·have := ih (Gf.gm a a) (n / 2) o hsq ho (by rw [Nat.pow_succ] at hn; omega) (by omega)
     show Ev _ ((Gf.pwA f (Gf.gm a a) (n / 2) (if n % 2 = 1 then Gf.gm o a else o) : Nat) : Int)
     rw [if_neg h1]
     exact Ev.bind (f := fun k u => impl_pow.l0 k u ((n / 2 : Nat) : Int) (o : Int)) (impl_mul_ev a a ha ha) this
theorem impl_pow_ev (a n : Nat) (ha : a < 256) (hn : n < 2 ^ 62) : Ev (fun k => impl_pow.f k (a : Int) (n : Int)) ((Gf.pw a n : Nat) : Int) := by
 have := impl_pow_l0 62 a n 1 ha (by decide) hn (by omega)
 rw [Gf.pwA_eq 62 a n 1 ha (by decide) hn, Gf.one_gm _ (Gf.pw_lt n)] at this
 exact this

theorem impl_inverse_ev (b : Nat) (hb : b < 256) : Ev (fun k => impl_inverse.f k (b : Int)) ((Gf.gi b : Nat) : Int) := by
 unfold impl_inverse.f
 exact Ev.bind (f := fun _ u => some u) (impl_pow_ev b 254 hb (by decide)) (Ev.now _)

theorem and_255 (x : Int) : 0 ≤ Go.bits .and .u64 x 255 ∧ Go.bits .and .u64 x 255 ≤ 255 := by
 have h : Go.bits .and .u64 x 255 = IntKind.u64.wrap ((BitVec.ofInt 64 x &&& BitVec.ofInt 64 255).toNat : Int) := rfl
 rw [h, BitVec.toNat_and]
 have h2 : (BitVec.ofInt 64 255).toNat = 255 := by decide
 rw [h2]
 have h3 : (BitVec.ofInt 64 x).toNat &&& 255 ≤ 255 := Nat.and_le_right
 rw [IntKind.wrap_u64]
 omega
theorem wrap_in {n : Int} (h0 : -1000000000000000 ≤ n) (h1 : n ≤ 1000000000000000) : wrap64 n = n := wrap_id (by omega) (by omega)
theorem tmod_in (x n : Int) (hx : 0 ≤ x) (hn : 0 < n) : 0 ≤ Int.tmod x n ∧ Int.tmod x n < n ∧ Int.tmod x n ≤ x := by
 obtain ⟨a, rfl⟩ := nat_of hx
 obtain ⟨b, rfl⟩ := nat_of (a := n) (by omega)
 have e : Int.tmod (a : Int) (b : Int) = ((a % b : Nat) : Int) := rfl
 rw [e]
 have := Nat.mod_lt a (show b > 0 by omega)
 have := Nat.mod_le a b
 omega
/-- The bytes that are drawn from. -/
def BY (s : List Int) : Prop := ∀ x ∈ s, 0 ≤ x ∧ x ≤ 255
theorem wf_BY {s : List Int} (h : ∀ x ∈ s, (Lit.int .u8 x).wf = true) : BY s := fun x hx => by
 have := h x hx
 simp only [Lit.wf, IntKind.min, IntKind.max, IntKind.signed, IntKind.bits, Bool.and_eq_true, decide_eq_true_eq] at this
 simp at this
 omega
theorem BY.rd {s : List Int} (h : BY s) (i : Int) : 0 ≤ rd s i ∧ rd s i ≤ 255 := by
 unfold Go.Proofs.YtafijkfhjmdffaaW.PrintWords.rd
 rw [List.getD_eq_getElem?_getD]
 cases e : s[i.toNat]? with
 | none => exact ⟨Int.le_refl _, (by decide : (0 : Int) ≤ 255)⟩
 | some v => exact h v (List.mem_of_getElem? e)

theorem spec_l1Cur_next_ex {s : List Int} (hs : BY s) {a : Int} (d : Int) (ha : 0 ≤ a) (hb : a ≤ 1000000000000) : ∃ v a' d', spec_l1Cur_next.f s a d = some (v, a', d') ∧ 0 ≤ v ∧ v ≤ 255 ∧ 0 ≤ a' ∧ a' ≤ a + 1 := by
 have ew : wrap64 (a + 1) = a + 1 := wrap_in (by omega) (by omega)
 unfold spec_l1Cur_next.f
 rw [ew]
 have hr := hs.rd a
 by_cases h1 : a < (s.length : Int)
 ·rw [if_pos h1, if_pos ha]
  by_cases h2 : a + 1 ≤ (s.length : Int)
  ·rw [if_pos h2]
   exact ⟨_, _, _, rfl, by rw [wrap_in (by omega) (by omega)]; omega, by rw [wrap_in (by omega) (by omega)]; omega, by omega, by omega⟩
  ·omega
 ·rw [if_neg h1]
  by_cases h2 : a + 1 ≤ (s.length : Int)
  ·omega
  ·rw [if_neg h2]
   generalize IntKind.u64.wrap ((IntKind.u64.wrap ((IntKind.u64.wrap (d * 6364136223846793005)))) + 1442695040888963407) = z
   have hz := and_255 (z / 1099511627776)
   exact ⟨_, _, _, rfl, by rw [wrap_in (by omega) (by omega)]; omega, by rw [wrap_in (by omega) (by omega)]; omega, by omega, by omega⟩

theorem spec_l1Cur_pick_ex {s : List Int} (hs : BY s) {a : Int} (d : Int) (n : Int) (ha : 0 ≤ a) (hb : a ≤ 900000000000) : ∃ v a' d', spec_l1Cur_pick.f s a d n = some (v, a', d') ∧ 0 ≤ v ∧ (v < n ∨ v = 0) ∧ v ≤ 65535 ∧ 0 ≤ a' ∧ a' ≤ a + 2 := by
 unfold spec_l1Cur_pick.f
 by_cases h1 : n ≤ 1
 ·rw [if_pos h1]; exact ⟨_, _, _, rfl, by omega, by omega, by omega, by omega, by omega⟩
 ·rw [if_neg h1]
  obtain ⟨v, a1, d1, e1, h2, h3, h4, h5⟩ := spec_l1Cur_next_ex hs d ha (by omega)
  rw [e1, Option.bind_some]
  by_cases h6 : n > 200
  ·obtain ⟨v2, a2, d2, e2, h7, h8, h9, h10⟩ := spec_l1Cur_next_ex hs d1 h4 (by omega)
   have ew : wrap64 (wrap64 (v * 256) + v2) = v * 256 + v2 := by rw [wrap_in (n := v * 256) (by omega) (by omega), wrap_in (by omega) (by omega)]
   have ht := tmod_in (v * 256 + v2) n (by omega) (by omega)
   simp only [if_pos h6, e2, Option.bind_some, ew, if_neg (show ¬ n = 0 by omega)]
   exact ⟨_, _, _, rfl, by omega, by omega, by omega, by omega, by omega⟩
  ·have ht := tmod_in v n (by omega) (by omega)
   simp only [if_neg h6, if_neg (show ¬ n = 0 by omega)]
   exact ⟨_, _, _, rfl, by omega, by omega, by omega, by omega, by omega⟩

theorem spec_l1Cur_one_ex {s : List Int} (hs : BY s) {a : Int} (d : Int) (n : Int) (ha : 0 ≤ a) (hb : a ≤ 900000000000) : ∃ v a' d', spec_l1Cur_one.f s a d n = some (v, a', d') ∧ 0 ≤ a' ∧ a' ≤ a + 2 := by
 obtain ⟨v, a1, d1, e1, h2, h3, h4, h5, h6⟩ := spec_l1Cur_pick_ex hs d n ha hb
 unfold spec_l1Cur_one.f
 rw [e1, Option.bind_some]
 exact ⟨_, _, _, rfl, h5, h6⟩

/-- A list without repeats lies in one at least as long. -/
theorem nodup_sub : ∀ {L l : List Int}, L.Nodup → (∀ x ∈ L, x ∈ l) → L.length ≤ l.length
 | [], l, _, _ => Nat.zero_le _
 | a :: L, l, hn, hs => by
  have h := List.nodup_cons.1 hn
  have hm := hs a List.mem_cons_self
  have := nodup_sub (L := L) (l := l.erase a) h.2 (fun x hx => (List.mem_erase_of_ne (fun e => h.1 (by rw [← e]; exact hx))).2 (hs x (List.mem_cons_of_mem _ hx)))
  rw [List.length_erase_of_mem hm] at this
  have hp : 0 < l.length := List.length_pos_of_mem hm
  rw [List.length_cons]; omega
/-- Of the numbers behind one, one is not in a short list. -/
theorem far_off (l : List Int) (h : l.length < 256) (x : Int) : ∃ t : Nat, t ≤ l.length ∧ (x + t) % 256 ∉ l := by
 apply Classical.byContradiction
 intro hc
 have hall : ∀ t : Nat, t ≤ l.length → (x + t) % 256 ∈ l := fun t ht => Classical.byContradiction fun hn => hc ⟨t, ht, hn⟩
 have hnd : ((List.range (l.length + 1)).map fun t : Nat => (x + t) % 256).Nodup := by
  rw [List.Nodup, List.pairwise_map]
  refine List.Pairwise.imp_of_mem (fun {a b} ha hb hab => ?_) (List.nodup_range (n := l.length + 1))
  have h1 := List.mem_range.1 ha
  have h2 := List.mem_range.1 hb
  intro he
  apply hab
  omega
 have := nodup_sub hnd (fun y hy => by
  obtain ⟨t, ht, rfl⟩ := List.mem_map.1 hy
  exact hall t (by have := List.mem_range.1 ht; omega))
 rw [List.length_map, List.length_range] at this
 omega

theorem unlike_l1 {s : List Int} (hs : BY s) (n : Int) (l : List Int) (hl : l.length ≤ 1000) : ∀ (t : Nat) (x a d : Int), 0 ≤ x → x ≤ 255 → (x + t) % 256 ∉ l → 0 ≤ a → a + 2 * t ≤ 900000000 →
  ∃ x' a' d', 0 ≤ a' ∧ a' ≤ a + 2 * t ∧ ∀ v, Ev (fun k => spec_l1Cur_unlike.l0 k (wrap64 (n - 1)) (l ++ [x']) s a' d') v → Ev (fun k => spec_l1Cur_unlike.l1 k n l x s a d) v := by
 intro t
 induction t with
 | zero =>
  intro x a d h0 h1 hn ha hb
  have hx : x ∉ l := by rw [show (x + (0 : Nat)) % 256 = x by omega] at hn; exact hn
  refine ⟨x, a, d, ha, by omega, fun v hv => ?_⟩
  have EH := spec_l1Has_ev l x (by omega)
  rw [decide_eq_false hx] at EH
  refine Ev.step (f := fun k => (spec_l1Has.f k l x).bind fun b => if b = true then ((spec_l1Cur_one.f s a d 40).bind fun bt => if bt.1 = true then (if l.length < 17592186044416 then spec_l1Cur_unlike.l0 k (wrap64 (n - 1)) (l ++ [x]) s bt.2.1 bt.2.2 else none) else spec_l1Cur_unlike.l1 k n l (Int.tmod (wrap64 (x + 1)) 256) s bt.2.1 bt.2.2) else (if l.length < 17592186044416 then spec_l1Cur_unlike.l0 k (wrap64 (n - 1)) (l ++ [x]) s a d else none)) (fun k => by rw [spec_l1Cur_unlike.l1.eq_2]) ?_
  refine Ev.bind (f := fun k b => if b = true then ((spec_l1Cur_one.f s a d 40).bind fun bt => if bt.1 = true then (if l.length < 17592186044416 then spec_l1Cur_unlike.l0 k (wrap64 (n - 1)) (l ++ [x]) s bt.2.1 bt.2.2 else none) else spec_l1Cur_unlike.l1 k n l (Int.tmod (wrap64 (x + 1)) 256) s bt.2.1 bt.2.2) else (if l.length < 17592186044416 then spec_l1Cur_unlike.l0 k (wrap64 (n - 1)) (l ++ [x]) s a d else none)) EH ?_
  simp only [Bool.false_eq_true, if_false, if_pos (show l.length < 17592186044416 by omega)]
  exact hv
 | succ t ih =>
  intro x a d h0 h1 hn ha hb
  have EH := spec_l1Has_ev l x (by omega)
  have go : ∀ {v : List Int × Int × Int}, Ev (fun k => if decide (x ∈ l) = true then ((spec_l1Cur_one.f s a d 40).bind fun bt => if bt.1 = true then (if l.length < 17592186044416 then spec_l1Cur_unlike.l0 k (wrap64 (n - 1)) (l ++ [x]) s bt.2.1 bt.2.2 else none) else spec_l1Cur_unlike.l1 k n l (Int.tmod (wrap64 (x + 1)) 256) s bt.2.1 bt.2.2) else (if l.length < 17592186044416 then spec_l1Cur_unlike.l0 k (wrap64 (n - 1)) (l ++ [x]) s a d else none)) v → Ev (fun k => spec_l1Cur_unlike.l1 k n l x s a d) v := fun {v} hv =>
   Ev.step (f := fun k => (spec_l1Has.f k l x).bind fun b => if b = true then ((spec_l1Cur_one.f s a d 40).bind fun bt => if bt.1 = true then (if l.length < 17592186044416 then spec_l1Cur_unlike.l0 k (wrap64 (n - 1)) (l ++ [x]) s bt.2.1 bt.2.2 else none) else spec_l1Cur_unlike.l1 k n l (Int.tmod (wrap64 (x + 1)) 256) s bt.2.1 bt.2.2) else (if l.length < 17592186044416 then spec_l1Cur_unlike.l0 k (wrap64 (n - 1)) (l ++ [x]) s a d else none)) (fun k => by rw [spec_l1Cur_unlike.l1.eq_2])
    (Ev.bind (f := fun k b => if b = true then ((spec_l1Cur_one.f s a d 40).bind fun bt => if bt.1 = true then (if l.length < 17592186044416 then spec_l1Cur_unlike.l0 k (wrap64 (n - 1)) (l ++ [x]) s bt.2.1 bt.2.2 else none) else spec_l1Cur_unlike.l1 k n l (Int.tmod (wrap64 (x + 1)) 256) s bt.2.1 bt.2.2) else (if l.length < 17592186044416 then spec_l1Cur_unlike.l0 k (wrap64 (n - 1)) (l ++ [x]) s a d else none)) EH hv)
  by_cases hx : x ∈ l
  ·obtain ⟨b, a1, d1, e1, q1, q2⟩ := spec_l1Cur_one_ex hs d 40 ha (by omega)
   rw [decide_eq_true hx] at go
   simp only [if_true, e1, Option.bind_some] at go
   cases b with
   | true =>
    refine ⟨x, a1, d1, q1, by omega, fun v hv => go ?_⟩
    simp only [if_true, if_pos (show l.length < 17592186044416 by omega)]
    exact hv
   | false =>
    have ew : Int.tmod (wrap64 (x + 1)) 256 = (x + 1) % 256 := by
     rw [wrap_id (by omega) (by omega), Int.tmod_eq_emod_of_nonneg (by omega)]
    obtain ⟨x', a', d', r1, r2, r3⟩ := ih ((x + 1) % 256) a1 d1 (by omega) (by omega) (by
     rw [show ((x + 1) % 256 + (t : Int)) % 256 = (x + ((t + 1 : Nat) : Int)) % 256 by omega]; exact hn) q1 (by omega)
    refine ⟨x', a', d', r1, by omega, fun v hv => go ?_⟩
    simp only [Bool.false_eq_true, if_false, ew]
    exact r3 v hv
  ·rw [decide_eq_false hx] at go
   refine ⟨x, a, d, ha, by omega, fun v hv => go ?_⟩
   simp only [Bool.false_eq_true, if_false, if_pos (show l.length < 17592186044416 by omega)]
   exact hv
theorem unlike_l0 {s : List Int} (hs : BY s) : ∀ (n : Nat) (l : List Int) (a d : Int), l.length + n ≤ 20 → 0 ≤ a → a + 100 * n ≤ 900000000 → ∃ r a' d', Ev (fun k => spec_l1Cur_unlike.l0 k (n : Int) l s a d) (r, a', d') ∧ r.length = l.length + n ∧ 0 ≤ a' ∧ a' ≤ a + 100 * n := by
 intro n
 induction n with
 | zero =>
  intro l a d hl ha hb
  exact ⟨l, a, d, Ev.step (f := fun _ => some (l, a, d)) (fun k => by rw [spec_l1Cur_unlike.l0.eq_2, if_neg (by omega)]) (Ev.now _), rfl, ha, by omega⟩
 | succ n ih =>
  intro l a d hl ha hb
  obtain ⟨x, a1, d1, e1, h1, h2, h3, h4, h5⟩ := spec_l1Cur_pick_ex hs d 256 ha (by omega)
  obtain ⟨t, ht, hf⟩ := far_off l (by omega) x
  obtain ⟨x', a2, d2, q1, q2, q3⟩ := unlike_l1 hs ((n + 1 : Nat) : Int) l (by omega) t x a1 d1 h1 (by omega) hf h4 (by omega)
  obtain ⟨r, a3, d3, E, r1, r2, r3⟩ := ih (l ++ [x']) a2 d2 (by rw [List.length_append, List.length_singleton]; omega) q1 (by omega)
  have ew : wrap64 (((n + 1 : Nat) : Int) - 1) = (n : Int) := by rw [wrap_id (by omega) (by omega)]; omega
  rw [ew] at q3
  refine ⟨r, a3, d3, Ev.step (f := fun k => spec_l1Cur_unlike.l1 k ((n + 1 : Nat) : Int) l x s a1 d1) (fun k => ?_) (q3 _ E), by rw [r1, List.length_append, List.length_singleton]; omega, r2, by omega⟩
  rw [spec_l1Cur_unlike.l0.eq_2, if_pos (by omega), e1, Option.bind_some]
theorem spec_l1Cur_unlike_ex {s : List Int} (hs : BY s) {a : Int} (d : Int) (n : Nat) (hn : n ≤ 20) (ha : 0 ≤ a) (hb : a ≤ 100000000) : ∃ r a' d', Ev (fun k => spec_l1Cur_unlike.f k s a d (n : Int)) (r, a', d') ∧ r.length = n ∧ 0 ≤ a' ∧ a' ≤ a + 100 * n := by
 obtain ⟨r, a', d', E, h1, h2, h3⟩ := unlike_l0 hs n [] a d (by simpa using hn) ha (by omega)
 exact ⟨r, a', d', E, by simpa using h1, h2, h3⟩

theorem spec_l1Cur_among_ex {s : List Int} (hs : BY s) {a : Int} (d : Int) (l : List Int) (ha : 0 ≤ a) (hb : a ≤ 900000000000) (hl : 0 < l.length) : ∃ v a' d', spec_l1Cur_among.f s a d l = some (v, a', d') ∧ v ∈ l ∧ 0 ≤ a' ∧ a' ≤ a + 2 := by
 obtain ⟨v, a1, d1, e1, h2, h3, h4, h5, h6⟩ := spec_l1Cur_pick_ex hs d (l.length : Int) ha hb
 have hv : v < (l.length : Int) := by omega
 obtain ⟨i, rfl⟩ := nat_of h2
 have hi : i < l.length := by omega
 unfold spec_l1Cur_among.f
 rw [e1, Option.bind_some, if_pos h2, if_pos hv]
 exact ⟨_, _, _, rfl, by rw [rd_nat l i hi]; exact List.getElem_mem hi, h5, h6⟩

theorem laws_sameInts_same (l : List Int) (hl : l.length ≤ 1000000) : Ev (fun k => laws_sameInts.f k l l) true := by
 have h : ∀ d i : Nat, i + d = l.length → Ev (fun k => laws_sameInts.l0 k l l (l.length : Int) (i : Int)) true := by
  intro d
  induction d with
  | zero =>
   intro i hi
   exact Ev.step (f := fun _ => some true) (fun k => by rw [laws_sameInts.l0.eq_2, if_neg (by omega)]) (Ev.now _)
  | succ d ih =>
   intro i hi
   refine Ev.step (f := fun k => laws_sameInts.l0 k l l (l.length : Int) ((i + 1 : Nat) : Int)) (fun k => ?_) (ih (i + 1) (by omega))
   rw [laws_sameInts.l0.eq_2, if_pos (by omega), if_pos (by omega), if_pos (by omega), if_pos (by omega), if_pos rfl, wrap_succ i (by omega)]
 unfold laws_sameInts.f
 simp only [if_pos]
 exact h l.length 0 (by omega)

theorem laws_sameLists_same (m : List (List Int)) (hl : m.length ≤ 1000000) (hr : ∀ r ∈ m, r.length ≤ 1000000) : Ev (fun k => laws_sameLists.f k m m) true := by
 have h : ∀ d i : Nat, i + d = m.length → Ev (fun k => laws_sameLists.l0 k m m (m.length : Int) (i : Int)) true := by
  intro d
  induction d with
  | zero =>
   intro i hi
   exact Ev.step (f := fun _ => some true) (fun k => by rw [laws_sameLists.l0.eq_2, if_neg (by omega)]) (Ev.now _)
  | succ d ih =>
   intro i hi
   have hlt : i < m.length := by omega
   refine Ev.step (f := fun k => (laws_sameInts.f k m[i] m[i]).bind fun t => if t = true then laws_sameLists.l0 k m m (m.length : Int) ((i + 1 : Nat) : Int) else some false) (fun k => ?_) (Ev.bind (f := fun k t => if t = true then laws_sameLists.l0 k m m (m.length : Int) ((i + 1 : Nat) : Int) else some false) (laws_sameInts_same m[i] (hr _ (List.getElem_mem hlt))) ?_)
   ·rw [laws_sameLists.l0.eq_2, if_pos (by omega), if_pos (by omega), if_pos (by omega), if_pos (by omega), rdL_nat m i hlt, wrap_succ i (by omega)]
   ·simp only [if_true]
    exact ih (i + 1) (by omega)
 unfold laws_sameLists.f
 simp only [if_pos]
 exact h m.length 0 (by omega)
theorem sameL_c (m : List (List Int)) (hl : m.length ≤ 1000000) (hr : ∀ r ∈ m, r.length ≤ 1000000) {A B : Option Addr} {n k : Nat} (hn : m.length ≤ n) (hk : m.length ≤ k) (w : World) (h1 : Kd.C (Kd.slice 3 (Kd.int .i64)) w A m.length m) (h2 : Kd.C (Kd.slice 3 (Kd.int .i64)) w B m.length m) :
  Calls Try.prog 14 #[.slice A m.length n, .slice B m.length k] w fun e w' => e = .returned (.bool true) ∧ Below w.heap.size w w' := by
 obtain ⟨K, hK⟩ := (laws_sameLists_same m hl hr).rounds
 exact (laws_sameLists.calls K A n m B k m true w h1 hn h2 hk hK).mono fun e w' ⟨he, hd⟩ => ⟨he, hd.below⟩

theorem laws_numberOf_ex {s : List Int} (hs : BY s) (hl : s.length ≤ 1048576) : ∃ n : Nat, Ev (fun k => laws_numberOf.f k s) (n : Int) ∧ n < 1000003 := by
 have h : ∀ d i m : Nat, i + d = s.length → m < 1000003 → ∃ n : Nat, Ev (fun k => laws_numberOf.l0 k (m : Int) s (s.length : Int) (i : Int)) (n : Int) ∧ n < 1000003 := by
  intro d
  induction d with
  | zero =>
   intro i m hi hm
   exact ⟨m, Ev.step (f := fun _ => some (m : Int)) (fun k => by simp only [laws_numberOf.l0]; rw [if_neg (by omega)]) (Ev.now _), hm⟩
  | succ d ih =>
   intro i m hi hm
   have hr := hs.rd (i : Int)
   have e1 : wrap64 (wrap64 (31 * (m : Int)) + wrap64 (rd s (i : Int))) = 31 * (m : Int) + rd s (i : Int) := by
    rw [wrap_in (n := 31 * (m : Int)) (by omega) (by omega), wrap_in (n := rd s (i : Int)) (by omega) (by omega), wrap_in (by omega) (by omega)]
   have ht := tmod_in (31 * (m : Int) + rd s (i : Int)) 1000003 (by omega) (by omega)
   obtain ⟨q, hq⟩ := nat_of ht.1
   obtain ⟨n, h1, h2⟩ := ih (i + 1) q (by omega) (by omega)
   refine ⟨n, Ev.step (f := fun k => laws_numberOf.l0 k (q : Int) s (s.length : Int) ((i + 1 : Nat) : Int)) (fun k => ?_) h1, h2⟩
   have ew : wrap64 ((i : Int) + 1) = ((i + 1 : Nat) : Int) := by rw [wrap_in (by omega) (by omega)]; omega
   simp only [laws_numberOf.l0, e1, hq, ew]
   rw [if_pos (by omega), if_pos (by omega), if_pos (by omega)]
 exact h s.length 0 0 (by omega) (by omega)

theorem impl_GoodMatrix_eq (m : List (List Int)) : impl_GoodMatrix.f m = some (goodM m) := by
 unfold impl_GoodMatrix.f goodM areR
 have e : impl_areGf.bad = fun n => !isB n := by
  funext n
  simp only [impl_areGf.bad, isB]
 have e2 : impl_GoodMatrix.bad m = fun r => !(decide (r.length = (m.getD 0 []).length) && r.all isB) := by
  funext r
  unfold impl_GoodMatrix.bad
  rw [e, List.all_eq_not_any_not]
 rw [e2, List.all_eq_not_any_not]

theorem bes_snoc {m s : List (List Nat)} (h : m.length = s.length) {i : Nat} (hi : i < m.length) : upM ((Mat.bes m s).take i) ++ [Poly.up (m.getD i []) ++ Poly.up (s.getD i [])] = upM ((Mat.bes m s).take (i + 1)) := by
 have hb := Mat.bes_at h i
 have hlt : i < (Mat.bes m s).length := by rw [Mat.bes_length h]; exact hi
 rw [List.getD_eq_getElem?_getD, List.getElem?_eq_getElem hlt, Option.getD_some] at hb
 rw [List.take_succ_eq_append_getElem hlt, hb, ← upM_snoc]
 congr 2
 unfold Poly.up
 rw [List.map_append]
theorem impl_beside_l0 (m s : List (List Nat)) (hl : m.length = s.length) (hm : m.length ≤ 1000) (hr : ∀ i, (m.getD i []).length ≤ 1000) (hs : ∀ i, (s.getD i []).length ≤ 1000) : ∀ d i : Nat, i + d = m.length → Ev (fun k => impl_beside.l0 k (upM s) (upM ((Mat.bes m s).take i)) (upM m) ((upM m).length : Int) (i : Int)) (upM (Mat.bes m s)) := by
 intro d
 induction d with
 | zero =>
  intro i hi
  obtain rfl : i = m.length := by omega
  have e : (Mat.bes m s).take m.length = Mat.bes m s := by rw [← Mat.bes_length hl, List.take_length]
  rw [e]
  exact Ev.step (f := fun _ => some (upM (Mat.bes m s))) (fun k => by rw [impl_beside.l0.eq_2, if_neg (by rw [upM_length]; omega)]) (Ev.now _)
 | succ d ih =>
  intro i hi
  have h1 := hr i
  have h2 := hs i
  have hc : slices_Clone_int_int.f (Poly.up (m.getD i [])) = some (Poly.up (m.getD i [])) := by unfold slices_Clone_int_int.f; rw [if_pos (by rw [Poly.up_length]; omega)]
  refine Ev.step (f := fun k => impl_beside.l0 k (upM s) (upM ((Mat.bes m s).take (i + 1))) (upM m) ((upM m).length : Int) ((i + 1 : Nat) : Int)) (fun k => ?_) (ih (i + 1) (by omega))
  rw [impl_beside.l0.eq_2, if_pos (by rw [upM_length]; omega), if_pos (by omega), if_pos (by rw [upM_length]; omega), rdL_up, rdL_up, hc, Option.bind_some, if_pos (by rw [upM_length]; omega), if_pos (by rw [Poly.up_length, Poly.up_length]; omega), if_pos (by rw [upM_length, List.length_take]; omega), bes_snoc hl (by omega), wrap_succ i (by omega)]
theorem impl_beside_ev (m s : List (List Nat)) (hl : m.length = s.length) (hm : m.length ≤ 1000) (hr : ∀ i, (m.getD i []).length ≤ 1000) (hs : ∀ i, (s.getD i []).length ≤ 1000) : Ev (fun k => impl_beside.f k (upM m) (upM s)) (upM (Mat.bes m s)) := impl_beside_l0 m s hl hm hr hs m.length 0 (by omega)

/-- The first i rows of the unit matrix of n columns. -/
def idR (n i : Nat) : List Int := (List.replicate n (0 : Int)).set i 1
def idL (n i : Nat) : List (List Int) := (List.range i).map (idR n)
theorem idL_length (n i : Nat) : (idL n i).length = i := by simp [idL]
theorem idL_succ (n i : Nat) : idL n (i + 1) = idL n i ++ [idR n i] := by simp [idL, List.range_succ]
theorem idR_length (n i : Nat) : (idR n i).length = n := by simp [idR]
theorem idL_rows {n i : Nat} : ∀ r ∈ idL n i, r.length = n := fun r h => by
 obtain ⟨j, _, rfl⟩ := List.mem_map.1 h
 exact idR_length n j
def identV (a : Int) : List (List Int) × Bool := if 1 ≤ a ∧ a ≤ 8 then (idL a.toNat a.toNat, true) else ([], false)

theorem impl_identity_l0 (n : Nat) (hn : n ≤ 1000) : ∀ d i : Nat, i + d = n → Ev (fun k => impl_identity.l0 k (n : Int) (idL n i) (n : Int) (i : Int)) (idL n n) := by
 intro d
 induction d with
 | zero =>
  intro i hi
  obtain rfl : i = n := by omega
  exact Ev.step (f := fun _ => some (idL i i)) (fun k => by rw [impl_identity.l0.eq_2, if_neg (by omega)]) (Ev.now _)
 | succ d ih =>
  intro i hi
  refine Ev.step (f := fun k => impl_identity.l0 k (n : Int) (idL n (i + 1)) (n : Int) ((i + 1 : Nat) : Int)) (fun k => ?_) (ih (i + 1) (by omega))
  rw [impl_identity.l0.eq_2, if_pos (by omega), if_pos (by omega), if_pos (by omega)]
  simp only [Option.bind_some, Int.toNat_natCast]
  rw [if_pos (by omega), if_pos (by rw [List.length_replicate]; omega), if_pos (by rw [idL_length]; omega), wrap_succ i (by omega), idL_succ]
  rfl
theorem impl_identity_ev (n : Nat) (hn : n ≤ 1000) : Ev (fun k => impl_identity.f k (n : Int)) (idL n n) := impl_identity_l0 n hn n 0 (by omega)

/-- What MulGf answers. -/
def mulGf (a b : Int) : Int × Bool := if isB a && isB b then (((Gf.gm a.toNat b.toNat : Nat) : Int), true) else (0, false)

theorem impl_MulGf_ev (a b : Int) : Ev (fun k => impl_MulGf.f k a b) (mulGf a b) := by
 unfold impl_MulGf.f mulGf
 simp only [impl_isGf_eq, Option.bind_some]
 cases ha : isB a
 ·exact Ev.now _
 ·cases hb : isB b
  ·exact Ev.now _
  ·obtain ⟨m, rfl, hm⟩ := isB_nat ha
   obtain ⟨n, rfl, hn⟩ := isB_nat hb
   exact Ev.bind (f := fun _ t => some (t, true)) (impl_mul_ev m n hm hn) (Ev.now _)

theorem spec_l1All_l0 (l : List Int) (hl : l.length ≤ 140737488351232) : ∀ d i : Nat, i + d = l.length → Ev (fun k => spec_l1All.l0 k l (l.length : Int) (i : Int)) ((l.drop i).all isB) := by
 intro d
 induction d with
 | zero =>
  intro i hi
  obtain rfl : i = l.length := by omega
  rw [List.drop_length]
  exact Ev.step (f := fun _ => some true) (fun k => by simp only [spec_l1All.l0]; rw [if_neg (by omega)]) (Ev.now _)
 | succ d ih =>
  intro i hi
  have hlt : i < l.length := by omega
  rw [List.drop_eq_getElem_cons hlt, List.all_cons]
  cases hb : isB l[i] with
  | true =>
   refine Ev.step (f := fun k => spec_l1All.l0 k l (l.length : Int) ((i + 1 : Nat) : Int)) (fun k => ?_) (ih (i + 1) (by omega))
   simp only [spec_l1All.l0, rd_get l i hlt, wrap_up i (by omega), spec_l1Gf_eq, hb, Option.bind_some, if_true]
   rw [if_pos (by omega), if_pos (by omega), if_pos (by omega)]
  | false =>
   refine Ev.step (f := fun _ => some false) (fun k => ?_) (Ev.now _)
   simp only [spec_l1All.l0, rd_get l i hlt, wrap_up i (by omega), spec_l1Gf_eq, hb, Option.bind_some]
   rw [if_pos (by omega), if_pos (by omega), if_pos (by omega)]; rfl
theorem spec_l1All_ev (l : List Int) (hl : l.length ≤ 140737488351232) : Ev (fun k => spec_l1All.f k l) (l.all isB) := spec_l1All_l0 l hl l.length 0 (by omega)

theorem spec_GoodMatrix_l0 (m : List (List Int)) (hl : m.length ≤ 140737488351232) (hr : ∀ r ∈ m, r.length ≤ 140737488351232) : ∀ d i : Nat, i + d = m.length →
  Ev (fun k => spec_GoodMatrix.l0 k m m (m.length : Int) (i : Int)) (decide (1 ≤ m.length ∧ m.length ≤ 8) && (decide (1 ≤ (m.getD 0 []).length ∧ (m.getD 0 []).length ≤ 8) && areR (m.getD 0 []).length (m.drop i))) := by
 intro d
 induction d with
 | zero =>
  intro i hi
  obtain rfl : i = m.length := by omega
  have e0 : areR (m.getD 0 []).length (m.drop m.length) = true := by rw [List.drop_length]; rfl
  rw [e0, Bool.and_true]
  have hz : rd_L1 m 0 = m.getD 0 [] := rfl
  by_cases h1 : 1 ≤ m.length ∧ m.length ≤ 8
  ·refine Ev.step (f := fun _ => some (decide (1 ≤ m.length ∧ m.length ≤ 8) && decide (1 ≤ (m.getD 0 []).length ∧ (m.getD 0 []).length ≤ 8))) (fun k => ?_) (Ev.now _)
   rw [spec_GoodMatrix.l0.eq_2, if_neg (by omega), spec_l1In_eq, Option.bind_some, decide_eq_true (by omega), if_pos rfl, if_pos (by omega), spec_l1In_eq, hz, decide_eq_true h1, Bool.true_and]
   exact congrArg some (decide_eq_decide.2 (by omega))
  ·refine Ev.step (f := fun _ => some (decide (1 ≤ m.length ∧ m.length ≤ 8) && decide (1 ≤ (m.getD 0 []).length ∧ (m.getD 0 []).length ≤ 8))) (fun k => ?_) (Ev.now _)
   rw [spec_GoodMatrix.l0.eq_2, if_neg (by omega), spec_l1In_eq, Option.bind_some, decide_eq_false (by omega), if_neg (by decide), decide_eq_false h1, Bool.false_and]
 | succ d ih =>
  intro i hi
  have hlt : i < m.length := by omega
  have hz : rd_L1 m 0 = m.getD 0 [] := rfl
  have eR : areR (m.getD 0 []).length (m.drop i) = (decide (m[i].length = (m.getD 0 []).length) && m[i].all isB && areR (m.getD 0 []).length (m.drop (i + 1))) := by
   rw [List.drop_eq_getElem_cons hlt]; rfl
  rw [eR]
  have E := spec_l1All_ev m[i] (hr _ (List.getElem_mem hlt))
  by_cases h1 : m[i].length = (m.getD 0 []).length
  ·refine Ev.step (f := fun k => (spec_l1All.f k m[i]).bind fun t => if t = true then spec_GoodMatrix.l0 k m m (m.length : Int) ((i + 1 : Nat) : Int) else some false) (fun k => ?_) (Ev.bind (f := fun k t => if t = true then spec_GoodMatrix.l0 k m m (m.length : Int) ((i + 1 : Nat) : Int) else some false) E ?_)
   ·rw [spec_GoodMatrix.l0.eq_2, if_pos (by omega), if_pos (by omega), if_pos (by omega), if_pos (by omega), rdL_nat m i hlt, hz, if_pos (by omega), wrap_succ i (by omega)]
   ·rw [decide_eq_true h1, Bool.true_and]
    cases m[i].all isB
    ·rw [Bool.false_and, Bool.and_false, Bool.and_false]
     exact Ev.now _
    ·rw [Bool.true_and]
     simp only [if_true]
     exact ih (i + 1) (by omega)
  ·rw [decide_eq_false h1, Bool.false_and, Bool.false_and, Bool.and_false, Bool.and_false]
   refine Ev.step (f := fun _ => some false) (fun k => ?_) (Ev.now _)
   rw [spec_GoodMatrix.l0.eq_2, if_pos (by omega), if_pos (by omega), if_pos (by omega), if_pos (by omega), rdL_nat m i hlt, hz, if_neg (by omega)]
theorem spec_GoodMatrix_ev (m : List (List Int)) (hl : m.length ≤ 140737488351232) (hr : ∀ r ∈ m, r.length ≤ 140737488351232) : Ev (fun k => spec_GoodMatrix.f k m) (goodM m) := spec_GoodMatrix_l0 m hl hr m.length 0 (by omega)

theorem spec_l2Own_l0 (m : List (List Int)) (hm : m.length ≤ 1048576) (hr : ∀ r ∈ m, r.length ≤ 1048576) : ∀ (d i : Nat), i + d = m.length → Ev (fun k => spec_l2Own.l0 k (m.take i) m (m.length : Int) (i : Int)) m := by
 intro d
 induction d with
 | zero =>
  intro i hi
  obtain rfl : i = m.length := by omega
  rw [List.take_length]
  exact Ev.step (f := fun _ => some m) (fun k => by rw [spec_l2Own.l0.eq_2, if_neg (by omega)]) (Ev.now _)
 | succ d ih =>
  intro i hi
  have hlt : i < m.length := by omega
  have h1 := hr _ (List.getElem_mem hlt)
  have e : m.take i ++ [m[i]] = m.take (i + 1) := by rw [List.take_succ_eq_append_getElem hlt]
  refine Ev.step (f := fun k => spec_l2Own.l0 k (m.take (i + 1)) m (m.length : Int) ((i + 1 : Nat) : Int)) (fun k => ?_) (ih (i + 1) (by omega))
  rw [spec_l2Own.l0.eq_2, if_pos (by omega), if_pos (by omega), if_pos (by omega), Option.bind_some, rdL_nat m i hlt, List.nil_append, if_pos (by simp only [List.length_nil]; omega), if_pos (by rw [List.length_take]; omega), e, wrap_succ i (by omega)]
theorem spec_l2Own_ev (m : List (List Int)) (hm : m.length ≤ 1048576) (hr : ∀ r ∈ m, r.length ≤ 1048576) : Ev (fun k => spec_l2Own.f k m) m := spec_l2Own_l0 m hm hr m.length 0 (by omega)

theorem spec_l2Identity_l0 (n : Nat) (hn : n ≤ 1000) : ∀ d i : Nat, i + d = n → Ev (fun k => spec_l2Identity.l0 k (n : Int) (idL n i) (i : Int)) (idL n n) := by
 intro d
 induction d with
 | zero =>
  intro i hi
  obtain rfl : i = n := by omega
  exact Ev.step (f := fun _ => some (idL i i)) (fun k => by rw [spec_l2Identity.l0.eq_2, if_neg (by omega)]) (Ev.now _)
 | succ d ih =>
  intro i hi
  refine Ev.step (f := fun k => spec_l2Identity.l0 k (n : Int) (idL n (i + 1)) ((i + 1 : Nat) : Int)) (fun k => ?_) (ih (i + 1) (by omega))
  rw [spec_l2Identity.l0.eq_2, if_pos (by omega), if_pos (by omega), if_pos (by omega)]
  simp only [Option.bind_some, Int.toNat_natCast]
  rw [if_pos (by omega), if_pos (by rw [List.length_replicate]; omega), if_pos (by rw [idL_length]; omega), wrap_succ i (by omega), idL_succ]
  rfl
theorem spec_l2Identity_ev (n : Nat) (hn : n ≤ 1000) : Ev (fun k => spec_l2Identity.f k (n : Int)) (idL n n) := spec_l2Identity_l0 n hn n 0 (by omega)

theorem spec_l2Add_l0 (r q : List Nat) (f : Nat) (hf : f < 256) (hr : Poly.AllB r) (hq : Poly.AllB q) (hl : r.length = q.length) (hb : r.length ≤ 1000) : ∀ (d i : Nat), i + d = q.length →
  Ev (fun k => spec_l2Add.l0 k (Poly.up (Mat.raddTo f r q i)) (f : Int) (Poly.up q) (q.length : Int) (i : Int)) (Poly.up (Mat.radd f r q)) := by
 intro d
 induction d with
 | zero =>
  intro i hi
  obtain rfl : i = q.length := by omega
  rw [← hl, Mat.raddTo_all hl]
  exact Ev.step (f := fun _ => some (Poly.up (Mat.radd f r q))) (fun k => by rw [spec_l2Add.l0.eq_2, if_neg (by omega)]) (Ev.now _)
 | succ d ih =>
  intro i hi
  have hir : i < r.length := by omega
  have hqi : q.getD i 0 < 256 := Poly.AllB.get hq i
  have hx := xor_up (Poly.AllB.get hr i) (Gf.gm_lt (q.getD i 0) hf)
  have hc : Gf.gm (q.getD i 0) f = Gf.gm f (q.getD i 0) := Gf.gm_comm hqi hf
  refine Ev.step (f := fun k => (spec_l1Mul.f k ((q.getD i 0 : Nat) : Int) (f : Int)).bind fun t => spec_l2Add.l0 k ((Poly.up (Mat.raddTo f r q i)).set i (Go.bits .xor .i64 ((r.getD i 0 : Nat) : Int) t)) (f : Int) (Poly.up q) (q.length : Int) ((i + 1 : Nat) : Int)) (fun k => ?_) ?_
  ·rw [spec_l2Add.l0.eq_2, if_pos (by omega), if_pos (by omega), if_pos (by rw [Poly.up_length]; omega), if_pos (by rw [Poly.up_length, Mat.raddTo_length hl]; omega), Poly.rd_up, Poly.rd_up, Mat.raddTo_at hl hir, wrap_succ i (by omega), Int.toNat_natCast]
  ·refine Ev.bind (f := fun k t => spec_l2Add.l0 k ((Poly.up (Mat.raddTo f r q i)).set i (Go.bits .xor .i64 ((r.getD i 0 : Nat) : Int) t)) (f : Int) (Poly.up q) (q.length : Int) ((i + 1 : Nat) : Int)) (spec_l1Mul_ev _ _ hqi hf) ?_
   simp only [hc, hx, Poly.up_set, Mat.raddTo_succ hl hir]
   exact ih (i + 1) (by omega)
theorem spec_l2Add_ev (r q : List Nat) (f : Nat) (hf : f < 256) (hr : Poly.AllB r) (hq : Poly.AllB q) (hl : r.length = q.length) (hb : r.length ≤ 1000) : Ev (fun k => spec_l2Add.f k (Poly.up r) (Poly.up q) (f : Int)) (Poly.up (Mat.radd f r q)) := by
 unfold spec_l2Add.f
 have := spec_l2Add_l0 r q f hf hr hq hl hb q.length 0 (by omega)
 rw [Mat.raddTo_zero] at this
 rw [Poly.up_length]
 exact this

theorem dotL_take : ∀ (fs v : List Nat) (j : Nat), fs.length = v.length → j < fs.length → Mat.dotL (fs.take (j + 1)) (v.take (j + 1)) = Mat.dotL (fs.take j) (v.take j) ^^^ Gf.gm (fs.getD j 0) (v.getD j 0)
 | [], _, _, _, h => by cases h
 | _ :: _, [], _, h, _ => by cases h
 | f :: fs, x :: v, 0, _, _ => by simp [Mat.dotL]
 | f :: fs, x :: v, j + 1, h, hj => by
  have ih := dotL_take fs v j (by simpa using h) (by simpa using hj)
  simp only [List.take_succ_cons, Mat.dotL, List.getD_cons_succ] at ih ⊢
  rw [ih, Nat.xor_assoc]
theorem dotL_take_lt (fs v : List Nat) (h : Poly.AllB fs) (j : Nat) : Mat.dotL (fs.take j) (v.take j) < 256 := Mat.dotL_lt _ _ (fun x hx => h x (List.mem_of_mem_take hx))
theorem colM_snoc (m : List (List Nat)) (v : List Nat) {i : Nat} (hi : i < m.length) : Poly.up (Mat.colM (m.take i) v) ++ [((Mat.dotL (m.getD i []) v : Nat) : Int)] = Poly.up (Mat.colM (m.take (i + 1)) v) := by
 unfold Mat.colM Poly.up
 rw [List.take_succ_eq_append_getElem hi, List.map_append, List.map_append, List.getD_eq_getElem?_getD, List.getElem?_eq_getElem hi]; rfl

theorem spec_l2Column_l1 (n : Nat) (m : List (List Nat)) (v : List Nat) (hm : Mat.MB' n m) (hv : Poly.AllB v) (hvl : v.length = n) (hn : n ≤ 1000) (hml : m.length ≤ 1000) (i : Nat) (hi : i < m.length) (hnext : Ev (fun k => spec_l2Column.l0 k (Poly.up v) (Poly.up (Mat.colM (m.take (i + 1)) v)) (upM m) ((upM m).length : Int) ((i + 1 : Nat) : Int)) (Poly.up (Mat.colM m v))) :
  ∀ d j : Nat, j + d = n → Ev (fun k => spec_l2Column.l1 k (Poly.up v) (Poly.up (Mat.colM (m.take i) v)) ((Mat.dotL ((m.getD i []).take j) (v.take j) : Nat) : Int) (upM m) ((upM m).length : Int) (i : Int) (Poly.up (m.getD i [])) ((Poly.up (m.getD i [])).length : Int) (j : Int)) (Poly.up (Mat.colM m v)) := by
 obtain ⟨hr, hrb⟩ := hm.get hi
 intro d
 induction d with
 | zero =>
  intro j hj
  obtain rfl : j = n := by omega
  refine Ev.step (f := fun k => spec_l2Column.l0 k (Poly.up v) (Poly.up (Mat.colM (m.take (i + 1)) v)) (upM m) ((upM m).length : Int) ((i + 1 : Nat) : Int)) (fun k => ?_) hnext
  rw [spec_l2Column.l1.eq_2, if_neg (by rw [Poly.up_length]; omega), if_pos (by rw [Poly.up_length]; unfold Mat.colM; rw [List.length_map, List.length_take]; omega), show (m.getD i []).take j = m.getD i [] from by rw [← hr, List.take_length], show v.take j = v from by rw [← hvl, List.take_length], colM_snoc m v hi, wrap_succ i (by omega)]
 | succ d ih =>
  intro j hj
  have hjr : j < (m.getD i []).length := by omega
  have hx := xor_up (dotL_take_lt (m.getD i []) v hrb j) (Gf.gm_lt (v.getD j 0) (Poly.AllB.get hrb j))
  refine Ev.step (f := fun k => (spec_l1Mul.f k (((m.getD i []).getD j 0 : Nat) : Int) ((v.getD j 0 : Nat) : Int)).bind fun t => spec_l2Column.l1 k (Poly.up v) (Poly.up (Mat.colM (m.take i) v)) (Go.bits .xor .i64 ((Mat.dotL ((m.getD i []).take j) (v.take j) : Nat) : Int) t) (upM m) ((upM m).length : Int) (i : Int) (Poly.up (m.getD i [])) ((Poly.up (m.getD i [])).length : Int) ((j + 1 : Nat) : Int)) (fun k => ?_) ?_
  ·rw [spec_l2Column.l1.eq_2, if_pos (by rw [Poly.up_length]; omega), if_pos (by omega), if_pos (by rw [Poly.up_length]; omega), if_pos (by rw [Poly.up_length]; omega), Poly.rd_up, Poly.rd_up, wrap_succ j (by omega)]
  ·refine Ev.bind (f := fun k t => spec_l2Column.l1 k (Poly.up v) (Poly.up (Mat.colM (m.take i) v)) (Go.bits .xor .i64 ((Mat.dotL ((m.getD i []).take j) (v.take j) : Nat) : Int) t) (upM m) ((upM m).length : Int) (i : Int) (Poly.up (m.getD i [])) ((Poly.up (m.getD i [])).length : Int) ((j + 1 : Nat) : Int)) (spec_l1Mul_ev _ _ (Poly.AllB.get hrb j) (Poly.AllB.get hv j)) ?_
   have h9 := ih (j + 1) (by omega)
   rw [dotL_take _ _ j (by omega) hjr] at h9
   show Ev (fun k => spec_l2Column.l1 k (Poly.up v) (Poly.up (Mat.colM (m.take i) v)) (Go.bits .xor .i64 ((Mat.dotL ((m.getD i []).take j) (v.take j) : Nat) : Int) ((Gf.gm ((m.getD i []).getD j 0) (v.getD j 0) : Nat) : Int)) (upM m) ((upM m).length : Int) (i : Int) (Poly.up (m.getD i [])) ((Poly.up (m.getD i [])).length : Int) ((j + 1 : Nat) : Int)) _
   rw [hx]
   exact h9
theorem spec_l2Column_l0 (n : Nat) (m : List (List Nat)) (v : List Nat) (hm : Mat.MB' n m) (hv : Poly.AllB v) (hvl : v.length = n) (hn : n ≤ 1000) (hml : m.length ≤ 1000) : ∀ d i : Nat, i + d = m.length → Ev (fun k => spec_l2Column.l0 k (Poly.up v) (Poly.up (Mat.colM (m.take i) v)) (upM m) ((upM m).length : Int) (i : Int)) (Poly.up (Mat.colM m v)) := by
 intro d
 induction d with
 | zero =>
  intro i hi
  obtain rfl : i = m.length := by omega
  rw [List.take_length]
  exact Ev.step (f := fun _ => some (Poly.up (Mat.colM m v))) (fun k => by rw [spec_l2Column.l0.eq_2, if_neg (by rw [upM_length]; omega)]) (Ev.now _)
 | succ d ih =>
  intro i hi
  have h9 := spec_l2Column_l1 n m v hm hv hvl hn hml i (by omega) (ih (i + 1) (by omega)) n 0 (by omega)
  refine Ev.step (f := fun k => spec_l2Column.l1 k (Poly.up v) (Poly.up (Mat.colM (m.take i) v)) 0 (upM m) ((upM m).length : Int) (i : Int) (Poly.up (m.getD i [])) ((Poly.up (m.getD i [])).length : Int) 0) (fun k => ?_) h9
  rw [spec_l2Column.l0.eq_2, if_pos (by rw [upM_length]; omega), if_pos (by omega), if_pos (by rw [upM_length]; omega), rdL_up]
theorem spec_l2Column_ev (n : Nat) (m : List (List Nat)) (v : List Nat) (hm : Mat.MB' n m) (hv : Poly.AllB v) (hvl : v.length = n) (hn : n ≤ 1000) (hml : m.length ≤ 1000) : Ev (fun k => spec_l2Column.f k (upM m) (Poly.up v)) (Poly.up (Mat.colM m v)) := spec_l2Column_l0 n m v hm hv hvl hn hml m.length 0 (by omega)

def rowsIn (m : List (List Int)) (rows : List Int) : Bool := !rows.any fun i => !decide (0 ≤ i ∧ i < (m.length : Int))
def rowsL (m : List (List Int)) (rows : List Int) : List (List Int) := rows.map fun i => m.getD i.toNat []
def rowsV (m : List (List Int)) (rows : List Int) : List (List Int) × Bool := if goodM m && decide (1 ≤ rows.length ∧ rows.length ≤ 8) && rowsIn m rows then (rowsL m rows, true) else ([], false)
theorem rowsL_length (m : List (List Int)) (rows : List Int) : (rowsL m rows).length = rows.length := by simp [rowsL]
theorem getD_rows {m : List (List Int)} {k : Nat} (h : ∀ r ∈ m, r.length ≤ k) (i : Nat) : (m.getD i []).length ≤ k := by
 rw [List.getD_eq_getElem?_getD]
 cases hi : m[i]? with
 | none => simp
 | some r => exact h r (List.mem_of_getElem? hi)
theorem rowsV_small (m : List (List Int)) (rows : List Int) : (rowsV m rows).1.length ≤ 8 ∧ ∀ r ∈ (rowsV m rows).1, r.length ≤ 8 := by
 unfold rowsV
 split
 ·rename_i h
  simp only [Bool.and_eq_true, decide_eq_true_eq] at h
  refine ⟨by rw [rowsL_length]; omega, fun r hr => ?_⟩
  obtain ⟨i, _, rfl⟩ := List.mem_map.1 hr
  exact getD_rows (goodM_rows h.1.1).2 _
 ·exact ⟨by simp, fun r hr => by cases hr⟩
theorem rowsIn_at {m : List (List Int)} {rows : List Int} (h : rowsIn m rows = true) : ∀ i ∈ rows, 0 ≤ i ∧ i < (m.length : Int) := fun i hi => by
 simp only [rowsIn, Bool.not_eq_true', List.any_eq_false, Bool.not_eq_true', decide_eq_false_iff_not, Classical.not_not, Bool.not_eq_true] at h
 have := h i hi
 simpa using this

theorem spec_l2Rows_l0 (m : List (List Int)) (rows : List Int) (hm : m.length ≤ 1000) (hr : ∀ r ∈ m, r.length ≤ 1000) (hi : ∀ i ∈ rows, 0 ≤ i ∧ i < (m.length : Int)) (hrl : rows.length ≤ 1000) : ∀ (d i : Nat) (out : List (List Int)), i + d = rows.length → out.length = i →
  Ev (fun k => spec_l2Rows.l0 k m out rows (rows.length : Int) (i : Int)) (out ++ rowsL m (rows.drop i)) := by
 intro d
 induction d with
 | zero =>
  intro i out hid hol
  obtain rfl : i = rows.length := by omega
  rw [List.drop_length]
  exact Ev.step (f := fun _ => some (out ++ rowsL m [])) (fun k => by rw [spec_l2Rows.l0.eq_2, if_neg (by omega)]; simp [rowsL]) (Ev.now _)
 | succ d ih =>
  intro i out hid hol
  have hlt : i < rows.length := by omega
  have hx := hi _ (List.getElem_mem hlt)
  have hL : rd_L1 m rows[i] = m.getD rows[i].toNat [] := rfl
  have hLl := getD_rows hr rows[i].toNat
  have e1 : rowsL m (rows.drop i) = m.getD rows[i].toNat [] :: rowsL m (rows.drop (i + 1)) := by rw [List.drop_eq_getElem_cons hlt]; rfl
  rw [e1]
  have := ih (i + 1) (out ++ [m.getD rows[i].toNat []]) (by omega) (by simp [hol])
  rw [List.append_assoc] at this
  refine Ev.step (f := fun k => spec_l2Rows.l0 k m (out ++ [m.getD rows[i].toNat []]) rows (rows.length : Int) ((i + 1 : Nat) : Int)) (fun k => ?_) this
  rw [spec_l2Rows.l0.eq_2, if_pos (by omega), if_pos (by omega), if_pos (by omega), Option.bind_some, rd_get rows i hlt, if_pos hx.1, if_pos hx.2, hL, List.nil_append, if_pos (by simp only [List.length_nil]; omega), if_pos (by omega), wrap_succ i (by omega)]
theorem spec_l2Rows_ev (m : List (List Int)) (rows : List Int) (hm : m.length ≤ 1000) (hr : ∀ r ∈ m, r.length ≤ 1000) (hi : ∀ i ∈ rows, 0 ≤ i ∧ i < (m.length : Int)) (hrl : rows.length ≤ 1000) : Ev (fun k => spec_l2Rows.f k m rows) (rowsL m rows) :=
 spec_l2Rows_l0 m rows hm hr hi hrl rows.length 0 [] (by omega) rfl

theorem spec_RowsOf_l0 (m : List (List Int)) (rows : List Int) (hm : m.length ≤ 8) (hr : ∀ r ∈ m, r.length ≤ 8) (hrl : rows.length ≤ 8) : ∀ (d i : Nat), i + d = rows.length → (∀ j : Nat, (h : j < rows.length) → j < i → 0 ≤ rows[j] ∧ rows[j] < (m.length : Int)) →
  Ev (fun k => spec_RowsOf.l0 k m rows rows (rows.length : Int) (i : Int)) (if rowsIn m (rows.drop i) then (rowsL m rows, true) else ([], false)) := by
 intro d
 induction d with
 | zero =>
  intro i hid hdone
  obtain rfl : i = rows.length := by omega
  rw [List.drop_length, if_pos (by rfl)]
  have E := spec_l2Rows_ev m rows (by omega) (fun r h => by have := hr r h; omega) (fun x hx => by obtain ⟨j, hj, rfl⟩ := List.getElem_of_mem hx; exact hdone j hj hj) (by omega)
  refine Ev.step (f := fun k => (spec_l2Rows.f k m rows).bind fun t => some (t, true)) (fun k => ?_) (Ev.bind (f := fun _ t => some (t, true)) E (Ev.now _))
  rw [spec_RowsOf.l0.eq_2, if_neg (by omega)]
 | succ d ih =>
  intro i hid hdone
  have hlt : i < rows.length := by omega
  have e1 : rowsIn m (rows.drop i) = (decide (0 ≤ rows[i] ∧ rows[i] < (m.length : Int)) && rowsIn m (rows.drop (i + 1))) := by
   unfold rowsIn
   rw [List.drop_eq_getElem_cons hlt, List.any_cons, Bool.not_or, Bool.not_not]
  rw [e1]
  by_cases hx : 0 ≤ rows[i] ∧ rows[i] < (m.length : Int)
  ·rw [decide_eq_true hx, Bool.true_and]
   refine Ev.step (f := fun k => spec_RowsOf.l0 k m rows rows (rows.length : Int) ((i + 1 : Nat) : Int)) (fun k => ?_) (ih (i + 1) (by omega) (fun j hj hji => by
    by_cases e : j = i
    ·subst e; exact hx
    ·exact hdone j hj (by omega)))
   rw [spec_RowsOf.l0.eq_2, if_pos (by omega), if_pos (by omega), if_pos (by omega), rd_get rows i hlt, if_neg (by omega), if_neg (by omega), wrap_succ i (by omega)]
  ·rw [decide_eq_false hx, Bool.false_and, if_neg (by decide)]
   refine Ev.step (f := fun _ => some ([], false)) (fun k => ?_) (Ev.now _)
   rw [spec_RowsOf.l0.eq_2, if_pos (by omega), if_pos (by omega), if_pos (by omega), rd_get rows i hlt]
   by_cases h0 : rows[i] < 0
   ·rw [if_pos h0]
   ·rw [if_neg h0, if_pos (by omega)]
theorem spec_RowsOf_ev (m : List (List Int)) (rows : List Int) (ha : m.length ≤ 1048576) (har : ∀ r ∈ m, r.length ≤ 1048576) (hb : rows.length ≤ 1048576) : Ev (fun k => spec_RowsOf.f k m rows) (rowsV m rows) := by
 unfold spec_RowsOf.f rowsV
 refine Ev.bind (spec_GoodMatrix_ev m (by omega) (fun r h => by have := har r h; omega)) ?_
 cases g1 : goodM m
 ·simp only [Bool.false_eq_true, if_false, Bool.false_and]
  exact Ev.step (f := fun _ => some ([], false)) (fun k => by rw [spec_RowsOf.j0.eq_2, if_pos rfl]) (Ev.now _)
 have hg := goodM_rows g1
 simp only [if_true, Bool.true_and, spec_l1In_eq, Option.bind_some]
 by_cases h1 : 1 ≤ rows.length ∧ rows.length ≤ 8
 ·have e1 : decide (1 ≤ (rows.length : Int) ∧ (rows.length : Int) ≤ 8) = true := decide_eq_true (by omega)
  rw [decide_eq_true h1, Bool.true_and]
  simp only [e1]
  have E := spec_RowsOf_l0 m rows hg.1 hg.2 h1.2 rows.length 0 (by omega) (fun j hj h => by omega)
  rw [List.drop_zero] at E
  exact Ev.step (f := fun k => spec_RowsOf.l0 k m rows rows (rows.length : Int) ((0 : Nat) : Int)) (fun k => by rw [spec_RowsOf.j0.eq_2, if_neg (by decide)]; rfl) E
 ·have e1 : decide (1 ≤ (rows.length : Int) ∧ (rows.length : Int) ≤ 8) = false := decide_eq_false (by omega)
  rw [decide_eq_false h1, Bool.false_and]
  simp only [e1]
  exact Ev.step (f := fun _ => some ([], false)) (fun k => by rw [spec_RowsOf.j0.eq_2, if_pos (by decide)]) (Ev.now _)

def T_fc12 : Bool × List (List Nat × List Nat) := (true, [([], []), ([], []), ([], []), ([], []), ([2, 3], [2, 3]), ([0, 1, 4], [0, 1, 4]), ([], []), ([], []), ([7], [7]), ([], []), ([8, 9], [8, 9]), ([6, 10], [6, 10]), ([5, 11], [5, 11]), ([12], [12]), ([13], [13]), ([13], [13]), ([14, 12, 0, 1, 2, 3, 4, 5, 6, 7, 8, 9, 10, 11, 12, 13, 14], [14]), ([15, 16, 0, 1, 2, 3, 4, 5, 6, 7, 8, 9, 10, 11, 12, 13, 14, 15, 16], [15])])
def B_fc12 : List Nat := [0, 0, 0, 0, 12, 31, 0, 0, 128, 0, 896, 1984, 4095, 8191, 16383, 16383, 32767, 131071]
theorem tab_fc12 : rtab .any (opsOf Try.f4 12) = T_fc12 := by kernel_rfl
theorem bits_fc12 : waitsOk T_fc12.2 B_fc12 = true := by kernel_rfl

open Mat Elim Lin in
theorem ext_fn {c : Nat} {m m' : List (List Nat)} (h : Mat.MB' c m) (h' : Mat.MB' c m') (hl : m.length = m'.length) (e : ∀ i j, i < m.length → j < c → Mat.fn m i j = Mat.fn m' i j) : m = m' := by
 apply List.ext_getElem hl
 intro i h1 h2
 have e1 : m.getD i [] = m[i] := by rw [List.getD_eq_getElem?_getD, List.getElem?_eq_getElem h1]; rfl
 have e2 : m'.getD i [] = m'[i] := by rw [List.getD_eq_getElem?_getD, List.getElem?_eq_getElem h2]; rfl
 have r1 := h.get h1
 have r2 := h'.get h2
 rw [e1] at r1
 rw [e2] at r2
 apply List.ext_getElem (by rw [r1.1, r2.1])
 intro j h3 h4
 have := e i j h1 (by rw [← r1.1]; exact h3)
 unfold Mat.fn at this
 rw [e1, e2, List.getD_eq_getElem?_getD, List.getElem?_eq_getElem h3, List.getD_eq_getElem?_getD, List.getElem?_eq_getElem h4] at this
 exact this
theorem mul_inv {n : Nat} {m b : List (List Nat)} (h : Mat.MB' n m) (hn : m.length = n) (e : Mat.inv m = some b) : Mat.mulM n m b = Mat.idM n ∧ Mat.mulM n b m = Mat.idM n := by
 obtain ⟨hb, hbl⟩ := Mat.inv_MB h hn e
 have h9 := Elim.inverse_prod (A := Mat.fn m) (B := Mat.fn b) (n := n) (fun i j _ _ => Mat.fn_B h n i j (by assumption) (by assumption)) (fun i j _ _ => Mat.fn_B hb n i j (by assumption) (by assumption)) (Mat.inv_iff h hn e)
 constructor
 ·refine ext_fn (Mat.mulM_MB h hb) (Mat.idM_MB n) (by rw [Mat.mulM_length, Mat.idM_length, hn]) (fun i j hi hj => ?_)
  rw [Mat.mulM_length, hn] at hi
  rw [Mat.mulM_fn h hb hbl (by rw [hn]; exact hi), h9.1 i j hi hj, Mat.idM_fn hi hj]
 ·refine ext_fn (Mat.mulM_MB hb h) (Mat.idM_MB n) (by rw [Mat.mulM_length, Mat.idM_length, hbl]) (fun i j hi hj => ?_)
  rw [Mat.mulM_length, hbl] at hi
  rw [Mat.mulM_fn hb h hn (by rw [hbl]; exact hi), h9.2 i j hi hj, Mat.idM_fn hi hj]
theorem mul_K {c n : Nat} {a b : List (List Nat)} (ha : Mat.MB' n a) (hb : Mat.MB' c b) (hbl : b.length = n) {v : Nat → Nat} (hv : ∀ j, v j < 256) (hz : ∀ i, i < a.length → Lin.dot n (Mat.fn a i) (fun t => Lin.dot c (Mat.fn b t) v) = 0) : Elim.K (Mat.mulM c a b).length c (Mat.fn (Mat.mulM c a b)) v := by
 intro i hi
 rw [Mat.mulM_length] at hi
 rw [← hz i hi, ← Elim.prod_dot (n := n) (m := c) (fun t ht => Mat.fn_B ha a.length i t hi ht) (fun t j ht hj => Mat.fn_B hb n t j ht hj) hv]
 exact Lin.xs_congr fun j hj => by rw [Mat.mulM_fn ha hb hbl hi]
theorem rank_mul_right {c n : Nat} {a b : List (List Nat)} (ha : Mat.MB' n a) (hb : Mat.MB' c b) (hbl : b.length = n) : Mat.rank c (Mat.mulM c a b) ≤ Mat.rank c b := by
 refine Mat.rank_le (Mat.mulM_MB ha hb) (F := Mat.fn (Mat.sv c 0 0 b).1) (fun i j hi hj => Mat.fn_B (Mat.sv_MB c 0 0 hb) (i + 1) i j (by omega) hj) (fun v hv hz => ?_)
 have hk := Mat.rank_rows hb hv hz
 refine mul_K ha hb hbl hv (fun i hi => ?_)
 exact Lin.xs_zero fun t ht => by show Gf.gm (Mat.fn a i t) (Lin.dot c (Mat.fn b t) v) = 0; rw [hk t (by rw [hbl]; exact ht), Gf.gm_zero]
theorem rank_mul_left {c n : Nat} {a b : List (List Nat)} (ha : Mat.MB' n a) (hb : Mat.MB' c b) (hbl : b.length = n) : Mat.rank c (Mat.mulM c a b) ≤ Mat.rank n a := by
 have hS := Mat.sv_MB n 0 0 ha
 refine Mat.rank_le (Mat.mulM_MB ha hb) (F := Elim.prod n (Mat.fn (Mat.sv n 0 0 a).1) (Mat.fn b)) (fun i j hi hj => Lin.xs_lt fun t ht => Gf.gm_lt _ (Mat.fn_B hS (i + 1) i t (by omega) ht)) (fun v hv hz => ?_)
 have hu : ∀ t, Lin.dot c (Mat.fn b t) v < 256 := fun t => Lin.dot_lt v (fun j hj => Mat.fn_B hb (t + 1) t j (by omega) hj)
 have hk := Mat.rank_rows ha (v := fun t => Lin.dot c (Mat.fn b t) v) hu (fun i hi => by
  rw [← Elim.prod_dot (n := n) (m := c) (fun t ht => Mat.fn_B hS (i + 1) i t (by omega) ht) (fun t j ht hj => Mat.fn_B hb n t j ht hj) hv]
  exact hz i hi)
 exact mul_K ha hb hbl hv hk

def invV (l : List (List Int)) : List (List Int) × Bool := if goodM l && decide (l.length = (l.getD 0 []).length) then (match Mat.inv (dnM l) with
 | none => ([], false)
 | some s => (upM s, true)) else ([], false)
theorem inv_MB {n : Nat} {m t : List (List Nat)} (h : Mat.MB' n m) (hn : m.length = n) (ht : Mat.inv m = some t) : Mat.MB' n t ∧ t.length = n := by
 subst hn
 unfold Mat.inv at ht
 split at ht
 ·cases ht
 ·injection ht with ht
  subst ht
  exact ⟨Mat.sv2_MB _ _ _ h (Mat.idM_MB m.length) (Mat.idM_length _), Mat.sv2_length _ _ _ (Mat.idM_length _)⟩
theorem invV_small (l : List (List Int)) : (invV l).1.length ≤ 8 ∧ ∀ r ∈ (invV l).1, r.length ≤ 8 := by
 unfold invV
 split
 ·rename_i h
  rw [Bool.and_eq_true, decide_eq_true_eq] at h
  obtain ⟨c, m, rfl, hm, e1, e2, h1, h2, h3, h4⟩ := goodM_up h.1
  rw [dnM_upM]
  have hc : m.length = c := by have := h.2; rw [e1, upM_length] at this; exact this
  split
  ·exact ⟨by simp, fun r hr => by cases hr⟩
  ·rename_i t ht
   have h9 := inv_MB hm hc ht
   exact upM_small h9.1 (by omega) (by omega)
 ·exact ⟨by simp, fun r hr => by cases hr⟩

def solveOk (l : List (List Int)) (v : List Int) : Bool := goodM l && (decide (l.length = (l.getD 0 []).length) && (decide (v.length = l.length) && v.all isB))
def solveV (l : List (List Int)) (v : List Int) : List Int × Bool := if solveOk l v then (match Mat.inv (dnM l) with
 | none => ([], false)
 | some s => (Poly.up (Mat.colM s (v.map Int.toNat)), true)) else ([], false)
theorem solveV_small (l : List (List Int)) (v : List Int) : (solveV l v).1.length ≤ 8 := by
 unfold solveV
 split
 ·rename_i h
  unfold solveOk at h
  rw [Bool.and_eq_true, Bool.and_eq_true, decide_eq_true_eq] at h
  obtain ⟨c, m, rfl, hm, e1, e2, h1, h2, h3, h4⟩ := goodM_up h.1
  rw [dnM_upM]
  have hc : m.length = c := by have := h.2.1; rw [e1, upM_length] at this; exact this
  split
  ·simp
  ·rename_i t ht
   have h9 := inv_MB hm hc ht
   show (Poly.up (Mat.colM t _)).length ≤ 8
   rw [Poly.up_length, Mat.colM_length, h9.2]; omega
 ·simp
theorem solveV_inv (l : List (List Int)) (v : List Int) : solveV l v = if (invV l).2 && (decide (v.length = l.length) && v.all isB) then (Poly.up (Mat.colM (dnM (invV l).1) (v.map Int.toNat)), true) else ([], false) := by
 unfold solveV solveOk invV
 cases goodM l <;> cases decide (l.length = (l.getD 0 []).length) <;> cases Mat.inv (dnM l) <;> simp [dnM_upM]
theorem invV_true {l : List (List Int)} (h : (invV l).2 = true) : ∃ (c : Nat) (m s : List (List Nat)), l = upM m ∧ Mat.MB' c m ∧ m.length = c ∧ 1 ≤ c ∧ c ≤ 8 ∧ Mat.inv m = some s ∧ invV l = (upM s, true) ∧ Mat.MB' c s ∧ s.length = c := by
 unfold invV at h ⊢
 split at h
 rotate_left
 ·cases h
 rename_i hg
 rw [if_pos hg]
 rw [Bool.and_eq_true, decide_eq_true_eq] at hg
 obtain ⟨c, m, rfl, hm, e1, e2, h1, h2, h3, h4⟩ := goodM_up hg.1
 have hc : m.length = c := by have := hg.2; rw [e1, upM_length] at this; exact this
 rw [dnM_upM] at h ⊢
 cases hi : Mat.inv m with
 | none => rw [hi] at h; cases h
 | some s => exact ⟨c, m, s, rfl, hm, hc, h3, h4, hi, rfl, inv_MB hm hc hi⟩

theorem cau_sub {x y x' y' : List Int} (h : cauOk x y = true) (hx : x'.Sublist x) (hy : y'.Sublist y) (l1 : 1 ≤ x'.length) (l2 : 1 ≤ y'.length) : cauOk x' y' = true := by
 simp only [cauOk, Bool.and_eq_true, decide_eq_true_eq] at h ⊢
 have hs : (x' ++ y').Sublist (x ++ y) := hx.append hy
 exact ⟨⟨l1, Nat.le_trans hx.length_le h.1.2⟩, ⟨l2, Nat.le_trans hy.length_le h.2.1.2⟩, List.all_eq_true.2 (fun z hz => List.all_eq_true.1 h.2.2.1 z (hs.subset hz)), h.2.2.2.sublist hs⟩
theorem cau_rank (X Y : List Nat) (hX : Poly.AllB X) (hY : Poly.AllB Y) (hn : (X ++ Y).Nodup) (hl : X.length = Y.length) : ¬ Mat.rank Y.length (cauchyM X Y) < Y.length := by
 intro hr
 obtain ⟨v, hv, ⟨j, hj, hvj⟩, hz⟩ := Mat.rank_kernel (cauchyM_MB X Y) hr
 rw [List.nodup_append] at hn
 obtain ⟨n1, n2, n3⟩ := hn
 have hfst : ((List.range Y.length).map fun j => (Y.getD j 0, v j)).map (·.1) = Y := by
  rw [List.map_map]
  apply List.ext_getElem (by simp)
  intro i h1 h2
  simp [List.getD_eq_getElem?_getD, h2]
 refine hvj (Root.cauchy (l := (List.range Y.length).map fun j => (Y.getD j 0, v j)) (fun a ha => ?_) (by rw [hfst]; exact n2) (X := X) hX n1 (by simp [hl]) (fun x hx => by rw [hfst]; exact fun hy => n3 x hx x hy rfl) (fun x hx => ?_) (Y.getD j 0, v j) (List.mem_map.2 ⟨j, List.mem_range.2 hj, rfl⟩))
 ·obtain ⟨i, hi, rfl⟩ := List.mem_map.1 ha
  exact ⟨hY.get i, hv i⟩
 ·obtain ⟨i, hi, rfl⟩ := List.getElem_of_mem hx
  have h0 := hz i (by rw [cauchyM_length]; exact hi)
  rw [Root.ls_map, Root.ls_range]
  refine Eq.trans (Lin.xs_congr fun q hq => ?_) h0
  have e : Mat.fn (cauchyM X Y) i q = Gf.gi (X[i] ^^^ Y.getD q 0) := by
   have e1 : (cauchyM X Y).getD i [] = cauchyR X[i] Y := by
    unfold cauchyM
    rw [List.getD_eq_getElem?_getD, List.getElem?_map, List.getElem?_eq_getElem hi]; rfl
   have e2 : (cauchyR X[i] Y).getD q 0 = Gf.gi (X[i] ^^^ Y[q]) := by
    unfold cauchyR
    rw [List.getD_eq_getElem?_getD, List.getElem?_map, List.getElem?_eq_getElem hq]; rfl
   have e3 : Y.getD q 0 = Y[q] := by rw [List.getD_eq_getElem?_getD, List.getElem?_eq_getElem hq]; rfl
   show ((cauchyM X Y).getD i []).getD q 0 = _
   rw [e1, e2, e3]
  show Gf.gm (v q) (Gf.gi (X[i] ^^^ Y.getD q 0)) = Gf.gm (Mat.fn (cauchyM X Y) i q) (v q)
  rw [e, Gf.gm_comm (hv q) (Gf.gi_lt _)]
theorem cau_inv {x y : List Int} (h : cauOk x y = true) (hl : x.length = y.length) : (invV (cauV x y).1).2 = true := by
 have h2 := h
 simp only [cauOk, Bool.and_eq_true, decide_eq_true_eq] at h2
 obtain ⟨X, Y, rfl, rfl, hX, hY⟩ := cauOk_up h2.2.2.1
 have hn := h2.2.2.2
 rw [Poly.up_length] at h2
 rw [Poly.up_length] at h2
 rw [Poly.up_length, Poly.up_length] at hl
 have hn' : (X ++ Y).Nodup := by
  rw [Poly.up_append] at hn
  exact (List.pairwise_map.1 hn).imp (fun h e => h (congrArg _ e))
 have hm := cauchyM_MB X Y
 have hml := cauchyM_length X Y
 have hg := up_goodM hm (by omega) (by omega) (by omega) (by omega)
 have em : ((upM (cauchyM X Y)).getD 0 []).length = Y.length := by rw [upM_getD, Poly.up_length]; exact (hm.get (by omega)).1
 have hr := cau_rank X Y hX hY hn' hl
 unfold cauV
 rw [h, if_pos rfl, map_up, map_up]
 unfold invV
 rw [hg, em, upM_length, hml, hl, decide_eq_true rfl, dnM_upM]
 unfold Mat.inv
 rw [hml, hl, if_neg hr]; rfl
/-- An element of a matrix of Cauchy's, times the sum that it is the inverse of. -/
theorem cau_one {x y : List Int} (h : cauOk x y = true) {i k : Nat} (hi : i < x.length) (hk : k < y.length) : ∃ a b z : Nat, x.getD i 0 = (a : Int) ∧ y.getD k 0 = (b : Int) ∧ a < 256 ∧ b < 256 ∧ ((cauV x y).1.getD i []).getD k 0 = (z : Int) ∧ ((cauV x y).1.getD i []).length = y.length ∧ mulGf (z : Int) ((a ^^^ b : Nat) : Int) = (1, true) := by
 have h2 := h
 simp only [cauOk, Bool.and_eq_true, decide_eq_true_eq] at h2
 obtain ⟨X, Y, rfl, rfl, hX, hY⟩ := cauOk_up h2.2.2.1
 have hn := h2.2.2.2
 rw [Poly.up_length] at hi hk
 have hn' : (X ++ Y).Nodup := by
  rw [Poly.up_append] at hn
  exact (List.pairwise_map.1 hn).imp (fun h e => h (congrArg _ e))
 rw [List.nodup_append] at hn'
 have ha : X.getD i 0 = X[i] := by rw [List.getD_eq_getElem?_getD, List.getElem?_eq_getElem hi]; rfl
 have hb : Y.getD k 0 = Y[k] := by rw [List.getD_eq_getElem?_getD, List.getElem?_eq_getElem hk]; rfl
 have hne : X.getD i 0 ^^^ Y.getD k 0 ≠ 0 := fun e => by
  have := Gf.xor_eq_zero e
  rw [ha, hb] at this
  exact hn'.2.2 _ (List.getElem_mem hi) _ (List.getElem_mem hk) this
 have hz := Gf.xor_byte (hX.get i) (hY.get k)
 refine ⟨X.getD i 0, Y.getD k 0, Gf.gi (X.getD i 0 ^^^ Y.getD k 0), ?_, ?_, hX.get i, hY.get k, ?_, ?_, ?_⟩
 ·have := Poly.rd_up X i; unfold rd at this; rwa [Int.toNat_natCast] at this
 ·have := Poly.rd_up Y k; unfold rd at this; rwa [Int.toNat_natCast] at this
 ·unfold cauV
  rw [h, if_pos rfl, map_up, map_up, upM_getD]
  have e : (cauchyM X Y).getD i [] = cauchyR (X.getD i 0) Y := by
   unfold cauchyM
   rw [ha, List.getD_eq_getElem?_getD, List.getElem?_map, List.getElem?_eq_getElem hi]; rfl
  rw [e]
  have h3 := Poly.rd_up (cauchyR (X.getD i 0) Y) k
  unfold rd at h3
  rw [Int.toNat_natCast] at h3
  rw [h3]
  have e2 : (cauchyR (X.getD i 0) Y).getD k 0 = Gf.gi (X.getD i 0 ^^^ Y.getD k 0) := by
   unfold cauchyR
   rw [hb, List.getD_eq_getElem?_getD, List.getElem?_map, List.getElem?_eq_getElem hk]; rfl
  rw [e2]
 ·unfold cauV
  rw [h, if_pos rfl, map_up, map_up, upM_getD, Poly.up_length, Poly.up_length]
  exact ((cauchyM_MB X Y).get (by rw [cauchyM_length]; exact hi)).1
 ·generalize X.getD i 0 ^^^ Y.getD k 0 = z at hne hz
  have e1 := Gf.gm_gi hz hne
  have e2 := Gf.gm_comm hz (Gf.gi_lt z)
  unfold mulGf
  have b1 : isB ((Gf.gi z : Nat) : Int) = true := decide_eq_true (by have := Gf.gi_lt z; omega)
  have b2 : isB ((z : Nat) : Int) = true := decide_eq_true (by omega)
  simp only [b1, b2, Int.toNat_natCast, ← e2, e1]; rfl
theorem solve_law {l : List (List Int)} {v : List Int} (h : (solveV l v).2 = true) : ∃ (n : Nat) (m : List (List Nat)) (S V : List Nat), l = upM m ∧ v = Poly.up V ∧ (solveV l v).1 = Poly.up S ∧ Mat.MB' n m ∧ m.length = n ∧ n ≤ 8 ∧ S.length = n ∧ Poly.AllB S ∧ V.length = n ∧ ∀ i, i < n → Mat.dotL (m.getD i []) S = V.getD i 0 := by
 rw [solveV_inv] at h ⊢
 split at h
 rotate_left
 ·cases h
 rename_i hc
 rw [if_pos hc]
 simp only [Bool.and_eq_true, decide_eq_true_eq] at hc
 obtain ⟨c, m, s, rfl, hm, hmc, h1, h8, hi, hiv, hs, hsc⟩ := invV_true hc.1
 obtain ⟨V, rfl, hV⟩ := allB_up hc.2.2
 have hvl := hc.2.1
 rw [Poly.up_length, upM_length, hmc] at hvl
 rw [hiv, dn_up]
 show ∃ (n : Nat) (m_1 : List (List Nat)) (S V_1 : List Nat), upM m = upM m_1 ∧ Poly.up V = Poly.up V_1 ∧ Poly.up (Mat.colM (dnM (upM s)) V) = Poly.up S ∧ _
 rw [dnM_upM]
 have hSb := Mat.colM_bytes hs V
 have hSl : (Mat.colM s V).length = c := by rw [Mat.colM_length, hsc]
 refine ⟨c, m, Mat.colM s V, V, rfl, rfl, rfl, hm, hmc, h8, hSl, hSb, hvl, fun i hi2 => ?_⟩
 have key := (Mat.inv_iff hm hmc hi (fun j => (Mat.colM s V).getD j 0) (fun j => V.getD j 0) (fun j => Poly.AllB.get hSb j) (fun j => hV.get j)).2 (fun q hq => by
  show _ = (Mat.colM s V).getD q 0
  rw [Mat.colM_getD s V (by omega), Mat.dotL_dot _ _ (by rw [(hs.get (by omega)).1, hvl]), hvl]; rfl) i hi2
 rw [Mat.dotL_dot _ _ (by rw [(hm.get (by omega)).1, hSl]), hSl]
 exact key

theorem infoR : (Try.prog.info? 22).map (fun i => (i.zero, i.size, i.bytes)) = some (some (.slice none 0 0), 1, 24) := by kernel_rfl

/-- A row made since is put behind a list of rows, a cursor's block g having been turned in between. -/
theorem app_eventK {ops : Array Oper} {rest : List Oper} {o : Oper} {a : Act} {Q : Exit → Act → World → Prop} {w0 wr W : World} (base g : Nat) (ok : Nat → Prop) (hog : ∀ k, ok k → k ≠ g) (hnw : ∀ k, wr.heap.size ≤ k → ok k) (hgd : o.guard = none) (s x : Operand)
  (ho : o.op = .call { callee := .builtin .append, args := #[s, x], argTypes := #[23, 23] }) (v : Value) (m : List (List Int)) (Au : Option Addr) (cu : Nat) (row : List Int) (hs : a.eval s = v) (hx : a.eval x = .slice (some ⟨W.heap.size, 0, none⟩) 1 1)
  (hS : (Kd.slice 3 (Kd.int .i64)).S 22 wr base ok v m) (hk : KeepBut wr W g none) (hR : (Kd.int .i64).R 3 W wr.heap.size (fun _ => True) (.slice Au row.length cu) row) (HB : Below base w0 W) (hbase : base ≤ wr.heap.size) (hl : m.length ≤ 1000000)
  (h : ∀ A1 c1 w1, (Kd.slice 3 (Kd.int .i64)).S 22 w1 base ok (.slice A1 (m.length + 1) c1) (m ++ [row]) → Below base w0 w1 → W.grownBy w1 v.ownBlock → (∀ k, v.ownBlock = some k → ok k) → wpList Try.prog ops Q rest (a.put o.dst (.slice A1 (m.length + 1) c1)) w1) :
  wpList Try.prog ops Q (o :: rest) a (W.alloc (.cells #[.slice Au row.length cu] 22)) := by
 have hlt := Kd.S_lt hS
 have hnew : ∀ k, some k = (Value.slice Au row.length cu).ownBlock → wr.heap.size ≤ k := fun k hk => Kd.R_base hR k hk.symm
 have hSK := Kd.S_mono (Kd.S_keep (Kd.S_bound hS) hk (fun k h => hog k h.1)) (ok' := fun k => ok k ∧ k < wr.heap.size) (fun _ h => ⟨h.1, h.2.2.1⟩)
 refine Kd.S_append (Kd.slice 3 (Kd.int .i64)) (w0 := w0) base hgd s x 23 22 (.slice none 0 0) 24 ho Try.underlying23 infoR rfl (by decide) (by omega) v m row [.slice Au row.length cu] ok (fun k => some k = (Value.slice Au row.length cu).ownBlock) hs hx
  (Kd.M_row (Kd.R_mono (Kd.R_tight rfl (Kd.R_lower hR hbase)) (fun _ h_ => h_))) (fun k hk => ⟨hnw k (hnew k hk), fun he => by have h1 := hnew k hk; have h2 := hlt k he.symm; omega⟩) (fun k hk2 => hnw k (Nat.le_trans hk.1 hk2))
  (Kd.S_mono hSK (fun k hk => ⟨hk.1, fun he => by have h1 := hnew k he; have h2 := hk.2; omega⟩)) HB (Nat.le_trans hbase hk.1) (by omega) ?_
 intro v1 w1 h1 h2 h3 _
 obtain ⟨A1, c1, rfl⟩ := Kd.S_slice h1
 rw [show (m ++ [row]).length = m.length + 1 by simp] at h1 ⊢
 exact h A1 c1 w1 h1 h2 h3 (fun k he => by obtain ⟨f, h0, _⟩ := hS; exact h0 k he)

theorem infoJ : (Try.prog.info? 3).map (fun i => (i.zero, i.size, i.bytes)) = some (some (.int .i64 0), 1, 8) := by kernel_rfl

set_option maxHeartbeats 8000000 in
set_option maxRecDepth 100000 in
theorem drawCauchy_e (A0 : Option Addr) (c0 : Nat) (l0 : List Int) (w : World) (hs : BY l0) (hr0 : (Kd.int .u8).C w A0 l0.length l0) :
  Calls Try.prog 13 #[.slice A0 l0.length c0] w fun e w' => ∃ (A1 : Option Addr) (c1 : Nat) (x : List Int) (A2 : Option Addr) (c2 : Nat) (y : List Int), e = .returned (.tuple #[.slice A1 x.length c1, .slice A2 y.length c2]) ∧ (1 ≤ x.length ∧ x.length ≤ 4) ∧ (1 ≤ y.length ∧ y.length ≤ 4) ∧ x.length ≤ c1 ∧ (Kd.int .i64).C w' A1 x.length x ∧ y.length ≤ c2 ∧ (Kd.int .i64).C w' A2 y.length y ∧ Below w.heap.size w w' := by
 have hu := Try.underlying54
 obtain ⟨v, a1, d1, e1, h0, h1, h2, h3, h4⟩ := spec_l1Cur_pick_ex hs (a := 0) 0 4 (by omega) (by omega)
 obtain ⟨n, rfl⟩ := nat_of h0
 obtain ⟨v, a2, d2, e2, k0, k1, k2, k3, k4⟩ := spec_l1Cur_pick_ex hs d1 4 h3 (by omega)
 obtain ⟨n2, rfl⟩ := nat_of k0
 obtain ⟨N, hN⟩ : ∃ N : Nat, N = n + 1 := ⟨_, rfl⟩
 obtain ⟨M, hM⟩ : ∃ M : Nat, M = N + 1 := ⟨_, rfl⟩
 obtain ⟨L, hL⟩ : ∃ L : Nat, L = M + n2 := ⟨_, rfl⟩
 obtain ⟨r, a3, d3, e3, q0, q1, q2⟩ := spec_l1Cur_unlike_ex hs d2 L (by omega) k3 (by omega)
 obtain ⟨K, e3⟩ := e3.rounds
 obtain ⟨b, a4, d4, e4, p0, p1⟩ := spec_l1Cur_one_ex hs d3 30 q1 (by omega)
 obtain ⟨v, a5, d5, e5, _, _, _⟩ := spec_l1Cur_among_ex hs d4 ([-1, 256] : List Int) p0 (by omega) (by decide)
 have H1 := Aside0.mk e1
 have H2 := Aside0.mk e2
 have H3 := Aside0.mk e3
 have H4 := Aside0.mk e4
 have H5 := Aside0.mk e5
 have HN := Aside0.mk (show (1 ≤ N ∧ N ≤ 4) ∧ (N + 1 ≤ L ∧ L ≤ N + 4) ∧ r.length = L by omega)
 obtain ⟨hw2, hv2, hz2⟩ : wrap64 (1 + (n : Int)) = (N : Int) ∧ wrap64 ((N : Int) + 1) = (M : Int) ∧ wrap64 ((M : Int) + (n2 : Int)) = (L : Int) := by
  refine ⟨?_, ?_, ?_⟩
  ·rw [show (1 : Int) + n = (N : Int) by omega]; exact wrap_in (by omega) (by omega)
  ·rw [show (N : Int) + 1 = (M : Int) by omega]; exact wrap_in (by omega) (by omega)
  ·rw [show (M : Int) + (n2 : Int) = (L : Int) by omega]; exact wrap_in (by omega) (by omega)
 have hw1 := (i64_w _).trans hw2
 have hv1 := (i64_w _).trans hv2
 have hz1 := (i64_w _).trans hz2
 have HR0 := Aside0.mk hr0
 have HB := Aside0.mk (Below.refl w.heap.size w)
 clear e1 h0 h1 h2 h3 h4 e2 k0 k1 k2 k3 k4 e3 q0 q1 q2 e4 p0 p1 e5 hr0 hs hN hM hL
 go_enter Try.func13, Try.ntmps13
 go_wp2_with ((with_reducible refine gate_dst (N := 9) rfl ?_); refine box_event ?hg (N := 9) ?hd (cs := #[.slice A0 l0.length c0, .int .i64 0, .int .u64 0]) (t := 54) ?hr ?_; (case hd => rfl); (case hg => rfl); (case hr => first | (go_simp; done) | (go_simp; rfl)); intro g hg w3 hbox hb; have HB1 := Aside0.mk (below_step (by repeat (first | (with_reducible first | exact HB.out | apply below_alloc | apply pw_below_drewN | apply below_drew1) | exact HB.out)) hb); have HI := Aside0.mk ((⟨_, _, hbox, by rw [hg]; exact (below_size (by repeat (first | (with_reducible first | exact HB.out | apply below_alloc | apply pw_below_drewN | apply below_drew1) | exact HB.out))), HR0.out⟩ : IsS54 w w3 g l0 0 0)); clear HB; have HB := HB1; clear HB1 hb hbox hg)
 refine (spec_l1Cur_pick.calls g l0 0 0 4 (n : Int) a1 d1 w _ HI.out HB.out H1.out).mono ?_
 rintro e wa ⟨rfl, hi, hb, _⟩
 replace HI := Aside0.mk hi
 replace HB := Aside0.mk hb
 clear hi hb
 go_wp2_with fail
 refine (spec_l1Cur_pick.calls g l0 a1 d1 4 (n2 : Int) a2 d2 w _ (by first | exact HI.out | exact HI.out.drewN _) (by first | exact HB.out | exact pw_below_drewN HB.out _) H2.out).mono ?_
 rintro e wb ⟨rfl, hi, hb, _⟩
 replace HI := Aside0.mk hi
 replace HB := Aside0.mk hb
 clear hi hb
 go_wp2_with fail
 clear hw1 hw2 hv1 hv2 hz1 hz2
 have HGL := Aside0.mk HI.out.lt
 refine (spec_l1Cur_unlike.calls K g l0 a2 d2 (L : Int) r a3 d3 w _ HI.out HB.out H3.out).mono ?_
 rintro e wc ⟨v1, rfl, hr, hi, hb, _⟩
 obtain ⟨gl, cap, rfl, hgl, _, _, _⟩ := Kd.R_form hr (by have := HN.out; omega)
 have HGG := Aside0.mk (show gl ≠ g from fun he => by have := HGL.out; omega)
 have HGW := Aside0.mk (show w.heap.size ≤ gl from Nat.le_trans HB.out.size hgl)
 have HRR := Aside0.mk (Kd.R_mono (Kd.R_bound hr) (ok' := fun k => w.heap.size ≤ k ∧ k ≠ g) (fun k hk => ⟨Nat.le_trans HB.out.size hk.2.1, fun he => by have := HGL.out; have := hk.2.1; omega⟩))
 have HRR := Aside0.mk (Kd.R_lower HRR.out HB.out.size)
 have HCAP := Aside0.mk (Kd.R_reads' hr).2.1
 replace HI := Aside0.mk hi
 replace HB := Aside0.mk hb
 clear hr hi hb hgl
 go_wp2_with fail
 refine (spec_l1Cur_one.calls g l0 a3 d3 30 b a4 d4 w _ (by first | exact HI.out | exact HI.out.drewN _) (by first | exact HB.out | exact pw_below_drewN HB.out _) H4.out).mono ?_
 rintro e wd ⟨rfl, hi, hb, hk⟩
 replace HRR := Aside0.mk (Kd.R_keep HRR.out hk (fun k hk he => hk.2 he))
 replace HI := Aside0.mk hi
 replace HB := Aside0.mk hb
 clear hi hb hk
 -- the end, once for both
 have hend : ∀ (r' : List Int) (W : World), r'.length = L → (Kd.int .i64).C W (some ⟨gl, 0, none⟩) r'.length r' → ((Kd.int .i64).C W (some ⟨gl, 0, none⟩) (r'.take N).length (r'.take N)) ∧ (Kd.int .i64).C W (if cap = N then some ⟨gl, 0, none⟩ else (some (⟨gl, 0, none⟩ : Addr)).map (·.add (N * 1))) (r'.drop N).length (r'.drop N) := fun r' W hl hC => ⟨Kd.C_take hC (by have := HN.out; omega), Kd.C_drop hC (by have := HN.out; omega) (by have := HN.out; have := HCAP.out; omega)⟩
 obtain ⟨ii, hii, hsz⟩ : ∃ i, Try.prog.info? 3 = some i ∧ i.size = 1 := by
  obtain ⟨i, h, he⟩ := Option.map_eq_some_iff.1 infoJ
  exact ⟨i, h, by injection he with _ he; injection he⟩
 have hq1 : ∀ W : World, (Instr.slice 22 (.slice (some ⟨gl, 0, none⟩) r.length cap) none (some (.int .i64 (N : Int))) none).run Try.prog W = .ok (.slice (some ⟨gl, 0, none⟩) N cap) W := cut_to (P := Try.prog) 22 3 .i64 Try.underlying22 hii _ _ _ (N : Int) (by omega) (by have := HN.out; omega) HCAP.out
 have hq2 : ∀ W : World, (Instr.slice 22 (.slice (some ⟨gl, 0, none⟩) r.length cap) (some (.int .i64 (N : Int))) none none).run Try.prog W = .ok (.slice (if cap = N then some ⟨gl, 0, none⟩ else (some (⟨gl, 0, none⟩ : Addr)).map (·.add (N * 1))) (r.length - N) (cap - N)) W := cut_from (P := Try.prog) 22 3 .i64 Try.underlying22 hii 1 hsz _ _ _ (N : Int) (by omega) (by have := HN.out; omega)
 generalize (if cap = N then some (⟨gl, 0, none⟩ : Addr) else (some (⟨gl, 0, none⟩ : Addr)).map (·.add (N * 1))) = A2 at hend hq2
 have HEND := Aside0.mk hend
 clear hend
 cases b with
 | false =>
  have hC := HEND.out r wd (by have := HN.out; omega) (Kd.R_reads' HRR.out).2.2
  have HC := Aside0.mk hC
  clear hC
  go_wp2
  go_quiet (fail)
  go_wp2
  (try simp only [Exit.inBlock, Exit.then])
  refine ⟨rfl, _, results_tmp2 rfl _ _ _, ?_⟩
  have l1 : (r.take N).length = N := by rw [List.length_take]; have := HN.out; omega
  have l2 : (r.drop N).length = r.length - N := List.length_drop
  have HF := Aside0.mk (show (Kd.int .i64).C wd (some ⟨gl, 0, none⟩) (r.take N).length (r.take N) ∧ (Kd.int .i64).C wd A2 (r.drop N).length (r.drop N) from HC.out)
  exact ⟨_, cap, r.take N, _, cap - N, r.drop N, by rw [l1, l2]; rfl, by have := HN.out; omega, by have := HN.out; omega, by have := HN.out; have := HCAP.out; omega, by repeat (first | exact HF.out.1 | (with_reducible refine Kd.C_drewN ?_ _) | (with_reducible refine Kd.C_drew ?_)), by have := HN.out; have := HCAP.out; omega, by repeat (first | exact HF.out.2 | (with_reducible refine Kd.C_drewN ?_ _) | (with_reducible refine Kd.C_drew ?_)), by repeat (first | exact HB.out | apply pw_below_drewN | apply below_drew1)⟩
 | true =>
  have z0 : (0 < r.length) = True := eq_true (by have := HN.out; omega)
  have z1 : ((0 : Int) < (r.length : Int)) = True := eq_true (by have := HN.out; omega)
  go_wp2_with (first
   | ((with_reducible refine gate_dst (N := 24) rfl ?_); refine Kd.R_lit (Kd.int .i64) _ 3 ?hg (N := 24) ?hd (xs := ([-1, 256] : List Int)) (inner := [.int .i64 (-1), .int .i64 256]) (ok := fun _ => True) (okp := fun _ => True) ?hr ?hp (fun _ hk => hk) trivial (Below.refl _ _) (Nat.le_refl _) (by simp) ?_; (case hd => rfl); (case hg => rfl); (case hr => first | (go_simp; done) | (go_simp; rfl)); (case hp => exact (Reps.one (show Kd.M (Kd.int .i64) _ _ _ (-1) [.int .i64 (-1)] from rfl) (Reps.one (show Kd.M (Kd.int .i64) _ _ _ 256 [.int .i64 256] from rfl) (Reps.none _ _)))); intro v24 w24 ho24 hb24 _ _; obtain ⟨g2, c2, el, hl2, _, _, _⟩ := Kd.R_form ho24 (by decide); subst el; have HL := Aside0.mk (Kd.R_reads' ho24); have HLG := Aside0.mk (show g2 ≠ g from fun he => by have h1 := HI.out.lt; omega); have HI1 := Aside0.mk (HI.out.below hb24); have HB1 := Aside0.mk (below_step HB.out hb24); have HR1 := Aside0.mk (Kd.R_below HRR.out hb24); clear ho24 hb24 hl2)
   | (go_at_call 39; refine (spec_l1Cur_among.calls g l0 a4 d4 (some ⟨g2, 0, none⟩) c2 ([-1, 256] : List Int) v a5 d5 w _ HI1.out HB1.out HL.out.2.2 HL.out.2.1 (fun ad he _ => by injection he with he; subst he; exact HLG.out) H5.out).mono ?_; rintro e we ⟨rfl, hi, hb, hk⟩; have HB2 := Aside0.mk hb; have HR2 := Aside0.mk (Kd.R_keep HR1.out hk (fun k hk he => hk.2 he)); have hc2 := (Kd.R_celln (0 : Int) HR2.out (0 : Int) (by decide) (by have := HN.out; omega)).1; have hf2 : we.frozen? ⟨gl, 0, none⟩ = false := (Kd.R_celln (0 : Int) HR2.out (0 : Int) (by decide) (by have := HN.out; omega)).2; rw [show (0 : Int).toNat = 0 from rfl] at hc2; have HP2 := Aside0.mk (Kd.R_putg HR2.out (0 : Int) v).1; have HBS := Aside0.mk (below_set (j := 0) (v := .int .i64 v) HB2.out HGW.out); clear hi hb hk))
  have hlen : (r.set 0 v).length = r.length := List.length_set
  have hC := HEND.out (r.set 0 v) (we.setCell ⟨gl, 0, none⟩ (.int .i64 v)) (by rw [hlen]; have := HN.out; omega) (Kd.R_reads' HP2.out).2.2
  have HC := Aside0.mk (And.intro hC HBS.out)
  clear hC hc2 hf2 HP2 HBS HR2 HB2 HR1 HB1 HI1
  generalize we.setCell ⟨gl, 0, none⟩ (.int .i64 v) = wf at HC ⊢
  go_wp2
  go_quiet (fail)
  go_wp2
  (try simp only [Exit.inBlock, Exit.then])
  refine ⟨rfl, _, results_tmp2 rfl _ _ _, ?_⟩
  have l1 : ((r.set 0 v).take N).length = N := by rw [List.length_take, hlen]; have := HN.out; omega
  have l2 : ((r.set 0 v).drop N).length = r.length - N := by rw [List.length_drop, hlen]
  exact ⟨_, cap, (r.set 0 v).take N, _, cap - N, (r.set 0 v).drop N, by rw [l1, l2]; rfl, by have := HN.out; omega, by have := HN.out; omega, by have := HN.out; have := HCAP.out; omega, by repeat (first | exact HC.out.1.1 | (with_reducible refine Kd.C_drewN ?_ _) | (with_reducible refine Kd.C_drew ?_)), by have := HN.out; have := HCAP.out; omega, by repeat (first | exact HC.out.1.2 | (with_reducible refine Kd.C_drewN ?_ _) | (with_reducible refine Kd.C_drew ?_)), by repeat (first | exact HC.out.2 | apply pw_below_drewN | apply below_drew1)⟩

theorem keep_far2 {w W : World} {g : Nat} (h : KeepBut w W g none) {p : Addr} (hp : w.heap.size ≤ p.block) (u : Value) : KeepBut w (W.setCell p u) g none :=
 ⟨by rw [show (W.setCell p u).heap.size = W.heap.size by simp [World.setCell]]; exact h.1, fun i hi hne hr => (Below.heap_setCell W p u i (by omega)).trans (h.2 i hi hne hr)⟩
set_option maxHeartbeats 8000000 in
set_option maxRecDepth 100000 in
theorem l1matrix_e (g : Nat) (s : List Int) (a d : Int) (R C : Nat) (w0 w : World) (hs : BY s) (ha : 0 ≤ a) (hab : a ≤ 100000000) (hR1 : 1 ≤ R) (hR : R ≤ 20) (hC : C ≤ 20) (hI : IsS54 w0 w g s a d) (hB : Below w0.heap.size w0 w) :
  Calls Try.prog 44 #[.pointer (some ⟨g, 0, none⟩), .int .i64 R, .int .i64 C] w fun e w' => ∃ (A1 : Option Addr) (c1 : Nat) (m : List (List Int)) (vs : List Value) (a' d' : Int), e = .returned (.slice A1 R c1) ∧ m.length = R ∧ (∀ r ∈ m, r.length ≤ C) ∧
   Mx.Mx 22 3 w' w.heap.size w'.heap.size (.slice A1 R c1) m vs ∧ IsS54 w0 w' g s a' d' ∧ 0 ≤ a' ∧ a' ≤ a + 100000 ∧ Below w0.heap.size w0 w' ∧ KeepBut w w' g none := by
 have HS := Aside0.mk hs
 have HA := Aside0.mk (show 0 ≤ a ∧ a ≤ 100000000 ∧ 1 ≤ R ∧ R ≤ 20 ∧ C ≤ 20 from ⟨ha, hab, hR1, hR, hC⟩)
 have HGL := Aside0.mk hI.lt
 have HI := Aside0.mk hI
 have HB := Aside0.mk hB
 have HK := Aside0.mk (KeepBut.refl w g none)
 have HS0 := Aside0.mk (Kd.S_nil (Kd.slice 3 (Kd.int .i64)) 22 w w0.heap.size (fun k => w.heap.size ≤ k))
 clear hs ha hab hI hB hR1 hR hC
 go_enter Try.func44, Try.ntmps44
 go_wp2
 go_loopg [7, 8] R (fun gg v7 v8 wq => ∃ (k : Nat) (m : List (List Int)) (a1 d1 : Int), k ≤ R ∧ R - k ≤ gg ∧ v8 = .int .i64 k ∧ Aside0 (m.length = k ∧ (∀ r ∈ m, r.length ≤ C) ∧ 0 ≤ a1 ∧ a1 ≤ a + 100 * k) ∧ Aside0 ((Kd.slice 3 (Kd.int .i64)).S 22 wq w0.heap.size (fun k => w.heap.size ≤ k) v7 m) ∧ Aside0 (IsS54 w0 wq g s a1 d1) ∧ Aside0 (Below w0.heap.size w0 wq) ∧ Aside0 (KeepBut w wq g none))
 case atStart => exact ⟨0, [], a, d, Nat.zero_le _, by omega, rfl, ⟨rfl, fun r hr => by (cases hr), HA.out.1, by omega⟩, HS0, HI, HB, HK⟩
 case round =>
  clear HS0 HI HB HK
  obtain ⟨k, m, a1, d1, hk', hgk, rfl, HM, HSS, HI, HB, HK⟩ := hrel
  have z0 : (0 : Int) ≤ (k : Int) := by omega
  have z1 : (k : Int) ≤ 100 := by have := HA.out; omega
  obtain ⟨wo, hwo⟩ : ∃ x, x = wr := ⟨_, rfl⟩
  by_cases hlt : k < R
  ·have j1 : ((k : Int) < (R : Int)) = True := eq_true (by omega)
   have j2 : (k < R) = True := eq_true hlt
   subst hwo
   have HRN := Aside0.mk (Kd.R_nil (Kd.int .i64) 3 wo w0.heap.size (fun k => wo.heap.size ≤ k))
   have HK0 := Aside0.mk (KeepBut.refl wo g none)
   have HWO := Aside0.mk (show w0.heap.size ≤ wo.heap.size ∧ g < wo.heap.size ∧ w.heap.size ≤ wo.heap.size from ⟨HB.out.size, HI.out.lt, HK.out.1⟩)
   go_wp2
   go_loopg [9, 10] C (fun gg v9 v10 wq => ∃ (j : Nat) (r : List Int) (a2 d2 : Int), j ≤ C ∧ C - j ≤ gg ∧ v10 = .int .i64 j ∧ Aside0 (r.length = j ∧ 0 ≤ a2 ∧ a2 ≤ a1 + 4 * j) ∧ Aside0 ((Kd.int .i64).R 3 wq w0.heap.size (fun k => wo.heap.size ≤ k) v9 r) ∧ Aside0 (IsS54 w0 wq g s a2 d2) ∧ Aside0 (Below w0.heap.size w0 wq) ∧ Aside0 (KeepBut wo wq g none))
   case atStart => exact ⟨0, [], a1, d1, Nat.zero_le _, by omega, rfl, ⟨rfl, HM.out.2.2.1, by omega⟩, HRN, HI, HB, HK0⟩
   case round =>
    clear HRN HK0 HB HI
    obtain ⟨j, r, a2, d2, hj', hgj, rfl, HJ, HRR, HI, HB, HKI⟩ := hrel
    have y0 : (0 : Int) ≤ (j : Int) := by omega
    have y1 : (j : Int) ≤ 100 := by have := HA.out; omega
    by_cases hjn : j < C
    ·have j3 : ((j : Int) < (C : Int)) = True := eq_true (by omega)
     have j4 : (j < C) = True := eq_true hjn
     have hab2 : a2 ≤ 200000000 := by have := HJ.out; have := HM.out; have := HA.out; omega
     obtain ⟨v, a3, d3, e1, hv, h1, h2⟩ := spec_l1Cur_among_ex HS.out d2 ([0, 0, 1, 2, 3] : List Int) HJ.out.2.1 (by omega) (by decide)
     obtain ⟨x, a4, d4, e2, h3, h4, h5, h6, h7⟩ := spec_l1Cur_pick_ex HS.out d3 60 h1 (by omega)
     have hv3 : 0 ≤ v ∧ v ≤ 3 := by
      simp only [List.mem_cons, List.not_mem_nil, or_false] at hv
      rcases hv with rfl | rfl | rfl | rfl | rfl <;> decide
     obtain ⟨vn, rfl⟩ := nat_of hv3.1
     obtain ⟨xn, rfl⟩ := nat_of h3
     have hz : vn * xn ≤ 3 * 60 := Nat.mul_le_mul (by omega) (by omega)
     have hzi : ((vn * xn : Nat) : Int) = (vn : Int) * (xn : Int) := Int.natCast_mul _ _
     generalize vn * xn = z at hz hzi
     have e3 : Int.tmod (z : Int) 256 = ((z % 256 : Nat) : Int) := rfl
     have e4 : (z : Int) % 256 = ((z % 256 : Nat) : Int) := rfl
     generalize z % 256 = q at e3 e4
     have H1 := Aside0.mk e1
     have H2 := Aside0.mk e2
     have HJ2 := Aside0.mk (show r.length = j ∧ 0 ≤ a4 ∧ a4 ≤ a1 + 4 * (j + 1) ∧ j + 1 ≤ 20 from ⟨HJ.out.1, h6, by have := HJ.out; omega, by have := HA.out; omega⟩)
     obtain ⟨A8, c8, rfl⟩ := Kd.R_slice HRR.out
     have hw2 : wrap64 ((vn : Int) * (xn : Int)) = (z : Int) := by rw [← hzi]; exact wrap_in (by omega) (by omega)
     have hw1 : IntKind.i64.wrap ((vn : Int) * (xn : Int)) = (z : Int) := (i64_w _).trans hw2
     clear e1 hv h1 h2 e2 h3 h4 h5 h6 h7 hv3 hz hzi hab2 HJ
     go_wp2_with (first | ((with_reducible refine gate_dst (N := 23) rfl ?_); refine Kd.R_lit (Kd.int .i64) _ 3 ?hg (N := 23) ?hd (xs := ([0, 0, 1, 2, 3] : List Int)) (inner := [.int .i64 0, .int .i64 0, .int .i64 1, .int .i64 2, .int .i64 3]) (ok := fun _ => True) (okp := fun _ => True) ?hr ?hp (fun _ hk => hk) trivial (Below.refl _ _) (Nat.le_refl _) (by simp) ?_; (case hd => rfl); (case hg => rfl); (case hr => first | (go_simp; done) | (go_simp; rfl)); (case hp => exact (Reps.one (show Kd.M (Kd.int .i64) _ _ _ 0 [.int .i64 0] from rfl) (Reps.one (show Kd.M (Kd.int .i64) _ _ _ 0 [.int .i64 0] from rfl) (Reps.one (show Kd.M (Kd.int .i64) _ _ _ 1 [.int .i64 1] from rfl) (Reps.one (show Kd.M (Kd.int .i64) _ _ _ 2 [.int .i64 2] from rfl) (Reps.one (show Kd.M (Kd.int .i64) _ _ _ 3 [.int .i64 3] from rfl) (Reps.none _ _))))))); intro v20 w20 ho20 hb20 _ _; obtain ⟨gl, cl, el, hl0, _, _, _⟩ := Kd.R_form ho20 (by decide); subst el; have HL := Aside0.mk (Kd.R_reads' ho20); have HLG := Aside0.mk (show gl ≠ g from fun he => by have h1 := HI.out.lt; omega); have HI1 := Aside0.mk (HI.out.below hb20); have HB1 := Aside0.mk (below_step HB.out hb20); have HK1 := Aside0.mk (KeepBut.trans HKI.out (KeepBut.of_below hb20 g none) (.inl rfl)); have HR1 := Aside0.mk (Kd.R_below HRR.out hb20); clear ho20 hb20 hl0) | (go_at_call 39; refine (spec_l1Cur_among.calls g s a2 d2 (some ⟨gl, 0, none⟩) cl ([0, 0, 1, 2, 3] : List Int) (vn : Int) a3 d3 w0 _ HI1.out HB1.out HL.out.2.2 HL.out.2.1 (fun ad he _ => by injection he with he; subst he; exact HLG.out) H1.out).mono ?_; rintro e wa ⟨rfl, hi, hb, hk⟩; have HI2 := Aside0.mk hi; have HB2 := Aside0.mk hb; have HK2 := Aside0.mk (KeepBut.trans HK1.out hk (.inl rfl)); have HR2 := Aside0.mk (Kd.R_keep HR1.out hk (fun k hk he => by have := HWO.out.2.1; omega)); clear hi hb hk) | (go_at_call 36; refine (spec_l1Cur_pick.calls g s a3 d3 60 (xn : Int) a4 d4 w0 _ HI2.out HB2.out H2.out).mono ?_; rintro e wb ⟨rfl, hi, hb, hk⟩; have HI3 := Aside0.mk hi; have HB3 := Aside0.mk hb; have HK3 := Aside0.mk (KeepBut.trans HK2.out hk (.inl rfl)); have HR3 := Aside0.mk (Kd.R_keep HR2.out hk (fun k hk he => by have := HWO.out.2.1; omega)); clear hi hb hk) | ((with_reducible refine gate_builtin (b := .append) (xs := #[.tmp 21, .tmp 29]) rfl ?_); at_builtin; refine Kd.R_append (Kd.int .i64) (w0 := w0) w0.heap.size rfl (.tmp 21) (.tmp 29) 22 3 (.int .i64 0) 8 rfl Try.underlying22 infoJ rfl (by decide) (by decide) (.slice A8 r.length c8) r (q : Int) [.int .i64 (q : Int)] (fun k => wo.heap.size ≤ k) (fun _ => False) rfl rfl ?aP (fun _ hk => hk.elim) ?aF ?aO ?aB ?aS ?aL ?_; (case aP => exact rfl); (case aB => exact HB3.out); (case aF => exact (fun k hk => Nat.le_trans HK3.out.1 hk)); (case aO => exact HR3.out); (case aS => exact HB3.out.size); (case aL => clear hw1 hw2; have := HJ2.out; omega); intro v159 w12 ho hb hg hat; have HO9 := Aside0.mk ho; have HB9 := Aside0.mk hb; have HI9 := Aside0.mk (HI3.out.grown hg (fun he => by have h1 := HR3.out.1 g he.symm; have h2 := HWO.out.2.1; omega)); have HK9 := Aside0.mk (KeepBut.trans HK3.out (KeepBut.of_grown hg g) (by cases hob : (Value.slice A8 r.length c8).ownBlock with | none => exact .inl rfl | some b => exact .inr ⟨b, rfl, HR3.out.1 b hob⟩)); clear ho hb hg hat))
     clear hw1 hw2
     go_roundg (C - (j + 1))
     case measure => omega
     case rel => exact ⟨j + 1, r ++ [(q : Int)], a4, d4, by omega, by omega, by go_num, ⟨by rw [List.length_append, HJ2.out.1]; rfl, HJ2.out.2.1, by have := HJ2.out; omega⟩, HO9, HI9, HB9, HK9⟩
    ·have j3 : ((j : Int) < (C : Int)) = False := eq_false (by omega)
     have j4 : (j < C) = False := eq_false hjn
     obtain ⟨A9, c9, rfl⟩ := Kd.R_slice HRR.out
     have HR9 := Aside0.mk (show (Kd.int .i64).R 3 wr wo.heap.size (fun _ => True) (.slice A9 r.length c9) r from Kd.R_mono (Mx.row_base' HRR.out (lo := wo.heap.size) (hi := wr.heap.size) (fun k hk => ⟨HRR.out.1 k hk, Kd.R_lt HRR.out k hk⟩)) (fun _ _ => trivial))
     have HML := Aside0.mk (show m.length ≤ 1000000 from by have := HM.out; have := HA.out; omega)
     go_wp2_with ((with_reducible refine gate_builtin (b := .append) (xs := #[.tmp 31, .tmp 33]) rfl ?_); at_builtin; refine app_eventK (w0 := w0) w0.heap.size g (fun k => w.heap.size ≤ k) (fun k hk he => by have := HGL.out; omega) (fun k hk => Nat.le_trans HWO.out.2.2 hk) rfl (.tmp 31) (.tmp 33) rfl _ m A9 c9 r rfl rfl HSS.out HKI.out HR9.out ?aB ?aS HML.out ?_; (case aB => exact HB.out); (case aS => exact HWO.out.1); intro A10 c10 w2 hS2 hB2 hG2 hO2; have HS2 := Aside0.mk hS2; have HB2 := Aside0.mk hB2; have HI2 := Aside0.mk (HI.out.grown hG2 (fun he => by have h1 := hO2 g he.symm; have h2 := HGL.out; omega)); have HK2 := Aside0.mk (KeepBut.trans (KeepBut.trans HK.out HKI.out (.inl rfl)) (KeepBut.of_grown hG2 g) (by cases hob : (Value.ownBlock _) with | none => exact .inl rfl | some b => exact .inr ⟨b, rfl, hO2 b hob⟩)); clear hS2 hB2 hG2 hO2)
     go_roundg (R - (k + 1))
     case measure => omega
     case rel => exact ⟨k + 1, m ++ [r], a2, d2, by omega, by omega, by go_num, ⟨by rw [List.length_append, HM.out.1]; rfl, fun x hx => by
      rcases List.mem_append.1 hx with hx | hx
      ·exact HM.out.2.1 x hx
      ·rw [List.mem_singleton] at hx
       subst hx
       have := HJ.out; omega, HJ.out.2.1, by have := HJ.out; have := HM.out; have := HA.out; omega⟩, HS2, HI2, HB2, HK2⟩
  ·have j1 : ((k : Int) < (R : Int)) = False := eq_false (by omega)
   have j2 : (k < R) = False := eq_false hlt
   clear hwo
   have hkR : k = R := by omega
   subst hkR
   have hml := HM.out.1
   obtain ⟨A5, c5, rfl⟩ := Kd.S_slice HSS.out
   obtain ⟨vs, hMx⟩ := Mx.of_S2 (lo := w.heap.size) (hi := wr.heap.size) (Kd.S_mono (Kd.S_bound HSS.out) (ok' := fun k => w.heap.size ≤ k ∧ k < wr.heap.size) (fun k hk => ⟨hk.1, hk.2.2.1⟩)) (fun k hk => hk)
   have hm0 : 0 < m.length := by have := HA.out; omega
   obtain ⟨gm, cap, hv, _, _, _, _, _⟩ := hMx.cells hm0
   injection hv with hv1 _ hv3
   subst hv1 hv3
   rw [hml] at hMx ⊢
   have HMX := Aside0.mk hMx
   have HMM := Aside0.mk (show m.length = k ∧ (∀ r ∈ m, r.length ≤ C) ∧ 0 ≤ a1 ∧ a1 ≤ a + 3000 from ⟨hml, HM.out.2.1, HM.out.2.2.1, by have := HM.out; have := HA.out; omega⟩)
   clear hMx hm0 HSS HM hml
   go_upto_region 11 with (fail)
   go_cut [40] (fun v40 wc => ∃ (b : Bool) (a2 d2 : Int), v40 = .bool b ∧ Aside0 (b = true → 1 < k) ∧ Aside0 (0 ≤ a2 ∧ a2 ≤ a + 4000) ∧ Aside0 (Mx.Mx 22 3 wc w.heap.size wc.heap.size (.slice (some ⟨gm, 0, none⟩) k c5) m vs) ∧ Aside0 (IsS54 w0 wc g s a2 d2) ∧ Aside0 (Below w0.heap.size w0 wc) ∧ Aside0 (KeepBut w wc g none))
   case first =>
    by_cases h1k : 1 < k
    ·have p1 : ((1 : Int) < (k : Int)) = True := eq_true (by omega)
     have p2 : (1 < k) = True := eq_true h1k
     obtain ⟨b, a5, d5, e5, q1, q2⟩ := spec_l1Cur_one_ex HS.out d1 6 HMM.out.2.2.1 (by have := HMM.out; have := HA.out; omega)
     have H5 := Aside0.mk e5
     have HQ := Aside0.mk (show 0 ≤ a5 ∧ a5 ≤ a + 4000 from ⟨q1, by have := HMM.out; omega⟩)
     clear e5 q1 q2
     go_wp2_with (go_at_call 38; refine (spec_l1Cur_one.calls g s a1 d1 6 b a5 d5 w0 _ HI.out HB.out H5.out).mono ?_; rintro e wa ⟨rfl, hi, hb, hk⟩; have HI2 := Aside0.mk hi; have HB2 := Aside0.mk hb; have HK2 := Aside0.mk (KeepBut.trans HK.out hk (.inl rfl)); have HM2 := Aside0.mk ((HMX.out.moved (fun k h1 h2 h3 => hk.2 k h3 (fun he => by have := HGL.out; omega) (by simp))).widen (Nat.le_refl _) hk.1); clear hi hb hk)
     go_meet
     case rel => exact ⟨b, a5, d5, rfl, ⟨fun _ => h1k⟩, HQ, HM2, HI2, HB2, HK2⟩
    ·have p1 : ((1 : Int) < (k : Int)) = False := eq_false (by omega)
     have p2 : (1 < k) = False := eq_false h1k
     go_wp2
     go_meet
     case rel => exact ⟨false, a1, d1, rfl, ⟨fun h => by cases h⟩, ⟨HMM.out.2.2.1, by have := HMM.out; omega⟩, HMX, HI, HB, HK⟩
   case rest =>
    clear HMX HI HB HK
    obtain ⟨b, a2, d2, rfl, Hb, HQ, HMX, HI, HB, HK⟩ := hcut
    have HML := Aside0.mk (show m.length = k ∧ (∀ r ∈ m, r.length ≤ C) from ⟨HMM.out.1, HMM.out.2.1⟩)
    clear HMM
    go_upto_if 40 with (fail)
    go_cut [] (fun wc => ∃ (m2 : List (List Int)) (vs2 : List Value), Aside0 (m2.length = k ∧ (∀ r ∈ m2, r.length ≤ C)) ∧ Aside0 (Mx.Mx 22 3 wc w.heap.size wc.heap.size (.slice (some ⟨gm, 0, none⟩) k c5) m2 vs2) ∧ Aside0 (IsS54 w0 wc g s a2 d2) ∧ Aside0 (Below w0.heap.size w0 wc) ∧ Aside0 (KeepBut w wc g none))
    case first =>
     cases b with
     | false =>
      go_wp2
      go_meet
      exact ⟨m, vs, HML, HMX, HI, HB, HK⟩
     | true =>
      have h1k := Hb.out rfl
      have h1m : 1 < m.length := by have := HML.out.1; omega
      obtain ⟨u1, hu1⟩ := HMX.out.at_ h1m
      obtain ⟨u0, hu0⟩ := HMX.out.at_ (show 0 < m.length by omega)
      have hR1 := HMX.out.row 1 m[1] u1 (List.getElem?_eq_getElem h1m) hu1
      obtain ⟨Au, cu, rfl⟩ := Kd.R_slice hR1
      have hq1 := Kd.R_reads' hR1
      have hc1 := (HMX.out.cellg hu1).1
      have hgm := (HMX.out.cellg hu0).2.2
      have hrl : m[1].length ≤ C := HML.out.2 _ (List.getElem_mem h1m)
      generalize m[1] = row at hR1 hq1 hc1 hrl
      have HU0 := Aside0.mk hu0
      have HQ1 := Aside0.mk hq1
      have HGM := Aside0.mk hgm
      have HRL := Aside0.mk hrl
      have p1 : ((1 : Int) < (k : Int)) = True := eq_true (by omega)
      have p2 : (1 < k) = True := eq_true h1k
      have p3 : ((0 : Int) < (k : Int)) = True := eq_true (by omega)
      have p4 : (0 < k) = True := eq_true (by omega)
      obtain ⟨wo, hwo⟩ : ∃ x, x = wc := ⟨_, rfl⟩
      subst hwo
      have HBO := Aside0.mk (Below.refl wo.heap.size wo)
      clear hR1 hq1 hgm hrl hu0 hu1 h1m h1k
      go_wp2_with (first | ((with_reducible refine gate_dst (N := 42) rfl ?_); refine Kd.R_lit (Kd.int .i64) _ 3 ?hg (N := 42) ?hd (xs := ([] : List Int)) (inner := []) (ok := fun _ => True) (okp := fun _ => True) ?hr ?hp (fun _ hk => hk) trivial (Below.refl _ _) (Nat.le_refl _) (by simp) ?_; (case hd => rfl); (case hg => rfl); (case hr => first | (go_simp; done) | (go_simp; rfl)); (case hp => exact (Reps.none _ _)); intro v20 w20 ho20 hb20 _ _; have HBL0 := Aside0.mk hb20; have HSL0 := Aside0.mk ho20; have hc2 := pw_cell_below hb20 hc1; clear ho20 hb20) | ((with_reducible refine gate_builtin (b := .append) (xs := #[.tmp 42, .tmp 45]) rfl ?_); at_builtin; refine Kd.R_append_rows (Kd.int .i64) (w0 := wo) wo.heap.size rfl (.tmp 42) (.tmp 45) 22 3 (.int .i64 0) 8 rfl Try.underlying22 infoJ rfl (by decide) (by decide) v20 ([] : List Int) row _ _ _ (fun _ => True) (fun _ => False) rfl rfl ?aO ?aR (fun _ _ h => h) (fun _ h => h.elim) ?aF ?aB ?aS ?aL ?_; (case aR => exact Kd.C_below HQ1.out.2.2 HBL0.out); (case aB => exact HBL0.out); (case aF => exact (fun _ _ => trivial)); (case aO => exact HSL0.out); (case aS => exact HBL0.out.size); (case aL => have h1 := HRL.out; have h2 := HA.out; show (0 + row.length) * 8 ≤ 140737488355328; omega); intro v21 w21 ho21 hb21 hg21 hat21; rw [List.nil_append] at ho21; obtain ⟨An, cn, en⟩ := Kd.R_slice ho21; subst en; have HRW := Aside0.mk ho21; have HBW := Aside0.mk hb21; have HM2 := Aside0.mk ((HMX.out.below hb21).widen (Nat.le_refl _) hb21.size); have hk0 := (HM2.out.cellg HU0.out).1; have hf0 := (HM2.out.cellg HU0.out).2.1; clear ho21 hb21 hg21 hat21))
      go_meet
      have hk9 : k = m.length := HML.out.1.symm
      have hpl := Mx.Mx.place (g := gm) (cap := c5) (i := 0) (x' := row) (u' := .slice An row.length cn) (by have h9 := HM2.out; rw [hk9] at h9; exact h9) (by decide) (by have := HML.out; have := HA.out; omega) (Mx.row_made HRW.out HK.out.1) (fun j u hu => Mx.Mx.new HMX.out HRW.out j u hu)
      have hsz : (w21.setCell ⟨gm, 0, none⟩ (.slice An row.length cn)).heap.size = w21.heap.size := by simp [World.setCell]
      exact ⟨m.set 0 row, _, ⟨by rw [List.length_set]; exact HML.out.1, fun r hr => by
       rcases List.mem_or_eq_of_mem_set hr with hr | rfl
       ·exact HML.out.2 r hr
       ·exact HRL.out⟩, ⟨by rw [hsz, hk9]; exact hpl.1⟩, ⟨IsS54.far (HI.out.below HBW.out) (fun he : g = gm => by have h1 := HGM.out.1; have h2 := HGL.out; omega) _⟩, ⟨below_set (below_step HB.out HBW.out) (by have h1 := HGM.out.1; have h2 := HB.out.size; have h3 := HI.out.ge; have h4 := HGL.out; omega)⟩, ⟨keep_far2 (KeepBut.trans HK.out (KeepBut.of_below HBW.out g none) (.inl rfl)) HGM.out.1 _⟩⟩
    case rest =>
     clear HML HMX HI HB HK Hb
     obtain ⟨m2, vs2, HML, HMX, HI, HB, HK⟩ := hcut
     have p1 : ((0 : Int) < (k : Int)) = True := eq_true (by have := HA.out; omega)
     have p2 : (0 < k) = True := eq_true (by have := HA.out; omega)
     obtain ⟨b2, a5, d5, e5, q1, q2⟩ := spec_l1Cur_one_ex HS.out d2 30 HQ.out.1 (by have := HQ.out; have := HA.out; omega)
     have H5 := Aside0.mk e5
     have HQ5 := Aside0.mk (show 0 ≤ a5 ∧ a5 ≤ a + 100000 from ⟨q1, by have := HQ.out; omega⟩)
     clear e5 q1 q2 HQ
     cases b2 with
     | false =>
      go_wp2_with (go_at_call 38; refine (spec_l1Cur_one.calls g s a2 d2 30 false a5 d5 w0 _ HI.out HB.out H5.out).mono ?_; rintro e wa ⟨rfl, hi, hb, hk⟩; have HI2 := Aside0.mk hi; have HB2 := Aside0.mk hb; have HK2 := Aside0.mk (KeepBut.trans HK.out hk (.inl rfl)); have HM2 := Aside0.mk ((HMX.out.moved (fun k h1 h2 h3 => hk.2 k h3 (fun he => by have := HGL.out; omega) (by simp))).widen (Nat.le_refl _) hk.1); clear hi hb hk)
      (try simp only [Exit.inBlock, Exit.then])
      refine ⟨rfl, _, results_tmp rfl _ _ _, ?_⟩
      exact ⟨_, _, m2, vs2, a5, d5, rfl, HML.out.1, HML.out.2, HM2.out, HI2.out, HQ5.out.1, HQ5.out.2, HB2.out, HK2.out⟩
     | true =>
      go_upto_region 14 with (go_at_call 38; refine (spec_l1Cur_one.calls g s a2 d2 30 true a5 d5 w0 _ HI.out HB.out H5.out).mono ?_; rintro e wa ⟨rfl, hi, hb, hk⟩; have HI2 := Aside0.mk hi; have HB2 := Aside0.mk hb; have HK2 := Aside0.mk (KeepBut.trans HK.out hk (.inl rfl)); have HM2 := Aside0.mk ((HMX.out.moved (fun k h1 h2 h3 => hk.2 k h3 (fun he => by have := HGL.out; omega) (by simp))).widen (Nat.le_refl _) hk.1); clear hi hb hk)
      have h0m : 0 < m2.length := by have := HML.out; have := HA.out; omega
      obtain ⟨u0, hu0⟩ := HM2.out.at_ h0m
      have hR0 := HM2.out.row 0 m2[0] u0 (List.getElem?_eq_getElem h0m) hu0
      obtain ⟨Au, cu, rfl⟩ := Kd.R_slice hR0
      have hq0 := Kd.R_reads' hR0
      have hc0 := (HM2.out.cellg hu0).1
      have hf0 := (HM2.out.cellg hu0).2.1
      have hgm := (HM2.out.cellg hu0).2.2
      have hrl : m2[0].length ≤ C := HML.out.2 _ (List.getElem_mem h0m)
      have hrc : m2[0].length ≤ cu := hq0.2.1
      have hne := fun (j : Nat) (u : Value) (hj : 0 ≠ j) (hu : vs2[j]? = some u) => HM2.out.ne 0 j _ u hj hu0 hu
      generalize m2[0] = row at hR0 hq0 hc0 hrl hrc hne
      have hh : row.length / 2 ≤ row.length := Nat.div_le_self _ _
      have e1 : Int.tdiv (row.length : Int) 2 = ((row.length / 2 : Nat) : Int) := rfl
      have e2 : (row.length : Int) / 2 = ((row.length / 2 : Nat) : Int) := rfl
      have hRT := Kd.R_take (m := row.length / 2) hR0 hh
      have hrt : (row.take (row.length / 2)).length ≤ C := by rw [List.length_take]; omega
      generalize hL : row.length / 2 = h at e1 e2 hRT hrt hh
      have HRT := Aside0.mk hRT
      have HGM := Aside0.mk hgm
      have HRL := Aside0.mk hrt
      have HNE := Aside0.mk hne
      have l0 : (0 : Int) ≤ (row.length : Int) := by omega
      have l1 : (row.length : Int) ≤ 20 := by have := HA.out; omega
      have t1 : (h ≤ row.length) = True := eq_true hh
      have t2 : ((h : Int) ≤ (row.length : Int)) = True := eq_true (by omega)
      have t3 : (h ≤ cu) = True := eq_true (by omega)
      have t4 : ((h : Int) ≤ (cu : Int)) = True := eq_true (by omega)
      clear hR0 hq0 hgm hrl hu0 h0m hRT hrt hne hL hh hrc
      go_region
      have hpl := Mx.Mx.place' (g := gm) (cap := c5) (i := 0) (x' := row.take h) (u' := .slice Au h cu) (by have h9 := HM2.out; rw [← HML.out.1] at h9; exact h9) (by decide) (by have := HML.out; have := HA.out; omega) HRT.out (fun j u hj hu => by have h9 := HNE.out j u hj hu; cases Au <;> exact h9)
      have hsz : ((wa.setCell ⟨gm, 0, none⟩ (.slice Au h cu)).drew).heap.size = wa.heap.size := by simp [World.setCell, World.drew]
      have hMF : Mx.Mx 22 3 ((wa.setCell ⟨gm, 0, none⟩ (.slice Au h cu)).drew) w.heap.size ((wa.setCell ⟨gm, 0, none⟩ (.slice Au h cu)).drew).heap.size (.slice (some ⟨gm, 0, none⟩) k c5) (m2.set 0 (row.take h)) (vs2.set 0 (.slice Au h cu)) := by
       rw [hsz, ← HML.out.1]
       exact hpl.1.below (below_drew (Below.refl _ _))
      have hIF : IsS54 w0 ((wa.setCell ⟨gm, 0, none⟩ (.slice Au h cu)).drew) g s a5 d5 := (IsS54.far HI2.out (fun he : g = gm => by have h1 := HGM.out.1; have h2 := HGL.out; omega) _).drew
      have hBF : Below w0.heap.size w0 ((wa.setCell ⟨gm, 0, none⟩ (.slice Au h cu)).drew) := below_drew (below_set HB2.out (by have h1 := HGM.out.1; have h3 := HI2.out.ge; have h4 := HGL.out; omega))
      have hKF : KeepBut w ((wa.setCell ⟨gm, 0, none⟩ (.slice Au h cu)).drew) g none := keep_far2 HK2.out HGM.out.1 _
      have HFF := Aside0.mk (And.intro hMF (And.intro hIF (And.intro hBF hKF)))
      clear hpl hsz hMF hIF hBF hKF
      go_wp2
      (try simp only [Exit.inBlock, Exit.then])
      refine ⟨rfl, _, results_tmp rfl _ _ _, ?_⟩
      exact ⟨_, _, m2.set 0 (row.take h), _, a5, d5, rfl, by rw [List.length_set]; exact HML.out.1, fun r hr => by
       rcases List.mem_or_eq_of_mem_set hr with hr | rfl
       ·exact HML.out.2 r hr
       ·exact HRL.out, HFF.out.1, HFF.out.2.1, HQ5.out.1, HQ5.out.2, HFF.out.2.2.1, HFF.out.2.2.2⟩

set_option maxHeartbeats 8000000 in
set_option maxRecDepth 100000 in
theorem drawSolve_e (A0 : Option Addr) (c0 : Nat) (l0 : List Int) (w : World) (hs : BY l0) (hr0 : (Kd.int .u8).C w A0 l0.length l0) :
  Calls Try.prog 18 #[.slice A0 l0.length c0] w fun e w' => ∃ (A1 : Option Addr) (c1 : Nat) (m : List (List Int)) (A2 : Option Addr) (c2 : Nat) (v : List Int), e = .returned (.tuple #[.slice A1 m.length c1, .slice A2 v.length c2]) ∧ 1 ≤ m.length ∧ m.length ≤ 20 ∧ (∀ r ∈ m, r.length ≤ 20) ∧ v.length ≤ 20 ∧ m.length ≤ c1 ∧ Kd.C (Kd.slice 3 (Kd.int .i64)) w' A1 m.length m ∧ v.length ≤ c2 ∧ (Kd.int .i64).C w' A2 v.length v ∧ Below w.heap.size w w' := by
 have hu := Try.underlying54
 obtain ⟨v, a1, d1, e1, h0, h1, h2, h3, h4⟩ := spec_l1Cur_pick_ex hs (a := 0) 0 4 (by omega) (by omega)
 obtain ⟨n, rfl⟩ := nat_of h0
 have H1 := Aside0.mk e1
 have HS := Aside0.mk hs
 obtain ⟨N, hN⟩ : ∃ N : Nat, N = n + 1 := ⟨_, rfl⟩
 have HN := Aside0.mk (show (1 ≤ N ∧ N ≤ 4) ∧ 0 ≤ a1 ∧ a1 ≤ 2 by omega)
 have hw2 : wrap64 (1 + (n : Int)) = (N : Int) := by rw [show (1 : Int) + n = (N : Int) by omega]; exact wrap_in (by omega) (by omega)
 have hw1 := (i64_w _).trans hw2
 have HR0 := Aside0.mk hr0
 have HB := Aside0.mk (Below.refl w.heap.size w)
 clear e1 h0 h1 h2 h3 h4 hr0 hs hN
 go_enter Try.func18, Try.ntmps18
 go_wp2_with ((with_reducible refine gate_dst (N := 10) rfl ?_); refine box_event ?hg (N := 10) ?hd (cs := #[.slice A0 l0.length c0, .int .i64 0, .int .u64 0]) (t := 54) ?hr ?_; (case hd => rfl); (case hg => rfl); (case hr => first | (go_simp; done) | (go_simp; rfl)); intro g hg w3 hbox hb; have HB1 := Aside0.mk (below_step (by repeat (first | (with_reducible first | exact HB.out | apply below_alloc | apply pw_below_drewN | apply below_drew1) | exact HB.out)) hb); have HI := Aside0.mk ((⟨_, _, hbox, by rw [hg]; exact (below_size (by repeat (first | (with_reducible first | exact HB.out | apply below_alloc | apply pw_below_drewN | apply below_drew1) | exact HB.out))), HR0.out⟩ : IsS54 w w3 g l0 0 0)); clear HB; have HB := HB1; clear HB1 hb hbox hg)
 refine (spec_l1Cur_pick.calls g l0 0 0 4 (n : Int) a1 d1 w _ HI.out HB.out H1.out).mono ?_
 rintro e wa ⟨rfl, hi, hb, _⟩
 replace HI := Aside0.mk hi
 replace HB := Aside0.mk hb
 clear hi hb
 go_wp2_with fail
 clear hw1 hw2
 refine (l1matrix_e g l0 a1 d1 N N w _ HS.out (by have := HN.out; omega) (by have := HN.out; omega) (by have := HN.out; omega) (by have := HN.out; omega) (by have := HN.out; omega) HI.out HB.out).mono ?_
 rintro e wo ⟨A1, c1, m, vs, a2, d2, rfl, hml, hmr, hM, hi, ha3, ha4, hb, _⟩
 subst hml
 have HG := Aside0.mk HI.out.lt
 have HMX := Aside0.mk hM
 have HM := Aside0.mk hmr
 have HA := Aside0.mk (And.intro ha3 (show a2 ≤ 200000 by have := HN.out; omega))
 have HWO := Aside0.mk hi.lt
 replace HI := Aside0.mk hi
 replace HB := Aside0.mk hb
 have HRN := Aside0.mk (Kd.R_nil (Kd.int .i64) 3 wo w.heap.size (fun k => wo.heap.size ≤ k))
 have HK := Aside0.mk (KeepBut.refl wo g none)
 clear hmr hM hi ha3 ha4 hb
 go_wp2_with fail
 go_loopg [5, 7] m.length (fun gg v5 v7 wq => ∃ (k j : Nat) (r : List Int) (a4 d4 : Int), j + k = m.length ∧ k ≤ gg ∧ v5 = .int .i64 k ∧ Aside0 (r.length = j ∧ 0 ≤ a4 ∧ a4 ≤ a2 + 4 * j) ∧ Aside0 ((Kd.int .i64).R 3 wq w.heap.size (fun k => wo.heap.size ≤ k) v7 r) ∧ Aside0 (IsS54 w wq g l0 a4 d4) ∧ Aside0 (Below w.heap.size w wq) ∧ Aside0 (KeepBut wo wq g none))
 case atStart => exact ⟨m.length, 0, [], a2, d2, Nat.zero_add _, Nat.le_refl _, rfl, ⟨rfl, HA.out.1, by omega⟩, HRN, HI, HB, HK⟩
 case round =>
  clear HRN HI HB HK
  obtain ⟨k, j, r, a4, d4, hjk, hgk, rfl, HJ, HRR, HI, HB, HK⟩ := hrel
  by_cases hk0 : 0 < k
  ·have p1 : ((0 : Int) < (k : Int)) = True := eq_true (by omega)
   have p2 : (0 < k) = True := eq_true hk0
   obtain ⟨v, a5, d5, e5, k0, k1, k2, k3, k4⟩ := spec_l1Cur_pick_ex HS.out d4 256 HJ.out.2.1 (by have := HJ.out; have := HA.out; have := HN.out; omega)
   obtain ⟨q, rfl⟩ := nat_of k0
   have H5 := Aside0.mk e5
   have HJ2 := Aside0.mk (show r.length = j ∧ 0 ≤ a5 ∧ a5 ≤ a2 + 4 * (j + 1) ∧ j + 1 ≤ 4 from ⟨HJ.out.1, k3, by have := HJ.out; omega, by have := HN.out; omega⟩)
   obtain ⟨A8, c8, rfl⟩ := Kd.R_slice HRR.out
   obtain ⟨k', rfl⟩ : ∃ k', k = k' + 1 := ⟨k - 1, by omega⟩
   have hw2 : wrap64 (((k' + 1 : Nat) : Int) - 1) = (k' : Int) := by rw [wrap_id (by omega) (by have := HN.out; omega)]; omega
   have HKW := Aside0.mk hw2
   clear e5 k0 k1 k2 k3 k4 hw2
   obtain ⟨kk, hkk⟩ : ∃ kk, kk = k' + 1 := ⟨_, rfl⟩
   rw [← hkk] at p1 p2 HKW ⊢
   have HKK := Aside0.mk hkk
   clear hkk
   have hw2 := HKW.out
   have hw1 := (i64_w _).trans hw2
   go_wp2_with (first | (go_at_call 36; refine (spec_l1Cur_pick.calls g l0 a4 d4 256 (q : Int) a5 d5 w _ HI.out HB.out H5.out).mono ?_; rintro e wb ⟨rfl, hi, hb, hk⟩; have HI3 := Aside0.mk hi; have HB3 := Aside0.mk hb; have HK3 := Aside0.mk (KeepBut.trans HK.out hk (.inl rfl)); have HR3 := Aside0.mk (Kd.R_keep HRR.out hk (fun k hk he => by have := HWO.out; omega)); clear hi hb hk) | ((with_reducible refine gate_builtin (b := .append) (xs := #[.tmp 22, .tmp 25]) rfl ?_); at_builtin; refine Kd.R_append (Kd.int .i64) (w0 := w) w.heap.size rfl (.tmp 22) (.tmp 25) 22 3 (.int .i64 0) 8 rfl Try.underlying22 infoJ rfl (by decide) (by decide) (.slice A8 r.length c8) r (q : Int) [.int .i64 (q : Int)] (fun k => wo.heap.size ≤ k) (fun _ => False) rfl rfl ?aP (fun _ hk => hk.elim) ?aF ?aO ?aB ?aS ?aL ?_; (case aP => exact rfl); (case aB => exact HB3.out); (case aF => exact (fun k hk => Nat.le_trans HK3.out.1 hk)); (case aO => exact HR3.out); (case aS => exact HB3.out.size); (case aL => have := HJ2.out; omega); intro v159 w12 ho hb hg hat; have HO9 := Aside0.mk ho; have HB9 := Aside0.mk hb; have HI9 := Aside0.mk (HI3.out.grown hg (fun he => by have h1 := HR3.out.1 g he.symm; have h2 := HWO.out; omega)); have HK9 := Aside0.mk (KeepBut.trans HK3.out (KeepBut.of_grown hg g) (by cases hob : (Value.slice A8 r.length c8).ownBlock with | none => exact .inl rfl | some b => exact .inr ⟨b, rfl, HR3.out.1 b hob⟩)); clear ho hb hg hat))
   clear hw1 hw2 HKW p1 p2
   go_roundg k'
   case measure => have := HKK.out; omega
   case rel => exact ⟨k', j + 1, r ++ [(q : Int)], a5, d5, by have := HKK.out; omega, Nat.le_refl _, rfl, ⟨by rw [List.length_append, HJ2.out.1]; rfl, HJ2.out.2.1, by have := HJ2.out; omega⟩, HO9, HI9, HB9, HK9⟩
  ·obtain rfl : k = 0 := by omega
   have p1 : ((0 : Int) < ((0 : Nat) : Int)) = False := eq_false (by omega)
   have hD := (HMX.out.moved (fun k h1 h2 h3 => HK.out.2 k h3 (fun he => by have := HG.out; omega) (by simp))).C' (by decide)
   have HF := Aside0.mk (And.intro hD.2.1 (And.intro hD.2.2 HRR.out))
   clear hD
   obtain ⟨A9, c9, rfl⟩ := Kd.R_slice HRR.out
   have hR9 := Kd.R_reads' HF.out.2.2
   have HF2 := Aside0.mk (And.intro hR9.2.1 hR9.2.2)
   clear hR9
   go_wp2
   (try simp only [Exit.inBlock, Exit.then])
   refine ⟨rfl, _, results_tmp2 rfl _ _ _, ?_⟩
   exact ⟨_, _, m, _, _, r, rfl, by have := HN.out; omega, by have := HN.out; omega, fun x hx => by have := HM.out x hx; have := HN.out; omega, by have := HJ.out; have := HN.out; omega, HF.out.1, HF.out.2.1, HF2.out.1, HF2.out.2, HB.out⟩

set_option maxHeartbeats 8000000 in
set_option maxRecDepth 100000 in
theorem drawRows_e (A0 : Option Addr) (c0 : Nat) (l0 : List Int) (w : World) (hs : BY l0) (hr0 : (Kd.int .u8).C w A0 l0.length l0) :
  Calls Try.prog 22 #[.slice A0 l0.length c0] w fun e w' => ∃ (A1 : Option Addr) (c1 : Nat) (m : List (List Int)) (A2 : Option Addr) (c2 : Nat) (v : List Int), e = .returned (.tuple #[.slice A1 m.length c1, .slice A2 v.length c2]) ∧ 1 ≤ m.length ∧ m.length ≤ 20 ∧ (∀ r ∈ m, r.length ≤ 20) ∧ v.length ≤ 20 ∧ m.length ≤ c1 ∧ Kd.C (Kd.slice 3 (Kd.int .i64)) w' A1 m.length m ∧ v.length ≤ c2 ∧ (Kd.int .i64).C w' A2 v.length v ∧ Below w.heap.size w w' := by
 have hu := Try.underlying54
 obtain ⟨v, a1, d1, e1, h0, h1, h2, h3, h4⟩ := spec_l1Cur_pick_ex hs (a := 0) 0 4 (by omega) (by omega)
 obtain ⟨n, rfl⟩ := nat_of h0
 obtain ⟨v, a2, d2, e2, k0, k1, k2, k3, k4⟩ := spec_l1Cur_pick_ex hs d1 4 h3 (by omega)
 obtain ⟨n2, rfl⟩ := nat_of k0
 have H1 := Aside0.mk e1
 have H2 := Aside0.mk e2
 have HS := Aside0.mk hs
 obtain ⟨N, hN⟩ : ∃ N : Nat, N = n + 1 := ⟨_, rfl⟩
 obtain ⟨C, hC⟩ : ∃ C : Nat, C = n2 + 1 := ⟨_, rfl⟩
 have HN := Aside0.mk (show (1 ≤ N ∧ N ≤ 4) ∧ C ≤ 4 ∧ 0 ≤ a2 ∧ a2 ≤ 4 by omega)
 obtain ⟨hw2, hv2⟩ : wrap64 (1 + (n : Int)) = (N : Int) ∧ wrap64 (1 + (n2 : Int)) = (C : Int) := by
  refine ⟨?_, ?_⟩
  ·rw [show (1 : Int) + n = (N : Int) by omega]; exact wrap_in (by omega) (by omega)
  ·rw [show (1 : Int) + n2 = (C : Int) by omega]; exact wrap_in (by omega) (by omega)
 have hw1 := (i64_w _).trans hw2
 have hv1 := (i64_w _).trans hv2
 have HR0 := Aside0.mk hr0
 have HB := Aside0.mk (Below.refl w.heap.size w)
 clear e1 h0 h1 h2 h3 h4 e2 k0 k1 k2 k3 k4 hr0 hs hN hC
 go_enter Try.func22, Try.ntmps22
 go_wp2_with ((with_reducible refine gate_dst (N := 10) rfl ?_); refine box_event ?hg (N := 10) ?hd (cs := #[.slice A0 l0.length c0, .int .i64 0, .int .u64 0]) (t := 54) ?hr ?_; (case hd => rfl); (case hg => rfl); (case hr => first | (go_simp; done) | (go_simp; rfl)); intro g hg w3 hbox hb; have HB1 := Aside0.mk (below_step (by repeat (first | (with_reducible first | exact HB.out | apply below_alloc | apply pw_below_drewN | apply below_drew1) | exact HB.out)) hb); have HI := Aside0.mk ((⟨_, _, hbox, by rw [hg]; exact (below_size (by repeat (first | (with_reducible first | exact HB.out | apply below_alloc | apply pw_below_drewN | apply below_drew1) | exact HB.out))), HR0.out⟩ : IsS54 w w3 g l0 0 0)); clear HB; have HB := HB1; clear HB1 hb hbox hg)
 refine (spec_l1Cur_pick.calls g l0 0 0 4 (n : Int) a1 d1 w _ HI.out HB.out H1.out).mono ?_
 rintro e wa ⟨rfl, hi, hb, _⟩
 replace HI := Aside0.mk hi
 replace HB := Aside0.mk hb
 clear hi hb
 go_wp2_with fail
 refine (spec_l1Cur_pick.calls g l0 a1 d1 4 (n2 : Int) a2 d2 w _ (by first | exact HI.out | exact HI.out.drewN _) (by first | exact HB.out | exact pw_below_drewN HB.out _) H2.out).mono ?_
 rintro e wb ⟨rfl, hi, hb, _⟩
 replace HI := Aside0.mk hi
 replace HB := Aside0.mk hb
 clear hi hb
 go_wp2_with fail
 clear hw1 hw2 hv1 hv2
 refine (l1matrix_e g l0 a2 d2 N C w _ HS.out (by have := HN.out; omega) (by have := HN.out; omega) (by have := HN.out; omega) (by have := HN.out; omega) (by have := HN.out; omega) HI.out HB.out).mono ?_
 rintro e wo ⟨A1, c1, m, vs, a3, d3, rfl, hml, hmr, hM, hi, ha3, ha4, hb, _⟩
 subst hml
 have HG := Aside0.mk HI.out.lt
 have HMX := Aside0.mk hM
 have HM := Aside0.mk hmr
 have HA := Aside0.mk (And.intro ha3 (show a3 ≤ 200000 by have := HN.out; omega))
 have HWO := Aside0.mk hi.lt
 replace HI := Aside0.mk hi
 replace HB := Aside0.mk hb
 obtain ⟨v, a6, d6, e6, k0, k1, k2, k3, k4⟩ := spec_l1Cur_pick_ex HS.out d3 5 HA.out.1 (by have := HA.out; omega)
 obtain ⟨T, rfl⟩ := nat_of k0
 have H6 := Aside0.mk e6
 have HT := Aside0.mk (show T ≤ 4 ∧ 0 ≤ a6 ∧ a6 ≤ 300000 from ⟨by omega, k3, by have := HA.out; omega⟩)
 clear e6 k0 k1 k2 k3 k4
 have HRN := Aside0.mk (Kd.R_nil (Kd.int .i64) 3 wo w.heap.size (fun k => wo.heap.size ≤ k))
 have HK := Aside0.mk (KeepBut.refl wo g none)
 clear hmr hM hi ha3 ha4 hb
 go_wp2_with fail
 refine (spec_l1Cur_pick.calls g l0 a3 d3 5 (T : Int) a6 d6 w _ (by first | exact HI.out | exact HI.out.drewN _) (by first | exact HB.out | exact pw_below_drewN HB.out _) H6.out).mono ?_
 rintro e wp ⟨rfl, hi, hb, hk⟩
 replace HI := Aside0.mk hi
 replace HB := Aside0.mk hb
 replace HK := Aside0.mk (KeepBut.trans HK.out hk (.inl rfl))
 replace HRN := Aside0.mk (Kd.R_nil (Kd.int .i64) 3 wp w.heap.size (fun k => wo.heap.size ≤ k))
 clear hi hb hk
 go_wp2_with fail
 go_loopg [6, 7] T (fun gg v7 v5 wq => ∃ (k j : Nat) (r : List Int) (a4 d4 : Int), j + k = T ∧ k ≤ gg ∧ v5 = .int .i64 k ∧ Aside0 (r.length = j ∧ 0 ≤ a4 ∧ a4 ≤ a6 + 4 * j) ∧ Aside0 ((Kd.int .i64).R 3 wq w.heap.size (fun k => wo.heap.size ≤ k) v7 r) ∧ Aside0 (IsS54 w wq g l0 a4 d4) ∧ Aside0 (Below w.heap.size w wq) ∧ Aside0 (KeepBut wo wq g none))
 case atStart => exact ⟨T, 0, [], a6, d6, Nat.zero_add _, Nat.le_refl _, rfl, ⟨rfl, HT.out.2.1, by omega⟩, HRN, HI, HB, HK⟩
 case round =>
  clear HRN HI HB HK
  obtain ⟨k, j, r, a4, d4, hjk, hgk, rfl, HJ, HRR, HI, HB, HK⟩ := hrel
  by_cases hk0 : 0 < k
  ·have p1 : ((0 : Int) < (k : Int)) = True := eq_true (by omega)
   have p2 : (0 < k) = True := eq_true hk0
   obtain ⟨v, a7, d7, e7, h0, h1, h2, h3, h4⟩ := spec_l1Cur_pick_ex HS.out d4 9 HJ.out.2.1 (by have := HJ.out; have := HT.out; omega)
   obtain ⟨n9, rfl⟩ := nat_of h0
   have q1 : Int.tdiv (n9 : Int) 8 = ((n9 / 8 : Nat) : Int) := rfl
   have q2 : (n9 : Int) / 8 = ((n9 / 8 : Nat) : Int) := rfl
   have hq : n9 / 8 ≤ 1 := by omega
   generalize n9 / 8 = u at q1 q2 hq
   obtain ⟨M, hM⟩ : ∃ M : Nat, M = m.length + u := ⟨_, rfl⟩
   obtain ⟨v, a5, d5, e5, k0, k1, k2, k3, k4⟩ := spec_l1Cur_pick_ex HS.out d7 (M : Int) h3 (by have := HJ.out; have := HT.out; omega)
   obtain ⟨q, rfl⟩ := nat_of k0
   have H7 := Aside0.mk e7
   have H5 := Aside0.mk e5
   have HJ2 := Aside0.mk (show r.length = j ∧ 0 ≤ a5 ∧ a5 ≤ a6 + 4 * (j + 1) ∧ j + 1 ≤ 4 from ⟨HJ.out.1, k3, by have := HJ.out; omega, by have := HT.out; omega⟩)
   have HZ := Aside0.mk (show wrap64 ((m.length : Int) + (u : Int)) = (M : Int) ∧ wrap64 (u : Int) = (u : Int) from by
    refine ⟨?_, wrap_id (by omega) (by omega)⟩
    rw [show (m.length : Int) + (u : Int) = (M : Int) by omega]; exact wrap_in (by omega) (by have := HN.out; omega))
   clear e7 h0 h1 h2 h3 h4 hM hq
   obtain ⟨A8, c8, rfl⟩ := Kd.R_slice HRR.out
   obtain ⟨k', rfl⟩ : ∃ k', k = k' + 1 := ⟨k - 1, by omega⟩
   have hw2 : wrap64 (((k' + 1 : Nat) : Int) - 1) = (k' : Int) := by rw [wrap_id (by omega) (by have := HT.out; omega)]; omega
   have HKW := Aside0.mk hw2
   clear e5 k0 k1 k2 k3 k4 hw2
   obtain ⟨kk, hkk⟩ : ∃ kk, kk = k' + 1 := ⟨_, rfl⟩
   rw [← hkk] at p1 p2 HKW ⊢
   have HKK := Aside0.mk hkk
   clear hkk
   have hw2 := HKW.out
   have hw1 := (i64_w _).trans hw2
   have hz2 := HZ.out.1
   have hu2 := HZ.out.2
   have hu1 := (i64_w _).trans hu2
   have hz1 := (i64_w _).trans hz2
   go_wp2_with (first | (go_at_call 36; with_reducible refine (spec_l1Cur_pick.calls g l0 a4 d4 9 (n9 : Int) a7 d7 w _ HI.out HB.out H7.out).mono ?_; rintro e wb ⟨rfl, hi, hb, hk⟩; have HI2 := Aside0.mk hi; have HB2 := Aside0.mk hb; have HK2 := Aside0.mk (KeepBut.trans HK.out hk (.inl rfl)); have HR2 := Aside0.mk (Kd.R_keep HRR.out hk (fun k hk he => by have := HWO.out; omega)); clear hi hb hk) | (go_at_call 36; with_reducible refine (spec_l1Cur_pick.calls g l0 a7 d7 (M : Int) (q : Int) a5 d5 w _ HI2.out HB2.out H5.out).mono ?_; rintro e wb2 ⟨rfl, hi, hb, hk⟩; have HI3 := Aside0.mk hi; have HB3 := Aside0.mk hb; have HK3 := Aside0.mk (KeepBut.trans HK2.out hk (.inl rfl)); have HR3 := Aside0.mk (Kd.R_keep HR2.out hk (fun k hk he => by have := HWO.out; omega)); clear hi hb hk) | ((with_reducible refine gate_builtin (b := .append) (xs := #[.tmp 25, .tmp 34]) rfl ?_); at_builtin; refine Kd.R_append (Kd.int .i64) (w0 := w) w.heap.size rfl (.tmp 25) (.tmp 34) 22 3 (.int .i64 0) 8 rfl Try.underlying22 infoJ rfl (by decide) (by decide) (.slice A8 r.length c8) r (q : Int) [.int .i64 (q : Int)] (fun k => wo.heap.size ≤ k) (fun _ => False) rfl rfl ?aP (fun _ hk => hk.elim) ?aF ?aO ?aB ?aS ?aL ?_; (case aP => exact rfl); (case aB => exact HB3.out); (case aF => exact (fun k hk => Nat.le_trans HK3.out.1 hk)); (case aO => exact HR3.out); (case aS => exact HB3.out.size); (case aL => have := HJ2.out; omega); intro v159 w12 ho hb hg hat; have HO9 := Aside0.mk ho; have HB9 := Aside0.mk hb; have HI9 := Aside0.mk (HI3.out.grown hg (fun he => by have h1 := HR3.out.1 g he.symm; have h2 := HWO.out; omega)); have HK9 := Aside0.mk (KeepBut.trans HK3.out (KeepBut.of_grown hg g) (by cases hob : (Value.slice A8 r.length c8).ownBlock with | none => exact .inl rfl | some b => exact .inr ⟨b, rfl, HR3.out.1 b hob⟩)); clear ho hb hg hat))
   clear hw1 hw2 hz1 hz2 hu1 hu2 HKW HZ p1 p2 q1 q2
   go_roundg k'
   case measure => have := HKK.out; omega
   case rel => exact ⟨k', j + 1, r ++ [(q : Int)], a5, d5, by have := HKK.out; omega, Nat.le_refl _, rfl, ⟨by rw [List.length_append, HJ2.out.1]; rfl, HJ2.out.2.1, by have := HJ2.out; omega⟩, HO9, HI9, HB9, HK9⟩
  ·obtain rfl : k = 0 := by omega
   have p1 : ((0 : Int) < ((0 : Nat) : Int)) = False := eq_false (by omega)
   have hD := (HMX.out.moved (fun k h1 h2 h3 => HK.out.2 k h3 (fun he => by have := HG.out; omega) (by simp))).C' (by decide)
   have HF := Aside0.mk (And.intro hD.2.1 (And.intro hD.2.2 HRR.out))
   clear hD
   obtain ⟨A9, c9, rfl⟩ := Kd.R_slice HRR.out
   have hR9 := Kd.R_reads' HF.out.2.2
   have HF2 := Aside0.mk (And.intro hR9.2.1 hR9.2.2)
   clear hR9
   go_wp2
   (try simp only [Exit.inBlock, Exit.then])
   refine ⟨rfl, _, results_tmp2 rfl _ _ _, ?_⟩
   exact ⟨_, _, m, _, _, r, rfl, by have := HN.out; omega, by have := HN.out; omega, fun x hx => by have := HM.out x hx; have := HN.out; omega, by have := HJ.out; have := HT.out; omega, HF.out.1, HF.out.2.1, HF2.out.1, HF2.out.2, HB.out⟩

theorem sameI_c (l : List Int) (hl : l.length ≤ 1000000) {A B : Option Addr} {n m : Nat} (hn : l.length ≤ n) (hm : l.length ≤ m) (w : World) (h1 : (Kd.int .i64).C w A l.length l) (h2 : (Kd.int .i64).C w B l.length l) : Calls Try.prog 21 #[.slice A l.length n, .slice B l.length m] w fun e w' => e = .returned (.bool true) ∧ Below w.heap.size w w' := by
 obtain ⟨K, hK⟩ := (laws_sameInts_same l hl).rounds
 exact (laws_sameInts.calls K A n l B m l true w h1 hn h2 hm hK).mono fun e w' ⟨he, hd⟩ => ⟨he, hd.below⟩

theorem add_at (g j : Nat) : (⟨g, 0, none⟩ : Addr).add j = ⟨g, 0 + j, none⟩ := by
 unfold Addr.add
 split
 ·rename_i h; subst h; rfl
 ·rfl
/-- A row of one's own, in the shelf's words. -/
theorem row_holds {e base g cap : Nat} {ok : Nat → Prop} {w : World} {l : List Int} (hR : (Kd.int .i64).R e w base ok (.slice (some ⟨g, 0, none⟩) l.length cap) l) (hp : 0 < l.length) : Sort.Holds (Value.int .i64) w g 0 l.toArray ∧ base ≤ g ∧ g < w.heap.size ∧ l.length ≤ cap := by
 obtain ⟨g', cap', he, hb, hl, cells, hc⟩ := Kd.R_form hR hp
 injection he with h1 _ h3
 injection h1 with h1
 injection h1 with h1
 subst h1 h3
 have hC := Kd.R_reads' hR
 refine ⟨fun j hj => ?_, hb, hl, hC.2.1⟩
 have hj' : j < l.length := by simpa using hj
 obtain ⟨ad, hA, hcell⟩ := Kd.at_int hC.2.2 (j : Int) (by omega) (by omega)
 injection hA with hA
 subst hA
 rw [Int.toNat_natCast, add_at] at hcell
 refine ⟨?_, by simp [World.frozen?, hc]⟩
 rw [hcell]
 unfold rd
 simp [List.getD_eq_getElem?_getD, hj']
/-- And back. -/
theorem holds_row {g : Nat} {w : World} {l : List Int} (h : Sort.Holds (Value.int .i64) w g 0 l.toArray) (hl : l.length ≤ 9223372036854775807) : (Kd.int .i64).C w (some ⟨g, 0, none⟩) l.length l := by
 refine ⟨rfl, hl, fun _ => ⟨_, rfl, fun j p hj => ⟨[.int .i64 p], rfl, rfl, fun i u hu => ?_⟩⟩⟩
 have hjl := (List.getElem?_eq_some_iff.1 hj).1
 have hi : i = 0 := by
  have := (List.getElem?_eq_some_iff.1 hu).1
  simpa using this
 subst hi
 injection hu with hu
 subst hu
 have h1 := (h j (by simpa using hjl)).1
 rw [add_at, show (Kd.int .i64).sz = 1 from rfl, Nat.mul_one, Nat.add_zero, h1]
 have h2 := (List.getElem?_eq_some_iff.1 hj).2
 simp [hjl, h2]
/-- Behind slices.Sort. -/
theorem sorted_row {g n : Nat} {w : World} {os : Array Obj} {l ts : List Int} (h : Sort.Holds (Value.int .i64) w g 0 l.toArray) (hg : g < w.heap.size) (hl : ts.length = l.length) : Sort.Holds (Value.int .i64) (Sort.grow (Sort.putRow (Value.int .i64) (Sort.ahead w n) g 0 ts.toArray) os) g 0 ts.toArray :=
 Sort.holds_grow _ _ _ _ _ _ (by simpa using hg) (Sort.holds_putRow _ _ _ _ l.toArray ts.toArray (Sort.holds_ahead _ w n _ _ _ h) (by simpa using hl))
theorem put_below {base g n : Nat} {w0 w : World} {ts : List Int} (hB : Below base w0 w) (hb : base ≤ g) : Below base w0 (Sort.putRow (Value.int .i64) (Sort.ahead w n) g 0 ts.toArray) := by
 refine hB.trans ⟨rfl, rfl, rfl, by simp, fun k hk => ?_⟩
 have : g ≠ k := by omega
 simp [Sort.putRow, Sort.mapBlock, Sort.ahead, Array.getElem?_modify, this]
theorem grow_below {base : Nat} {w0 w : World} (os : Array Obj) (hB : Below base w0 w) (hb : base ≤ w.heap.size) : Below base w0 (Sort.grow w os) := by
 refine hB.trans ⟨rfl, rfl, rfl, by simp [Sort.grow], fun k hk => ?_⟩
 rw [Sort.heap_grow_old _ _ (by omega)]
theorem holds_drewN {g : Nat} {w : World} {l : List Int} (h : Sort.Holds (Value.int .i64) w g 0 l.toArray) (n : Nat) : Sort.Holds (Value.int .i64) (w.drewN n) g 0 l.toArray := by
 intro j hj
 have hb := pw_below_drewN (Below.refl w.heap.size w) n
 have h1 := h j hj
 exact ⟨pw_cell_below hb h1.1, h1.2⟩

/-- A row made since is put behind a list of rows: 'out = append(out, row)'. -/
theorem app_event {ops : Array Oper} {rest : List Oper} {o : Oper} {a : Act} {Q : Exit → Act → World → Prop} {w0 wr W : World} (base : Nat) (hgd : o.guard = none) (s x : Operand)
  (ho : o.op = .call { callee := .builtin .append, args := #[s, x], argTypes := #[23, 23] }) (v : Value) (m : List (List Int)) (Au : Option Addr) (cu : Nat) (row : List Int) (hs : a.eval s = v) (hx : a.eval x = .slice (some ⟨W.heap.size, 0, none⟩) 1 1)
  (hS : (Kd.slice 3 (Kd.int .i64)).S 22 wr base (fun _ => True) v m) (hb : Below wr.heap.size wr W) (hR : (Kd.int .i64).R 3 W wr.heap.size (fun _ => True) (.slice Au row.length cu) row) (HB : Below base w0 W) (hbase : base ≤ wr.heap.size) (hl : m.length ≤ 1000000)
  (h : ∀ A1 c1 w1, (Kd.slice 3 (Kd.int .i64)).S 22 w1 base (fun _ => True) (.slice A1 (m.length + 1) c1) (m ++ [row]) → Below base w0 w1 → Aside0 (∀ (g tq : Nat) (cs : Array Value), tq ≠ 22 → wr.heap[g]? = some (.cells cs tq (0, 0)) → w1.heap[g]? = some (.cells cs tq (0, 0))) → wpList Try.prog ops Q rest (a.put o.dst (.slice A1 (m.length + 1) c1)) w1) :
  wpList Try.prog ops Q (o :: rest) a (W.alloc (.cells #[.slice Au row.length cu] 22)) := by
 have hlt := Kd.S_lt hS
 have hty := Kd.S_typed hS
 have hnew : ∀ k, some k = (Value.slice Au row.length cu).ownBlock → wr.heap.size ≤ k := fun k hk => Kd.R_base hR k hk.symm
 refine Kd.S_append (Kd.slice 3 (Kd.int .i64)) (w0 := w0) base hgd s x 23 22 (.slice none 0 0) 24 ho Try.underlying23 infoR rfl (by decide) (by omega) v m row [.slice Au row.length cu] (fun _ => True) (fun k => some k = (Value.slice Au row.length cu).ownBlock) hs hx
  (Kd.M_row (Kd.R_mono (Kd.R_tight rfl (Kd.R_lower hR hbase)) (fun _ h_ => h_))) (fun k hk => ⟨trivial, fun he => by have h1 := hnew k hk; have h2 := hlt k he.symm; omega⟩) (fun _ _ => trivial)
  (Kd.S_mono (Kd.S_old hS hb) (fun k hk => ⟨trivial, fun he => by have h1 := hnew k he; have h2 := hk.2; omega⟩)) HB (Nat.le_trans hbase hb.size) (by omega) ?_
 intro v1 w1 h1 h2 h3 _
 obtain ⟨A1, c1, rfl⟩ := Kd.S_slice h1
 rw [show (m ++ [row]).length = m.length + 1 by simp] at h1 ⊢
 exact h A1 c1 w1 h1 h2 ⟨fun g tq cs hne hg => blk_grown (blk_below hg hb) h3 (fun he => by
  obtain ⟨cells, hc⟩ := hty g he.symm
  rw [hc] at hg
  injection hg with hg
  injection hg with _ hg
  exact hne hg.symm)⟩
theorem S_empty {e : TypeId} {w : World} {base : Nat} {ok : Nat → Prop} {v : Value} (h : (Kd.slice 3 (Kd.int .i64)).R e w base ok v []) : (Kd.slice 3 (Kd.int .i64)).S e w base ok v [] := by
 obtain ⟨h0, inner, ho, hr⟩ := h
 exact ⟨fun _ => 0, h0, inner, ho, hr.1, fun j p hj => by simp at hj⟩

def impl_CauchyMatrix.f (x y : List Int) : Option (List (List Int) × Bool) := if x.length ≤ 1048576 ∧ y.length ≤ 1048576 then some (cauV x y) else none
theorem impl_CauchyMatrix_eq (x y : List Int) (hx : x.length ≤ 1048576) (hy : y.length ≤ 1048576) : impl_CauchyMatrix.f x y = some (cauV x y) := if_pos ⟨hx, hy⟩
theorem cauV_off {x y : List Int} (h : cauOk x y = false) : cauV x y = ([], false) := by unfold cauV; rw [h]; rfl
/-- The rows, in the form the walk makes them. -/
theorem cauchyM_take (X Y : List Nat) (i : Nat) (h : i < X.length) : upM (cauchyM (X.take (i + 1)) Y) = upM (cauchyM (X.take i) Y) ++ [Poly.up (cauchyR (X.getD i 0) Y)] := by
 have e : X.getD i 0 = X[i] := by rw [List.getD_eq_getElem?_getD, List.getElem?_eq_getElem h]; rfl
 unfold cauchyM
 rw [List.take_succ_eq_append_getElem h, List.map_append, ← upM_append, e]; rfl
theorem cauchyR_take (a : Nat) (Y : List Nat) (j : Nat) (h : j < Y.length) : Poly.up (cauchyR a (Y.take (j + 1))) = Poly.up (cauchyR a (Y.take j)) ++ [((Gf.gi (a ^^^ Y.getD j 0) : Nat) : Int)] := by
 have e : Y.getD j 0 = Y[j] := by rw [List.getD_eq_getElem?_getD, List.getElem?_eq_getElem h]; rfl
 unfold cauchyR
 rw [List.take_succ_eq_append_getElem h, List.map_append, ← Poly.up_append, e]; rfl
set_option maxHeartbeats 8000000 in
set_option maxRecDepth 100000 in
theorem impl_CauchyMatrix.calls (A0 : Option Addr) (c0 : Nat) (x : List Int) (A1 : Option Addr) (c1 : Nat) (y : List Int) (r1 : List (List Int)) (r2 : Bool) (w : World) (hr0 : Kd.C (Kd.int .i64) w A0 x.length x) (hc0 : x.length ≤ c0) (hr1 : Kd.C (Kd.int .i64) w A1 y.length y) (hc1 : y.length ≤ c1) (h : impl_CauchyMatrix.f x y = some (r1, r2)) :
  Calls Try.prog 7 #[.slice A0 x.length c0, .slice A1 y.length c1] w fun e w' => ∃ v0_ : Value, e = .returned (.tuple #[v0_, .bool r2]) ∧ Kd.S (Kd.slice 3 (Kd.int .i64)) 22 w' w.heap.size (fun _ => True) v0_ r1 ∧ Below w.heap.size w w' := by
 unfold impl_CauchyMatrix.f at h
 split at h
 rotate_left
 ·cases h
 rename_i hs
 injection h with h
 have HR0 := Aside0.mk hr0
 have HC0 := Aside0.mk hc0
 have HR1 := Aside0.mk hr1
 have HC1 := Aside0.mk hc1
 have HB := Aside0.mk (Below.refl w.heap.size w)
 have ewx : impl_within.f (x.length : Int) 1 8 = some (decide (1 ≤ x.length ∧ x.length ≤ 8)) := by
  rw [impl_within_eq]
  exact congrArg some (decide_eq_decide.2 (by omega))
 have ewy : impl_within.f (y.length : Int) 1 8 = some (decide (1 ≤ y.length ∧ y.length ≤ 8)) := by
  rw [impl_within_eq]
  exact congrArg some (decide_eq_decide.2 (by omega))
 have HWX := Aside0.mk ewx
 have HWY := Aside0.mk ewy
 clear hr0 hc0 hr1 hc1 ewx ewy
 cases g1 : decide (1 ≤ x.length ∧ x.length ≤ 8) with
 | false =>
  rw [cauV_off (by unfold cauOk; rw [g1]; rfl)] at h
  injection h with h1 h2
  subst h1 h2
  rw [g1] at HWX
  clear g1 hs
  go_enter Try.func7, Try.ntmps7
  go_wp2_with (first
   | (go_at_call 29; with_reducible refine (impl_within.calls (x.length : Int) 1 8 false _ HWX.out).mono ?_; rintro e w' ⟨rfl, ⟨nd1, rfl⟩⟩))
  go_ret2
  exact ⟨_, rfl, Kd.S_nil _ _ _ _ _, pw_below_drewN HB.out _⟩
 | true =>
 cases g2 : decide (1 ≤ y.length ∧ y.length ≤ 8) with
 | false =>
  rw [cauV_off (by unfold cauOk; rw [g1, g2]; rfl)] at h
  injection h with h1 h2
  subst h1 h2
  rw [g1] at HWX
  rw [g2] at HWY
  clear g1 g2 hs
  go_enter Try.func7, Try.ntmps7
  go_wp2_with (first
   | (go_at_call 29; with_reducible refine (impl_within.calls (x.length : Int) 1 8 true _ HWX.out).mono ?_; rintro e w' ⟨rfl, ⟨nd1, rfl⟩⟩)
   | (go_at_call 29; with_reducible refine (impl_within.calls (y.length : Int) 1 8 false _ HWY.out).mono ?_; rintro e w' ⟨rfl, ⟨nd2, rfl⟩⟩))
  go_ret2
  exact ⟨_, rfl, Kd.S_nil _ _ _ _ _, pw_below_drewN HB.out _⟩
 | true =>
 rw [g1] at HWX
 rw [g2] at HWY
 have zx := of_decide_eq_true g1
 have zy := of_decide_eq_true g2
 have HXY := Aside0.mk (And.intro zx zy)
 obtain ⟨l, hl⟩ : ∃ l, l = x ++ y := ⟨_, rfl⟩
 have hll : l.length = x.length + y.length := by rw [hl, List.length_append]
 have HL := Aside0.mk hl
 have HL0 := Aside0.mk (show 0 < l.length by omega)
 have HCL := Aside0.mk (show slices_Clone_int_int.f x = some x by unfold slices_Clone_int_int.f; rw [if_pos (by omega)])
 have hsl := Srt.srt_length l
 have hsort : Aside0 (∀ (g cap : Nat) (W : World), Sort.Holds (Value.int .i64) W g 0 l.toArray → g < W.heap.size → Calls Try.prog 31 #[.slice (some ⟨g, 0, none⟩) l.length cap] W fun e w' => e = .returned (.tuple #[]) ∧ Sort.Holds (Value.int .i64) w' g 0 (Srt.srt l).toArray ∧ (∀ (base : Nat) (w0 : World), Below base w0 W → base ≤ g → Below base w0 w') ∧ W.heap.size ≤ w'.heap.size) := ⟨fun g cap W hH hg => (slices_Sort_int_int.calls g cap l W hH hg (by omega)).mono fun e w' => by
  rintro ⟨he, n, os, rfl⟩
  have hb : W.heap.size ≤ (Sort.grow (Sort.putRow (Value.int .i64) (Sort.ahead W n) g 0 (Srt.srt l).toArray) os).heap.size := by simp [Sort.grow]
  refine ⟨he, sorted_row hH hg hsl, fun base w0 hB hbg => grow_below os (put_below hB hbg) (by simp; omega), hb⟩⟩
 have harea : Aside0 (∀ (g cap : Nat) (W : World), Sort.Holds (Value.int .i64) W g 0 (Srt.srt l).toArray → l.length ≤ cap → Calls Try.prog 32 #[.slice (some ⟨g, 0, none⟩) l.length cap] W fun e w' => e = .returned (.bool (l.all isB)) ∧ Drawn0 W w') := ⟨fun g cap W hH hcap => by
  have := impl_areGf.calls (some ⟨g, 0, none⟩) cap (Srt.srt l) (l.all isB) W (holds_row hH (by omega)) (by omega) (by rw [impl_areGf_eq, Srt.srt_all])
  rwa [hsl] at this⟩
 have hcomp : Aside0 (∀ (g cap : Nat) (W : World), Sort.Holds (Value.int .i64) W g 0 (Srt.srt l).toArray → l.length ≤ cap → Calls Try.prog 33 #[.slice (some ⟨g, 0, none⟩) l.length cap] W fun e w' => e = .returned (.slice (some ⟨g, 0, none⟩) (Lib.compact (Srt.srt l)).length cap) ∧ (∀ (base : Nat) (w0 : World), Below base w0 W → base ≤ g → Below base w0 w')) := ⟨fun g cap W hH hcap => by
  have := slices_Compact_int_int.calls g cap (Srt.srt l) W hH (by omega) (by omega)
  rw [hsl] at this
  refine this.mono fun e w' => ?_
  rintro ⟨he, q, rfl⟩
  exact ⟨he, fun base w0 hB hbg => put_below hB hbg⟩⟩
 have hcn := Srt.srt_compact l
 generalize (Lib.compact (Srt.srt l)).length = cn at hcomp hcn
 have hw1 : wrap64 ((x.length : Int) + (y.length : Int)) = (x.length : Int) + (y.length : Int) := wrap_id (by omega) (by omega)
 have hw2 : IntKind.i64.wrap ((x.length : Int) + (y.length : Int)) = (x.length : Int) + (y.length : Int) := (i64_w _).trans hw1
 cases g3 : l.all isB with
 | false =>
  rw [cauV_off (by unfold cauOk; rw [← hl, g1, g2, g3]; rfl)] at h
  injection h with h1 h2
  subst h1 h2
  rw [g3] at harea
  clear g1 g2 g3 hs zx zy hll hsl hcn hw1 hw2 hl
  go_enter Try.func7, Try.ntmps7
  go_wp2_with (first
   | (go_at_call 29; with_reducible refine (impl_within.calls (x.length : Int) 1 8 true _ HWX.out).mono ?_; rintro e w' ⟨rfl, ⟨nd1, rfl⟩⟩)
   | (go_at_call 29; with_reducible refine (impl_within.calls (y.length : Int) 1 8 true _ HWY.out).mono ?_; rintro e w' ⟨rfl, ⟨nd2, rfl⟩⟩)
   | (go_at_call 30; refine (slices_Clone_int_int.calls A0 c0 x x _ (Kd.C_drewN HR0.out _) HC0.out HCL.out).mono ?_; rintro e w1 ⟨v1, rfl, hR1, hb1⟩; obtain ⟨A9, c9, rfl⟩ := Kd.R_slice hR1; have HB1 := Aside0.mk (below_step (pw_below_drewN HB.out _) hb1); have HO1 := Aside0.mk (Kd.R_lower hR1 (pw_below_drewN HB.out _).size); clear hb1 hR1)
   | ((with_reducible refine gate_builtin (b := .append) (xs := #[.tmp 24, .tmp 25]) rfl ?_); at_builtin; refine Kd.R_append_rows (Kd.int .i64) (w0 := w) w.heap.size rfl (.tmp 24) (.tmp 25) 22 3 (.int .i64 0) 8 rfl Try.underlying22 infoJ rfl (by decide) (by decide) (.slice A9 x.length c9) x y _ _ _ (fun _ => True) (fun _ => False) rfl rfl ?aO ?aR (fun _ _ h => h) (fun _ h => h.elim) ?aF ?aB ?aS ?aL ?_; (case aR => exact Kd.C_below HR1.out HB1.out); (case aB => exact HB1.out); (case aF => exact (fun _ _ => trivial)); (case aO => exact HO1.out); (case aS => exact HB1.out.size); (case aL => have := HXY.out; omega); intro v2 w2 ho hb _ _; rw [← HL.out] at ho; obtain ⟨gb, cap, rfl, _, _, _, _⟩ := Kd.R_form ho HL0.out; have HH2 := Aside0.mk (row_holds ho HL0.out); have HB2 := Aside0.mk hb; clear ho hb)
   | (go_at_call 31; refine (hsort.out gb cap _ HH2.out.1 HH2.out.2.2.1).mono ?_; rintro e w3 ⟨rfl, hh3, hb3, hs3⟩; have HH3 := Aside0.mk hh3; have HB3 := Aside0.mk (hb3 w.heap.size w HB2.out HH2.out.2.1); clear hh3 hb3 hs3)
   | (go_at_call 32; refine (harea.out gb cap _ HH3.out HH2.out.2.2.2).mono ?_; rintro e w' ⟨rfl, ⟨nd4, rfl⟩⟩))
  go_ret2
  exact ⟨_, rfl, Kd.S_nil _ _ _ _ _, by repeat (first | exact HB3.out | apply pw_below_drewN)⟩
 | true =>
 rw [g3] at harea
 by_cases g4 : l.Nodup
 rotate_left
 ·rw [cauV_off (by unfold cauOk; rw [← hl, g1, g2, g3, decide_eq_false g4]; rfl)] at h
  injection h with h1 h2
  subst h1 h2
  have hlt : cn < l.length := by rw [hcn]; exact g4
  have j1 : ((cn : Int) < (x.length : Int) + (y.length : Int)) = True := eq_true (by omega)
  have j2 : (cn < x.length + y.length) = True := eq_true (by omega)
  clear g1 g2 g3 g4 hs hll hsl hcn hlt hl
  go_enter Try.func7, Try.ntmps7
  go_wp2_with (first
   | (go_at_call 29; with_reducible refine (impl_within.calls (x.length : Int) 1 8 true _ HWX.out).mono ?_; rintro e w' ⟨rfl, ⟨nd1, rfl⟩⟩)
   | (go_at_call 29; with_reducible refine (impl_within.calls (y.length : Int) 1 8 true _ HWY.out).mono ?_; rintro e w' ⟨rfl, ⟨nd2, rfl⟩⟩)
   | (go_at_call 30; refine (slices_Clone_int_int.calls A0 c0 x x _ (Kd.C_drewN HR0.out _) HC0.out HCL.out).mono ?_; rintro e w1 ⟨v1, rfl, hR1, hb1⟩; obtain ⟨A9, c9, rfl⟩ := Kd.R_slice hR1; have HB1 := Aside0.mk (below_step (pw_below_drewN HB.out _) hb1); have HO1 := Aside0.mk (Kd.R_lower hR1 (pw_below_drewN HB.out _).size); clear hb1 hR1)
   | ((with_reducible refine gate_builtin (b := .append) (xs := #[.tmp 24, .tmp 25]) rfl ?_); at_builtin; refine Kd.R_append_rows (Kd.int .i64) (w0 := w) w.heap.size rfl (.tmp 24) (.tmp 25) 22 3 (.int .i64 0) 8 rfl Try.underlying22 infoJ rfl (by decide) (by decide) (.slice A9 x.length c9) x y _ _ _ (fun _ => True) (fun _ => False) rfl rfl ?aO ?aR (fun _ _ h => h) (fun _ h => h.elim) ?aF ?aB ?aS ?aL ?_; (case aR => exact Kd.C_below HR1.out HB1.out); (case aB => exact HB1.out); (case aF => exact (fun _ _ => trivial)); (case aO => exact HO1.out); (case aS => exact HB1.out.size); (case aL => have := HXY.out; omega); intro v2 w2 ho hb _ _; rw [← HL.out] at ho; obtain ⟨gb, cap, rfl, _, _, _, _⟩ := Kd.R_form ho HL0.out; have HH2 := Aside0.mk (row_holds ho HL0.out); have HB2 := Aside0.mk hb; clear ho hb)
   | (go_at_call 31; refine (hsort.out gb cap _ HH2.out.1 HH2.out.2.2.1).mono ?_; rintro e w3 ⟨rfl, hh3, hb3, hs3⟩; have HH3 := Aside0.mk hh3; have HB3 := Aside0.mk (hb3 w.heap.size w HB2.out HH2.out.2.1); clear hh3 hb3 hs3)
   | (go_at_call 32; refine (harea.out gb cap _ HH3.out HH2.out.2.2.2).mono ?_; rintro e w' ⟨rfl, ⟨nd4, rfl⟩⟩)
   | (go_at_call 33; refine (hcomp.out gb cap _ (holds_drewN HH3.out _) HH2.out.2.2.2).mono ?_; rintro e w5 ⟨rfl, hb5⟩; have HB5 := Aside0.mk (hb5 w.heap.size w (pw_below_drewN HB3.out _) HH2.out.2.1); clear hb5))
  go_ret2
  exact ⟨_, rfl, Kd.S_nil _ _ _ _ _, HB5.out⟩
 have hge : ¬ cn < l.length := by rw [hcn]; exact fun h => h g4
 have j1 : ((cn : Int) < (x.length : Int) + (y.length : Int)) = False := eq_false (by omega)
 have j2 : (cn < x.length + y.length) = False := eq_false (by omega)
 have hok : cauOk x y = true := by unfold cauOk; rw [← hl, g1, g2, g3, decide_eq_true g4]; rfl
 unfold cauV at h
 rw [hok, if_pos rfl] at h
 rw [hl] at g3
 obtain ⟨X, Y, rfl, rfl, hX, hY⟩ := cauOk_up g3
 rw [map_up, map_up] at h
 injection h with h1 h2
 subst h1 h2
 have HX := Aside0.mk hX
 have HY := Aside0.mk hY
 have HXL := Aside0.mk (Poly.up_length X)
 have HYL := Aside0.mk (Poly.up_length Y)
 clear g1 g2 g3 g4 hs hll hsl hcn hge hl hok hX hY
 go_enter Try.func7, Try.ntmps7
 go_wp2_with (first
  | (go_at_call 29; with_reducible refine (impl_within.calls ((Poly.up X).length : Int) 1 8 true _ HWX.out).mono ?_; rintro e w' ⟨rfl, ⟨nd1, rfl⟩⟩)
  | (go_at_call 29; with_reducible refine (impl_within.calls ((Poly.up Y).length : Int) 1 8 true _ HWY.out).mono ?_; rintro e w' ⟨rfl, ⟨nd2, rfl⟩⟩)
  | (go_at_call 30; refine (slices_Clone_int_int.calls A0 c0 (Poly.up X) (Poly.up X) _ (Kd.C_drewN HR0.out _) HC0.out HCL.out).mono ?_; rintro e w1 ⟨v1, rfl, hR1, hb1⟩; obtain ⟨A9, c9, rfl⟩ := Kd.R_slice hR1; have HB1 := Aside0.mk (below_step (pw_below_drewN HB.out _) hb1); have HO1 := Aside0.mk (Kd.R_lower hR1 (pw_below_drewN HB.out _).size); clear hb1 hR1)
  | ((with_reducible refine gate_builtin (b := .append) (xs := #[.tmp 24, .tmp 25]) rfl ?_); at_builtin; refine Kd.R_append_rows (Kd.int .i64) (w0 := w) w.heap.size rfl (.tmp 24) (.tmp 25) 22 3 (.int .i64 0) 8 rfl Try.underlying22 infoJ rfl (by decide) (by decide) (.slice A9 (Poly.up X).length c9) (Poly.up X) (Poly.up Y) _ _ _ (fun _ => True) (fun _ => False) rfl rfl ?aO ?aR (fun _ _ h => h) (fun _ h => h.elim) ?aF ?aB ?aS ?aL ?_; (case aR => exact Kd.C_below HR1.out HB1.out); (case aB => exact HB1.out); (case aF => exact (fun _ _ => trivial)); (case aO => exact HO1.out); (case aS => exact HB1.out.size); (case aL => have := HXY.out; omega); intro v2 w2 ho hb _ _; rw [← HL.out] at ho; obtain ⟨gb, cap, rfl, _, _, _, _⟩ := Kd.R_form ho HL0.out; have HH2 := Aside0.mk (row_holds ho HL0.out); have HB2 := Aside0.mk hb; clear ho hb)
  | (go_at_call 31; refine (hsort.out gb cap _ HH2.out.1 HH2.out.2.2.1).mono ?_; rintro e w3 ⟨rfl, hh3, hb3, hs3⟩; have HH3 := Aside0.mk hh3; have HB3 := Aside0.mk (hb3 w.heap.size w HB2.out HH2.out.2.1); clear hh3 hb3 hs3)
  | (go_at_call 32; refine (harea.out gb cap _ HH3.out HH2.out.2.2.2).mono ?_; rintro e w' ⟨rfl, ⟨nd4, rfl⟩⟩)
  | (go_at_call 33; refine (hcomp.out gb cap _ (holds_drewN HH3.out _) HH2.out.2.2.2).mono ?_; rintro e w5 ⟨rfl, hb5⟩; have HB5 := Aside0.mk (hb5 w.heap.size w (pw_below_drewN HB3.out _) HH2.out.2.1); clear hb5)
  | ((with_reducible refine gate_dst (N := 43) rfl ?_); refine Kd.R_lit (Kd.slice 3 (Kd.int .i64)) _ 22 ?hg (N := 43) ?hd (xs := ([] : List (List Int))) (inner := []) (ok := fun _ => True) (okp := fun _ => True) ?hr ?hp (fun _ hk => hk) trivial (Below.refl _ _) (Nat.le_refl _) (by simp) ?_; (case hd => rfl); (case hg => rfl); (case hr => first | (go_simp; done) | (go_simp; rfl)); (case hp => exact (Reps.none _ _)); intro v43 w43 ho43 hb43 _ _; have HBL0 := Aside0.mk (below_step HB5.out hb43); have HSL0 := Aside0.mk (Kd.S_lower (S_empty ho43) HB5.out.size); clear ho43 hb43))
 clear hw1 hw2 j1 j2
 go_loopg [7, 46] (Poly.up X).length (fun gg v7 v46 wr => ∃ i : Nat, i ≤ (Poly.up X).length ∧ (Poly.up X).length - i ≤ gg ∧ v46 = .int .i64 i ∧ Aside0 ((Kd.slice 3 (Kd.int .i64)).S 22 wr w.heap.size (fun _ => True) v7 (upM (cauchyM (X.take i) Y))) ∧ Aside0 (Below w.heap.size w wr))
 case atStart => exact ⟨0, Nat.zero_le _, by omega, rfl, ⟨by rw [List.take_zero]; exact HSL0.out⟩, HBL0⟩
 case round =>
  clear HBL0 HSL0 HB5 HB3 HB2 HB1 HH2 HH3 HO1
  obtain ⟨i, hi', hg, rfl, HS, HBR⟩ := hrel
  by_cases hlt : i < (Poly.up X).length
  ·have hltz : (i : Int) < ((Poly.up X).length : Int) := by omega
   have hi8 : (i : Int) ≤ 8 := by have := HXY.out; omega
   obtain ⟨ad, ea, hx⟩ := Kd.at_int HR0.out (i : Int) (by omega) hltz
   cases ea
   rw [Poly.rd_up, Int.toNat_natCast] at hx
   have hxa := pw_cell_below HBR.out hx
   have HiX := Aside0.mk (show i < X.length by have := HXL.out; omega)
   have eM := Aside0.mk (cauchyM_take X Y i HiX.out)
   have HA := Aside0.mk (HX.out.get i)
   have HSL := Aside0.mk (show (upM (cauchyM (X.take i) Y)).length ≤ 1000000 by rw [upM_length, cauchyM_length, List.length_take]; have := HXY.out; have := HiX.out; omega)
   generalize X.getD i 0 = a at hxa eM HA
   obtain ⟨wo, hwo⟩ : ∃ u, u = wr := ⟨_, rfl⟩
   subst hwo
   clear hx
   go_wp2_with ((with_reducible refine gate_dst (N := 50) rfl ?_); refine Kd.R_lit (Kd.int .i64) _ 3 ?hg (N := 50) ?hd (xs := ([] : List Int)) (inner := []) (ok := fun _ => True) (okp := fun _ => True) ?hr ?hp (fun _ hk => hk) trivial (Below.refl _ _) (Nat.le_refl _) (by simp) ?_; (case hd => rfl); (case hg => rfl); (case hr => first | (go_simp; done) | (go_simp; rfl)); (case hp => exact (Reps.none _ _)); intro v50 w50 ho50 hb50 _ _; have HBI0 := Aside0.mk hb50; have HRI0 := Aside0.mk ho50; clear ho50 hb50)
   go_loopg [10, 53] (Poly.up Y).length (fun gg v10 v53 wq => ∃ j : Nat, j ≤ (Poly.up Y).length ∧ (Poly.up Y).length - j ≤ gg ∧ v53 = .int .i64 j ∧ Aside0 ((Kd.int .i64).R 3 wq wo.heap.size (fun _ => True) v10 (Poly.up (cauchyR a (Y.take j)))) ∧ Aside0 (Below wo.heap.size wo wq))
   case atStart => exact ⟨0, Nat.zero_le _, by omega, rfl, ⟨by rw [List.take_zero]; exact HRI0.out⟩, HBI0⟩
   case round =>
    clear HBI0 HRI0
    obtain ⟨j, hj', hgj, rfl, HR, HBQ⟩ := hrel
    by_cases hjl : j < (Poly.up Y).length
    ·have hjz : (j : Int) < ((Poly.up Y).length : Int) := by omega
     have hj8 : (j : Int) ≤ 8 := by have := HXY.out; omega
     obtain ⟨bd, eb, hy⟩ := Kd.at_int HR1.out (j : Int) (by omega) hjz
     cases eb
     rw [Poly.rd_up, Int.toNat_natCast] at hy
     have hyb := pw_cell_below (below_step HBR.out HBQ.out) hy
     have HjY := Aside0.mk (show j < Y.length by have := HYL.out; omega)
     have eR := Aside0.mk (cauchyR_take a Y j HjY.out)
     have hb := HY.out.get j
     generalize Y.getD j 0 = b at hyb eR hb
     have hxor := xor_up HA.out hb
     obtain ⟨K, hK⟩ := (impl_inverse_ev _ (Gf.xor_byte HA.out hb)).rounds
     generalize a ^^^ b = z at hxor hK eR
     have HK := Aside0.mk hK
     have HRL := Aside0.mk (show (Poly.up (cauchyR a (Y.take j))).length ≤ 1000 by rw [Poly.up_length]; simp only [cauchyR, List.length_map, List.length_take]; have := HjY.out; have := HXY.out; have := HYL.out; omega)
     generalize ((Gf.gi z : Nat) : Int) = q at HK eR
     generalize hrow : Poly.up (cauchyR a (Y.take j)) = row at HR HRL eR
     obtain ⟨A8, c8, rfl⟩ := Kd.R_slice HR.out
     clear hy hb hK hjz hrow
     go_wp2_with (first
      | (go_at_call 34; refine (impl_inverse.calls K (z : Int) q _ HK.out).mono ?_; rintro e w' ⟨rfl, ⟨nd6, rfl⟩⟩)
      | ((with_reducible refine gate_builtin (b := .append) (xs := #[.tmp 57, .tmp 62]) rfl ?_); at_builtin; refine Kd.R_append (Kd.int .i64) (w0 := wo) wo.heap.size rfl (.tmp 57) (.tmp 62) 22 3 (.int .i64 0) 8 rfl Try.underlying22 infoJ rfl (by decide) (by decide) (.slice A8 row.length c8) row q [.int .i64 q] (fun _ => True) (fun _ => False) rfl rfl ?aP (fun _ hk => hk.elim) ?aF ?aO ?aB ?aS ?aL ?_; (case aP => exact rfl); (case aB => exact (by repeat (first | (with_reducible first | exact HBQ.out | apply below_alloc | apply pw_below_drewN | apply below_drew1) | exact HBQ.out))); (case aF => exact (fun _ _ => trivial)); (case aO => exact (by (with_reducible repeat (first | apply Kd.R_alloc | apply Kd.R_drewN | apply Kd.R_drew)); exact HR.out)); (case aS => exact (below_size (by repeat (first | (with_reducible first | exact HBQ.out | apply below_alloc | apply pw_below_drewN | apply below_drew1) | exact HBQ.out)))); (case aL => have := HRL.out; omega); intro v63 w63 ho hb _ _; rw [← eR.out] at ho; have HO9 := Aside0.mk ho; have HB9 := Aside0.mk hb; clear ho hb))
     go_roundg ((Poly.up Y).length - (j + 1))
     case measure => omega
     case rel => exact ⟨j + 1, by omega, by omega, by go_num, HO9, HB9⟩
    ·obtain rfl : j = (Poly.up Y).length := by omega
     have hR := HR.out
     rw [HYL.out, List.take_length] at hR
     obtain ⟨A9, c9, rfl⟩ := Kd.R_slice hR
     have HR' := Aside0.mk hR
     clear hR
     go_wp2_with ((with_reducible refine gate_builtin (b := .append) (xs := #[.tmp 65, .tmp 67]) rfl ?_); at_builtin; refine app_event (w0 := w) w.heap.size rfl (.tmp 65) (.tmp 67) rfl _ (upM (cauchyM (X.take i) Y)) A9 c9 (Poly.up (cauchyR a Y)) rfl rfl HS.out HBQ.out HR'.out ?aB ?aS HSL.out ?_; (case aB => exact below_step HBR.out HBQ.out); (case aS => exact HBR.out.size); intro A10 c10 w2 hS2 hB2 _; rw [← eM.out] at hS2; have HS2 := Aside0.mk hS2; have HB2 := Aside0.mk hB2; clear hS2 hB2)
     go_roundg ((Poly.up X).length - (i + 1))
     case measure => omega
     case rel => exact ⟨i + 1, by omega, by omega, by go_num, HS2, HB2⟩
  ·obtain rfl : i = (Poly.up X).length := by omega
   have hS := HS.out
   rw [HXL.out, List.take_length] at hS
   have HS' := Aside0.mk hS
   clear hS
   go_wp2
   go_ret2
   exact ⟨_, rfl, HS'.out, HBR.out⟩

/-- The numbers m, m + 1, .., n of them. -/
def marks (m n : Nat) : List Int := (List.range n).map fun j => ((m + j : Nat) : Int)
theorem marks_length (m n : Nat) : (marks m n).length = n := by simp [marks]
theorem marks_succ (m n : Nat) : marks m (n + 1) = marks m n ++ [((m + n : Nat) : Int)] := by simp [marks, List.range_succ]
theorem marks_get (m n i : Nat) (h : i < (marks m n).length) : (marks m n)[i] = ((m + i : Nat) : Int) := by simp [marks]

/-- All places numbered from a on. -/
def marksS : Nat → List (List Int) → List (List Int)
 | _, [] => []
 | a, r :: m => marks a r.length :: marksS (a + r.length) m
def tot : List (List Int) → Nat
 | [] => 0
 | r :: m => r.length + tot m
theorem marksS_length : ∀ (a : Nat) (m : List (List Int)), (marksS a m).length = m.length
 | _, [] => rfl
 | a, r :: m => by simp only [marksS, List.length_cons, marksS_length]
theorem tot_append : ∀ (l m : List (List Int)), tot (l ++ m) = tot l + tot m
 | [], m => by simp [tot]
 | r :: l, m => by simp only [List.cons_append, tot, tot_append l m]; omega
theorem tot_take (m : List (List Int)) (i : Nat) : tot (m.take i) ≤ tot m := by
 have := tot_append (m.take i) (m.drop i)
 rw [List.take_append_drop] at this; omega
theorem tot_succ (m : List (List Int)) (i : Nat) (h : i < m.length) : tot (m.take (i + 1)) = tot (m.take i) + m[i].length := by
 rw [List.take_succ_eq_append_getElem h, tot_append]
 simp [tot]
theorem marksS_append : ∀ (a : Nat) (l m : List (List Int)), marksS a (l ++ m) = marksS a l ++ marksS (a + tot l) m
 | a, [], m => by simp [marksS, tot]
 | a, r :: l, m => by simp only [List.cons_append, marksS, tot, marksS_append (a + r.length) l m, Nat.add_assoc]
theorem tot_marksS : ∀ (a : Nat) (m : List (List Int)), tot (marksS a m) = tot m
 | _, [] => rfl
 | a, r :: m => by simp only [marksS, tot, marks_length, tot_marksS]
theorem tot_le : ∀ {m : List (List Int)} {b : Nat}, (∀ r ∈ m, r.length ≤ b) → tot m ≤ m.length * b
 | [], _, _ => by simp [tot]
 | r :: m, b, h => by
  have h1 := h r List.mem_cons_self
  have h2 := tot_le (m := m) (fun x hx => h x (List.mem_cons_of_mem _ hx))
  simp only [tot, List.length_cons, Nat.succ_mul]; omega
theorem marksS_get : ∀ (a : Nat) (m : List (List Int)) (i : Nat) (h : i < m.length) (h' : i < (marksS a m).length), (marksS a m)[i] = marks (a + tot (m.take i)) m[i].length
 | a, r :: m, 0, _, _ => by simp [marksS, tot]
 | a, r :: m, i + 1, h, h' => by
  simp only [marksS, List.getElem_cons_succ, List.take_succ_cons, tot]
  rw [marksS_get (a + r.length) m i (by simpa using h)]
  rw [Nat.add_assoc]

theorem rows_len {w : World} {A : Option Addr} {n : Nat} {E : TypeId} {xs : List (List Int)} (h : Kd.C (Kd.slice E (Kd.int .i64)) w A n xs) : xs.length ≤ 9223372036854775807 ∧ ∀ r ∈ xs, r.length ≤ 9223372036854775807 := by
 have hn := h.1
 have hm := h.2.1
 refine ⟨by omega, fun r hr => ?_⟩
 obtain ⟨i, hi, rfl⟩ := List.getElem_of_mem hr
 obtain ⟨_, _, _, _, _, _, hC⟩ := Mx.rows_at h i (by omega) hi
 have := hC.2.1
 have := hC.1
 omega
theorem small_rows {m : List (List Int)} (h : m.length + tot m ≤ 1048576) : m.length ≤ 1048576 ∧ (∀ r ∈ m, r.length ≤ 1048576) ∧ tot m ≤ 1048576 := by
 have ht : ∀ (l : List (List Int)), ∀ r ∈ l, r.length ≤ tot l := by
  intro l
  induction l with
  | nil => intro r hr; cases hr
  | cons x l ih =>
   intro r hr
   rcases List.mem_cons.1 hr with rfl | hr
   ·simp only [tot]; omega
   ·have := ih r hr; simp only [tot]; omega
 exact ⟨by omega, fun r hr => by have := ht m r hr; omega, by omega⟩
theorem le_small {m : List (List Int)} {k : Nat} (h : m.length ≤ k ∧ ∀ r ∈ m, r.length ≤ k) (hk : k ≤ 1000 := by decide) : m.length ≤ 1000 ∧ ∀ r ∈ m, r.length ≤ 1000 := ⟨by omega, fun r hr => by have := h.2 r hr; omega⟩

theorem set_same {α : Type} {l : List α} {j : Nat} {x : α} (h : l[j]? = some x) : l.set j x = l := by
 apply List.ext_getElem?
 intro i
 by_cases e : j = i
 ·subst e; rw [Env.set_at h, h]
 ·rw [List.getElem?_set_ne e]
set_option maxHeartbeats 4000000 in
theorem l2swap_e {w0 w : World} {L : List (Value × Env.It)} (E : Env.Env 22 3 w0 w L) (j : Nat) {A : Option Addr} {c : Nat} {m : List (List Nat)} (hj : L[j]? = some (.slice A m.length c, .mat (upM m))) {a b : Nat} (ha : a < m.length) (hb : b < m.length) :
  Calls Try.prog 90 #[.slice A m.length c, .int .i64 (a : Int), .int .i64 (b : Int)] w fun e w' => e = .returned (.tuple #[]) ∧ Env.Env 22 3 w0 w' (L.set j (.slice A m.length c, .mat (upM (Mat.swp m a b)))) := by
 obtain ⟨g, Aa, ca, Ab, cb, hA', hca, hfa, hcb, hfb, hsw⟩ := E.mswap (by decide) hj (a := a) (b := b) (by rw [upM_length]; exact ha) (by rw [upM_length]; exact hb)
 subst hA'
 rw [upM_getD] at hca
 rw [upM_getD] at hcb
 rw [upM_getD, upM_getD, upM_set, upM_set] at hsw
 have HSW := Aside0.mk (show Env.Env 22 3 w0 _ (L.set j (.slice (some ⟨g, 0, none⟩) m.length c, .mat (upM (Mat.swp m a b)))) from hsw)
 generalize m.getD a [] = ra at hca HSW
 generalize m.getD b [] = rb at hcb HSW
 have i1 : ((a : Int) < (m.length : Int)) = True := eq_true (by omega)
 have i2 : ((b : Int) < (m.length : Int)) = True := eq_true (by omega)
 have i3 : (0 ≤ (a : Int)) = True := eq_true (by omega)
 have i4 : (0 ≤ (b : Int)) = True := eq_true (by omega)
 have i5 : (a < m.length) = True := eq_true ha
 have i6 : (b < m.length) = True := eq_true hb
 have hcb2 : (w.setCell ⟨g, a, none⟩ (.slice Ab (Poly.up rb).length cb)).cell? ⟨g, b, none⟩ = some (.slice Ab (Poly.up rb).length cb) := Env.cell_both hcb
 clear hsw
 go_enter Try.func90, Try.ntmps90
 go_wp2
 refine bodyPost_end (results_none rfl _ _ _) rfl ?_
 exact ⟨rfl, HSW.out⟩
set_option maxHeartbeats 8000000 in
theorem l2scale_e {w0 w : World} {L : List (Value × Env.It)} (E : Env.Env 22 3 w0 w L) (j : Nat) {g c : Nat} {m : List (List Nat)} (hj : L[j]? = some (.slice (some ⟨g, 0, none⟩) m.length c, .mat (upM m))) {cc : Nat} (hm : Mat.MB' cc m) (hc : cc ≤ 100) {i : Nat} (hi : i < m.length) {gu cu : Nat} (hh : w.cell? ⟨g, i, none⟩ = some (.slice (some ⟨gu, 0, none⟩) cc cu)) (x : Nat) (hx : x < 256) :
  Calls Try.prog 91 #[.slice (some ⟨gu, 0, none⟩) cc cu, .int .i64 (x : Int)] w fun e w' => e = .returned (.tuple #[]) ∧ Env.Env 22 3 w0 w' (L.set j (.slice (some ⟨g, 0, none⟩) m.length c, .mat (upM (m.set i (Mat.rscale (Gf.gi x) (m.getD i [])))))) := by
 obtain ⟨R, hR⟩ : ∃ R, R = m.getD i [] := ⟨_, rfl⟩
 rw [← hR]
 have HRB := Aside0.mk (show R.length = cc ∧ Poly.AllB R from by rw [hR]; exact hm.get hi)
 have HSZ := Aside0.mk (show cc ≤ 100 ∧ x < 256 from ⟨hc, hx⟩)
 have HJ := Aside0.mk (show ∀ Z, (L.set j (.slice (some ⟨g, 0, none⟩) m.length c, .mat (upM Z)))[j]? = some (.slice (some ⟨g, 0, none⟩) m.length c, Env.It.mat (upM Z)) from fun Z => Env.set_at hj)
 have HE := Aside0.mk (show Env.Env 22 3 w0 w (L.set j (.slice (some ⟨g, 0, none⟩) m.length c, .mat (upM (m.set i (Mat.rscaleTo (Gf.gi x) R 0))))) from by rw [Mat.rscaleTo_zero, hR, Mat.set_self, set_same hj]; exact E)
 have HH := Aside0.mk hh
 have HIL := Aside0.mk hi
 clear E hR hm hc hx hj hh hi
 go_enter Try.func91, Try.ntmps91
 go_wp2
 go_loopg [8] cc (fun gg s8 wq => ∃ q : Nat, q ≤ cc ∧ cc - q ≤ gg ∧ s8 = .int .i64 q ∧ Aside0 (Env.Env 22 3 w0 wq (L.set j (.slice (some ⟨g, 0, none⟩) m.length c, .mat (upM (m.set i (Mat.rscaleTo (Gf.gi x) R q)))))) ∧ Aside0 (wq.cell? ⟨g, i, none⟩ = some (.slice (some ⟨gu, 0, none⟩) cc cu)))
 case atStart => exact ⟨0, Nat.zero_le _, by omega, rfl, HE, HH⟩
 case round =>
  clear HE HH
  obtain ⟨q, hq', hgq, rfl, HSQ, HHK⟩ := hrel
  have x0 : (0 : Int) ≤ (q : Int) := by omega
  have x1 : (q : Int) ≤ 100 := by have := HSZ.out; omega
  by_cases hqc : q < cc
  ·have hqR : q < R.length := by rw [HRB.out.1]; exact hqc
   have hYl : (m.set i (Mat.rscaleTo (Gf.gi x) R q)).length = m.length := List.length_set
   have hYi : (m.set i (Mat.rscaleTo (Gf.gi x) R q)).getD i [] = Mat.rscaleTo (Gf.gi x) R q := by rw [Mat.getD_setL _ _ _ _ HIL.out, if_pos rfl]
   have hrl2 : (Poly.up (Mat.rscaleTo (Gf.gi x) R q)).length = cc := by rw [Poly.up_length, Mat.rscaleTo_length, HRB.out.1]
   obtain ⟨g', gu', cu', hA', hh, _, hx, _, hput⟩ := HSQ.out.mput2 (by decide) (HJ.out _) (i := i) (q := q) (by rw [upM_length, hYl]; exact HIL.out) (by rw [upM_getD, hYi, hrl2]; exact hqc)
   injection hA' with hA'
   injection hA' with hA'
   subst hA'
   rw [upM_getD, hYi, hrl2] at hh
   have hne := HSQ.out.mne (by decide) (HJ.out _) (i := i) (by rw [upM_length, hYl]; exact HIL.out) hh
   have hk2 := hh.symm.trans HHK.out
   injection hk2 with hk2
   injection hk2 with hk3 _ hk4
   injection hk3 with hk3
   injection hk3 with hk3
   subst hk3 hk4
   rw [upM_getD, hYi, Poly.rd_up, Mat.rscaleTo_at _ hqR] at hx
   have hyb : R.getD q 0 < 256 := Poly.AllB.get HRB.out.2 q
   have hset : (upM (m.set i (Mat.rscaleTo (Gf.gi x) R q))).set i ((Poly.up (Mat.rscaleTo (Gf.gi x) R q)).set q ((Gf.gm (R.getD q 0) (Gf.gi x) : Nat) : Int)) = upM (m.set i (Mat.rscaleTo (Gf.gi x) R (q + 1))) := by rw [Poly.up_set, Mat.rscaleTo_succ _ hqR, upM_set, List.set_set]
   have hput2 : ∀ W, Below wr.heap.size wr W → (∃ v, W.cell? ⟨gu', q, none⟩ = some v) ∧ W.frozen? ⟨gu', q, none⟩ = false ∧ Env.Env 22 3 w0 (W.setCell ⟨gu', q, none⟩ (.int .i64 ((Gf.gm (R.getD q 0) (Gf.gi x) : Nat) : Int))) (L.set j (.slice (some ⟨g, 0, none⟩) m.length c, .mat (upM (m.set i (Mat.rscaleTo (Gf.gi x) R (q + 1)))))) ∧ (W.setCell ⟨gu', q, none⟩ (.int .i64 ((Gf.gm (R.getD q 0) (Gf.gi x) : Nat) : Int))).cell? ⟨g, i, none⟩ = some (.slice (some ⟨gu', 0, none⟩) cc cu') := fun W hW => by
    have h8 := hput W hW
    have h9 := h8.2.2 ((Gf.gm (R.getD q 0) (Gf.gi x) : Nat) : Int)
    rw [upM_getD, hYi, hset, List.set_set] at h9
    exact ⟨⟨_, h8.1⟩, h8.2.1, h9, Env.cell_far (pw_cell_below hW hh) hne⟩
   have HPW := Aside0.mk hput2
   obtain ⟨K2, h2⟩ := (spec_l1Div_ev (R.getD q 0) x hyb HSZ.out.2).rounds
   have HK2 := Aside0.mk h2
   have j1 : ((q : Int) < (cc : Int)) = True := eq_true (by omega)
   have j2 : (q < cc) = True := eq_true hqc
   generalize R.getD q 0 = y at hx HPW HK2
   clear hput hput2 hset hyb h2 hh hne hqR hrl2 hYl hYi HHK HSQ
   go_wp2_with (go_at_call 53; refine (spec_l1Div.calls K2 (y : Int) (x : Int) _ _ HK2.out).mono ?_; rintro e w4 ⟨rfl, hd4⟩; obtain ⟨⟨v4, hv4⟩, hf4, hE4, hC4⟩ := HPW.out w4 hd4.below; have HE4 := Aside0.mk hE4; have HC4 := Aside0.mk hC4; clear hE4 hC4 hd4)
   go_roundg (cc - (q + 1))
   case measure => omega
   case rel => exact ⟨q + 1, by omega, by omega, by go_num, HE4, HC4⟩
  ·have j1 : ((q : Int) < (cc : Int)) = False := eq_false (by omega)
   have hqe : q = R.length := by rw [HRB.out.1]; omega
   have HE6 := Aside0.mk (show Env.Env 22 3 w0 wr (L.set j (.slice (some ⟨g, 0, none⟩) m.length c, .mat (upM (m.set i (Mat.rscale (Gf.gi x) R))))) from by
    have h9 := HSQ.out
    rw [hqe, Mat.rscaleTo_all] at h9
    exact h9)
   clear hqe HSQ HHK
   go_wp2
   refine bodyPost_end (results_none rfl _ _ _) rfl ?_
   exact ⟨rfl, HE6.out⟩
def T_sa3 : Bool × List (List Nat × List Nat) := (true, [([], []), ([], []), ([0, 1], [0, 1]), ([2], [2]), ([], []), ([], []), ([4, 5], [4, 5]), ([3, 6], [3, 6]), ([0, 1, 0, 1, 2, 3, 4, 5, 6, 7], [0, 1]), ([8, 7, 6, 0, 1, 2, 3, 4, 5, 6, 7], [7, 8])])
def B_sa3 : List Nat := [0, 0, 3, 7, 0, 0, 48, 127, 255, 511]
theorem tab_sa3 : rtab .any (opsOf Try.f92 3) = T_sa3 := by kernel_rfl
theorem bits_sa3 : waitsOk T_sa3.2 B_sa3 = true := by kernel_rfl
set_option maxHeartbeats 8000000 in
set_option maxRecDepth 100000 in
theorem l2addM_e {w0 w : World} {L : List (Value × Env.It)} (E : Env.Env 22 3 w0 w L) (j : Nat) {g c : Nat} {m : List (List Nat)} (hj : L[j]? = some (.slice (some ⟨g, 0, none⟩) m.length c, .mat (upM m))) {cc : Nat} (hm : Mat.MB' cc m) (hc : cc ≤ 100) {i r : Nat} (hi : i < m.length) (hr : r < m.length) (hir : ¬ i = r) {gu cu gt ct : Nat} (hh : w.cell? ⟨g, i, none⟩ = some (.slice (some ⟨gu, 0, none⟩) cc cu)) (ht : w.cell? ⟨g, r, none⟩ = some (.slice (some ⟨gt, 0, none⟩) cc ct)) (x : Nat) (hx : x < 256) :
  Calls Try.prog 92 #[.slice (some ⟨gu, 0, none⟩) cc cu, .slice (some ⟨gt, 0, none⟩) cc ct, .int .i64 (x : Int)] w fun e w' => e = .returned (.tuple #[]) ∧ Env.Env 22 3 w0 w' (L.set j (.slice (some ⟨g, 0, none⟩) m.length c, .mat (upM (m.set i (Mat.radd x (m.getD i []) (m.getD r [])))))) := by
 obtain ⟨R, hR⟩ : ∃ R, R = m.getD i [] := ⟨_, rfl⟩
 obtain ⟨T, hT⟩ : ∃ T, T = m.getD r [] := ⟨_, rfl⟩
 rw [← hR, ← hT]
 have HRB := Aside0.mk (show R.length = cc ∧ Poly.AllB R from by rw [hR]; exact hm.get hi)
 have HTB := Aside0.mk (show T.length = cc ∧ Poly.AllB T from by rw [hT]; exact hm.get hr)
 have HSZ := Aside0.mk (show cc ≤ 100 ∧ x < 256 from ⟨hc, hx⟩)
 have HJ := Aside0.mk (show ∀ Z, (L.set j (.slice (some ⟨g, 0, none⟩) m.length c, .mat (upM Z)))[j]? = some (.slice (some ⟨g, 0, none⟩) m.length c, Env.It.mat (upM Z)) from fun Z => Env.set_at hj)
 have HE := Aside0.mk (show Env.Env 22 3 w0 w (L.set j (.slice (some ⟨g, 0, none⟩) m.length c, .mat (upM (m.set i (Mat.raddTo x R T 0))))) from by rw [Mat.raddTo_zero, hR, Mat.set_self, set_same hj]; exact E)
 have HH := Aside0.mk hh
 have HT := Aside0.mk ht
 have HIL := Aside0.mk hi
 have HRL := Aside0.mk hr
 have HYR := Aside0.mk (show ∀ X, (m.set i X).getD r [] = T from fun X => by rw [Mat.getD_setL _ _ _ _ hi, if_neg (fun h => hir h.symm), hT])
 clear E hR hT hm hc hx hj hh ht hi hr hir
 go_enter Try.func92, Try.ntmps92
 go_wp2
 go_loopg [10] cc (fun gg s10 wq => ∃ q : Nat, q ≤ cc ∧ cc - q ≤ gg ∧ s10 = .int .i64 q ∧ Aside0 (Env.Env 22 3 w0 wq (L.set j (.slice (some ⟨g, 0, none⟩) m.length c, .mat (upM (m.set i (Mat.raddTo x R T q)))))) ∧ Aside0 (wq.cell? ⟨g, i, none⟩ = some (.slice (some ⟨gu, 0, none⟩) cc cu)) ∧ Aside0 (wq.cell? ⟨g, r, none⟩ = some (.slice (some ⟨gt, 0, none⟩) cc ct)))
 case atStart => exact ⟨0, Nat.zero_le _, by omega, rfl, HE, HH, HT⟩
 case round =>
  clear HE HH HT
  obtain ⟨q, hq', hgq, rfl, HSQ, HHK, HTK⟩ := hrel
  have x0 : (0 : Int) ≤ (q : Int) := by omega
  have x1 : (q : Int) ≤ 100 := by have := HSZ.out; omega
  have hRT : R.length = T.length := by rw [HRB.out.1, HTB.out.1]
  by_cases hqc : q < cc
  ·have hqR : q < R.length := by rw [HRB.out.1]; exact hqc
   have hYl : (m.set i (Mat.raddTo x R T q)).length = m.length := List.length_set
   have hYi : (m.set i (Mat.raddTo x R T q)).getD i [] = Mat.raddTo x R T q := by rw [Mat.getD_setL _ _ _ _ HIL.out, if_pos rfl]
   have hrl2 : (Poly.up (Mat.raddTo x R T q)).length = cc := by rw [Poly.up_length, Mat.raddTo_length hRT, HRB.out.1]
   have HQ := HSQ.out.drewN 1
   obtain ⟨g', gu', cu', hA', hh, _, hx, _, hput⟩ := HQ.mput2 (by decide) (HJ.out _) (i := i) (q := q) (by rw [upM_length, hYl]; exact HIL.out) (by rw [upM_getD, hYi, hrl2]; exact hqc)
   injection hA' with hA'
   injection hA' with hA'
   subst hA'
   rw [upM_getD, hYi, hrl2] at hh
   have hne := HQ.mne (by decide) (HJ.out _) (i := i) (by rw [upM_length, hYl]; exact HIL.out) hh
   have hk2 := hh.symm.trans HHK.out
   injection hk2 with hk2
   injection hk2 with hk3 _ hk4
   injection hk3 with hk3
   injection hk3 with hk3
   subst hk3 hk4
   rw [upM_getD, hYi, Poly.rd_up, Mat.raddTo_at hRT hqR] at hx
   obtain ⟨g', gt', ct', hA', ht, _, htx, _, _⟩ := HQ.mput2 (by decide) (HJ.out _) (i := r) (q := q) (by rw [upM_length, hYl]; exact HRL.out) (by rw [upM_getD, HYR.out, Poly.up_length, HTB.out.1]; exact hqc)
   injection hA' with hA'
   injection hA' with hA'
   subst hA'
   rw [upM_getD, HYR.out, Poly.up_length, HTB.out.1] at ht
   have hk2 := ht.symm.trans HTK.out
   injection hk2 with hk2
   injection hk2 with hk3 _ hk4
   injection hk3 with hk3
   injection hk3 with hk3
   subst hk3 hk4
   rw [upM_getD, HYR.out, Poly.rd_up] at htx
   have hyb : R.getD q 0 < 256 := Poly.AllB.get HRB.out.2 q
   have htb : T.getD q 0 < 256 := Poly.AllB.get HTB.out.2 q
   have hxr := xor_up hyb (Gf.gm_lt (T.getD q 0) HSZ.out.2)
   have hset : (upM (m.set i (Mat.raddTo x R T q))).set i ((Poly.up (Mat.raddTo x R T q)).set q (Go.bits .xor .i64 ((R.getD q 0 : Nat) : Int) ((Gf.gm x (T.getD q 0) : Nat) : Int))) = upM (m.set i (Mat.raddTo x R T (q + 1))) := by rw [hxr, Poly.up_set, Mat.raddTo_succ hRT hqR, upM_set, List.set_set]
   have hput2 : ∀ W, Below wr.drew.heap.size wr.drew W → (∃ v, W.cell? ⟨gu', q, none⟩ = some v) ∧ W.frozen? ⟨gu', q, none⟩ = false ∧ Env.Env 22 3 w0 (W.setCell ⟨gu', q, none⟩ (.int .i64 (Go.bits .xor .i64 ((R.getD q 0 : Nat) : Int) ((Gf.gm x (T.getD q 0) : Nat) : Int)))) (L.set j (.slice (some ⟨g, 0, none⟩) m.length c, .mat (upM (m.set i (Mat.raddTo x R T (q + 1)))))) ∧ (W.setCell ⟨gu', q, none⟩ (.int .i64 (Go.bits .xor .i64 ((R.getD q 0 : Nat) : Int) ((Gf.gm x (T.getD q 0) : Nat) : Int)))).cell? ⟨g, i, none⟩ = some (.slice (some ⟨gu', 0, none⟩) cc cu') ∧ (W.setCell ⟨gu', q, none⟩ (.int .i64 (Go.bits .xor .i64 ((R.getD q 0 : Nat) : Int) ((Gf.gm x (T.getD q 0) : Nat) : Int)))).cell? ⟨g, r, none⟩ = some (.slice (some ⟨gt', 0, none⟩) cc ct') := fun W hW => by
    have h8 := hput W hW
    have h9 := h8.2.2 (Go.bits .xor .i64 ((R.getD q 0 : Nat) : Int) ((Gf.gm x (T.getD q 0) : Nat) : Int))
    rw [upM_getD, hYi, hset, List.set_set] at h9
    exact ⟨⟨_, h8.1⟩, h8.2.1, h9, Env.cell_far (pw_cell_below hW hh) hne, Env.cell_far (pw_cell_below hW ht) hne⟩
   have HPW := Aside0.mk hput2
   obtain ⟨K2, h2⟩ := (spec_l1Mul_ev (T.getD q 0) x htb HSZ.out.2).rounds
   rw [Gf.gm_comm htb HSZ.out.2] at h2
   have HK2 := Aside0.mk h2
   have j1 : ((q : Int) < (cc : Int)) = True := eq_true (by omega)
   have j2 : (q < cc) = True := eq_true hqc
   have hx0 : wr.drew.cell? ⟨gu', q, none⟩ = some (.int .i64 ((R.getD q 0 : Nat) : Int)) := hx
   have htw : wr.cell? ⟨gt', q, none⟩ = some (.int .i64 ((T.getD q 0 : Nat) : Int)) := htx
   generalize R.getD q 0 = y at hx0 HPW
   generalize T.getD q 0 = z at htw HPW HK2
   clear hput hput2 hset hxr hyb htb h2 hh hx ht htx hne HQ hqR hrl2 hRT hYl hYi HHK HTK HSQ
   go_wp2_with fail
   refine start_ (n := 10) (S := fun w' => w'.cell? ⟨gu', q, none⟩ = some (.int .i64 (y : Int))) (ds := [9]) #[false, false, false, false, false, false, false, false, false, false] (by kernel_rfl) rfl rfl (hx0) (fun hHeld => ?_); refine with_tabW tab_sa3 bits_sa3 (fun HT_ HW_ => ?_)
   generalize wr.drew = w5 at HPW hx0 hHeld ⊢
   refine pure_ (i := 0) (N := some 15) (v := ?_) (a' := ?_) #[true, false, false, false, false, false, false, false, false, false] rfl rfl (any_of HT_.out (by kernel_rfl)) (fun _ _ _ h => h) (Or.inl ⟨by rfl, ?_⟩) ?_ ?_
   rotate_left
   ·intro w'
    go_simp
    with_reducible rfl
   rotate_left
   ·simp only [Act.put, List.setIfInBounds_toArray, List.set_cons_zero, List.set_cons_succ, i64_w, i32_w]
    rfl
   refine pure_ (i := 1) (N := some 16) (v := ?_) (a' := ?_) #[true, true, false, false, false, false, false, false, false, false] rfl rfl (any_of HT_.out (by kernel_rfl)) (fun _ _ _ h => h) (Or.inl ⟨by rfl, ?_⟩) ?_ ?_
   rotate_left
   ·intro w'
    go_simp
    with_reducible rfl
   rotate_left
   ·simp only [Act.put, List.setIfInBounds_toArray, List.set_cons_zero, List.set_cons_succ, i64_w, i32_w]
    rfl
   refine pure_ (i := 2) (N := some 17) (v := ?_) (a' := ?_) #[true, true, true, false, false, false, false, false, false, false] rfl rfl (any_of HT_.out (by kernel_rfl)) (fun _ _ _ h => h) (Or.inl ⟨by rfl, ?_⟩) ?_ ?_
   rotate_left
   ·intro w'
    go_simp
    with_reducible rfl
   rotate_left
   ·simp only [Act.put, List.setIfInBounds_toArray, List.set_cons_zero, List.set_cons_succ, i64_w, i32_w]
    rfl
   refine pure_ (i := 4) (N := some 19) (v := ?_) (a' := ?_) #[true, true, true, false, true, false, false, false, false, false] rfl rfl (any_of HT_.out (by kernel_rfl)) (fun _ _ _ h => h) (Or.inl ⟨by rfl, ?_⟩) ?_ ?_
   rotate_left
   ·intro w'
    go_simp
    with_reducible rfl
   rotate_left
   ·simp only [Act.put, List.setIfInBounds_toArray, List.set_cons_zero, List.set_cons_succ, i64_w, i32_w]
    rfl
   refine pure_ (i := 5) (N := some 20) (v := ?_) (a' := ?_) #[true, true, true, false, true, true, false, false, false, false] rfl rfl (any_of HT_.out (by kernel_rfl)) (fun _ _ _ h => h) (Or.inl ⟨by rfl, ?_⟩) ?_ ?_
   rotate_left
   ·intro w'
    go_simp
    with_reducible rfl
   rotate_left
   ·simp only [Act.put, List.setIfInBounds_toArray, List.set_cons_zero, List.set_cons_succ, i64_w, i32_w]
    rfl
   refine take_ (i := 3) (N := some 18) (v := ?_) (a' := ?_) #[true, true, true, true, true, true, false, false, false, false] rfl rfl (take_ofW HT_.out HW_.out (by kernel_rfl)) (fun _ _ _ h => h) (Or.inl ⟨by rfl, ?_⟩) hHeld ?_ ?_
   rotate_left
   ·intro w' s0
    go_simp
    with_reducible rfl
   rotate_left
   ·simp only [Act.put, List.setIfInBounds_toArray, List.set_cons_zero, List.set_cons_succ, i64_w, i32_w]
    rfl
   refine one_ (i := 6) (N := some 21) #[true, true, true, true, true, true, true, false, false, false] rfl rfl (one_of HT_.out (by kernel_rfl)) (by decide) (fun K hK => ?_)
   refine goes_ Try.func65 (by kernel_rfl) rfl #[.int .i64 (z : Int), .int .i64 (x : Int)] (by rfl) rfl rfl (by (try simp only [List.map_toArray, List.map_cons, List.map_nil]); first | done | rfl | (simp only [List.length_drop, List.length_take]; rfl)) ?_
   refine (spec_l1Mul.calls K2 (z : Int) (x : Int) _ _ HK2.out).mono ?_
   rintro e w4 ⟨rfl, hd4⟩
   refine ⟨_, rfl, ?_⟩
   obtain ⟨⟨v4, hv4⟩, hf4, hE4, hC4, hD4⟩ := HPW.out w4 hd4.below
   have HE4 := Aside0.mk hE4
   have HC4 := Aside0.mk hC4
   have HD4 := Aside0.mk hD4
   have hS4 := pw_cell_below hd4.below hx0
   clear hE4 hC4 hD4 hd4 HPW HK2 hx0 htw
   refine hK.out _ _ hS4 (fun hHeld => ?_)
   clear hK K hS4
   refine norm_ (a' := ?_) ?_ ?_
   rotate_left
   ·show Act.put _ (some 21) _ = _
    simp only [Act.put, List.setIfInBounds_toArray, List.set_cons_zero, List.set_cons_succ, i64_w, i32_w]
    rfl
   refine pure_ (i := 7) (N := some 22) (v := ?_) (a' := ?_) #[true, true, true, true, true, true, true, true, false, false] rfl rfl (any_of HT_.out (by kernel_rfl)) (fun _ _ _ h => h) (Or.inl ⟨by rfl, ?_⟩) ?_ ?_
   rotate_left
   ·intro w'
    go_simp
    with_reducible rfl
   rotate_left
   ·simp only [Act.put, List.setIfInBounds_toArray, List.set_cons_zero, List.set_cons_succ, i64_w, i32_w]
    rfl
   refine pure_ (i := 8) (N := some 23) (v := ?_) (a' := ?_) #[true, true, true, true, true, true, true, true, true, false] rfl rfl (any_of HT_.out (by kernel_rfl)) (fun _ _ _ h => h) (Or.inl ⟨by rfl, ?_⟩) ?_ ?_
   rotate_left
   ·intro w'
    go_simp
    with_reducible rfl
   rotate_left
   ·simp only [Act.put, List.setIfInBounds_toArray, List.set_cons_zero, List.set_cons_succ, i64_w, i32_w]
    rfl
   refine last_ (i := 9) (N := none) #[true, true, true, true, true, true, true, true, true, true] rfl rfl (one_of HT_.out (by kernel_rfl)) (by decide) (fun K hK => ?_)
   refine skip_ (w1 := ?_) (by rfl) rfl ?_ ?_
   rotate_left
   ·go_simp
    rfl
   refine hK.out _ _ ?_
   clear hK K
   refine done_ (done_of HT_.out (by kernel_rfl)) ?_
   go_wp2
   go_roundg (cc - (q + 1))
   case measure => omega
   case rel => exact ⟨q + 1, by omega, by omega, by go_num, HE4, HC4, HD4⟩
  ·have j1 : ((q : Int) < (cc : Int)) = False := eq_false (by omega)
   have hqe : q = R.length := by rw [HRB.out.1]; omega
   have HE6 := Aside0.mk (show Env.Env 22 3 w0 wr (L.set j (.slice (some ⟨g, 0, none⟩) m.length c, .mat (upM (m.set i (Mat.radd x R T))))) from by
    have h9 := HSQ.out
    rw [hqe, Mat.raddTo_all hRT] at h9
    exact h9)
   clear hqe hRT HSQ HHK HTK
   go_wp2
   refine bodyPost_end (results_none rfl _ _ _) rfl ?_
   exact ⟨rfl, HE6.out⟩

end Go.Proofs.Ytafijkfhjmdffaa.Pure
