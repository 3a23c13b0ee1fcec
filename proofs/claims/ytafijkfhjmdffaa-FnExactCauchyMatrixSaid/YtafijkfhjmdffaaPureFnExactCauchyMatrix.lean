/- CauchyMatrix answers as the reference's CauchyMatrix does, turns nothing that it was handed, and answers in memory of its own: the walk of the law. No conditions beyond the row's own. -/
import Derived.Test.YtafijkfhjmdffaaMFnExactCauchyMatrixx3
import Derived.Test.YtafijkfhjmdffaaMFnExactCauchyMatrixx0
import Derived.Test.YtafijkfhjmdffaaMFnExactCauchyMatrixx1
import Derived.Test.YtafijkfhjmdffaaMFnExactCauchyMatrixx2
import Derived.Test.YtafijkfhjmdffaaBit
import Derived.Test.YtafijkfhjmdffaaPoly
import Derived.Test.YtafijkfhjmdffaaMat
import Derived.Test.YtafijkfhjmdffaaMx
import Derived.Test.YtafijkfhjmdffaaEnv
import Derived.Test.YtafijkfhjmdffaaSrt
set_option linter.unusedVariables false
set_option linter.unusedSimpArgs false
namespace Go.Proofs.Ytafijkfhjmdffaa.Pure
open Go.RowKit Go.Proofs.Ytafijkfhjmdffaa Go.Proofs.Ytafijkfhjmdffaa.MFnExactCauchyMatrix Go.Proofs.YtafijkfhjmdffaaW.PrintWords Go.Proofs.YtafijkfhjmdffaaW.PrintLast Go.Proofs.Ytafijkfhjmdffaa.Bit

theorem impl_within_eq (a b c : Int) : impl_within.f a b c = some (decide (b ≤ a ∧ a ≤ c)) := by
  unfold impl_within.f
  by_cases h : a ≥ b
  · rw [if_pos h]; congr 1; simp [show b ≤ a from h]
  · rw [if_neg h]; congr 1; simp; omega

/-- Is a number an element? -/
def isB (a : Int) : Bool := decide (0 ≤ a ∧ a ≤ 255)
theorem isB_nat {a : Int} (h : isB a = true) : ∃ n : Nat, a = (n : Int) ∧ n < 256 := by
  simp only [isB, decide_eq_true_eq] at h
  exact ⟨a.toNat, by omega, by omega⟩
theorem isB_cast {n : Nat} (h : n < 256) : isB (n : Int) = true := by simp only [isB, decide_eq_true_eq]; omega

theorem impl_isGf_eq (a : Int) : impl_isGf.f a = some (isB a) := by
  unfold impl_isGf.f; rw [impl_within_eq]; rfl

theorem spec_l1In_eq (a b c : Int) : spec_l1In.f a b c = some (decide (b ≤ a ∧ a ≤ c)) := by
  unfold spec_l1In.f
  by_cases h : a ≥ b
  · rw [if_pos h]; congr 1; simp [show b ≤ a from h]
  · rw [if_neg h]; congr 1; simp; omega

theorem spec_l1Gf_eq (a : Int) : spec_l1Gf.f a = some (isB a) := by
  unfold spec_l1Gf.f; rw [spec_l1In_eq]; rfl

theorem rd_nat (l : List Int) (i : Nat) (h : i < l.length) : rd l (i : Int) = l[i] := by
  unfold rd
  simp [List.getD_eq_getElem?_getD, List.getElem?_eq_getElem h]
theorem wrap_succ (i : Nat) (h : i < 9223372036854775807) : wrap64 ((i : Int) + 1) = ((i + 1 : Nat) : Int) := by rw [wrap_id (by omega) (by omega)]; omega

theorem spec_l1Has_l0 (a : Int) (l : List Int) (hl : l.length ≤ 140737488351232) : ∀ (d i : Nat), i + d = l.length → Ev (fun k => spec_l1Has.l0 k a l (l.length : Int) (i : Int)) (decide (a ∈ l.drop i)) := by
  intro d
  induction d with
  | zero =>
    intro i hi
    obtain rfl : i = l.length := by omega
    have e : decide (a ∈ l.drop l.length) = false := by rw [List.drop_length]; rfl
    rw [e]
    exact Ev.step (f := fun _ => some false) (fun k => by rw [spec_l1Has.l0.eq_2, if_neg (by omega)]) (Ev.now _)
  | succ d ih =>
    intro i hi
    have hlt : i < l.length := by omega
    rw [List.drop_eq_getElem_cons hlt]
    by_cases e : l[i] = a
    · have e2 : decide (a ∈ l[i] :: l.drop (i + 1)) = true := decide_eq_true (by rw [e]; exact List.mem_cons_self)
      rw [e2]
      exact Ev.step (f := fun _ => some true) (fun k => by rw [spec_l1Has.l0.eq_2, if_pos (by omega), if_pos (by omega), if_pos (by omega), rd_nat l i hlt, if_pos e]) (Ev.now _)
    · have e2 : decide (a ∈ l[i] :: l.drop (i + 1)) = decide (a ∈ l.drop (i + 1)) := decide_eq_decide.2 (by rw [List.mem_cons]; exact ⟨fun h => h.resolve_left (fun h => e h.symm), .inr⟩)
      rw [e2]
      refine Ev.step (f := fun k => spec_l1Has.l0 k a l (l.length : Int) ((i + 1 : Nat) : Int)) (fun k => ?_) (ih (i + 1) (by omega))
      rw [spec_l1Has.l0.eq_2, if_pos (by omega), if_pos (by omega), if_pos (by omega), rd_nat l i hlt, if_neg e, wrap_succ i (by omega)]
theorem spec_l1Has_ev (l : List Int) (a : Int) (hl : l.length ≤ 140737488351232) : Ev (fun k => spec_l1Has.f k l a) (decide (a ∈ l)) := spec_l1Has_l0 a l hl l.length 0 (by omega)

theorem spec_l1Mul_l0 : ∀ (n a b o : Nat), a < 256 → o < 256 → b < 2 ^ n → b < 2 ^ 63 → Ev (fun k => spec_l1Mul.l0 k (a : Int) (b : Int) (o : Int)) ((Gf.gmA n a b o : Nat) : Int) := by
  have stop : ∀ a o : Nat, Ev (fun k => spec_l1Mul.l0 k (a : Int) ((0 : Nat) : Int) (o : Int)) ((o : Nat) : Int) := fun a o =>
    Ev.step (f := fun _ => some ((o : Nat) : Int)) (fun k => by simp only [spec_l1Mul.l0]; rw [if_neg (by omega)]) (Ev.now _)
  intro n
  induction n with
  | zero =>
    intro a b o ha ho hb _
    obtain rfl : b = 0 := by simpa using hb
    exact stop a o
  | succ n ih =>
    intro a b o ha ho hb hb63
    by_cases h0 : b = 0
    · subst h0
      rw [Gf.gmA_zero]
      exact stop a o
    · have e1 : wrap64 ((a : Int) * 2) = ((a * 2 : Nat) : Int) := by rw [wrap_id (by omega) (by omega)]; omega
      have e2 : Go.bits .xor .i64 ((a * 2 : Nat) : Int) 285 = (((a * 2) ^^^ 285 : Nat) : Int) := xor_nat (a := a * 2) (b := 285) (by omega) (by decide)
      have e3 : Go.bits .xor .i64 (o : Int) (a : Int) = ((o ^^^ a : Nat) : Int) := xor_nat (by omega) (by omega)
      have e4 := and_one (a := b) hb63
      refine Ev.step (f := fun k => spec_l1Mul.l0 k ((Gf.xt a : Nat) : Int) ((b / 2 : Nat) : Int) (((if b % 2 = 1 then o ^^^ a else o) : Nat) : Int)) (fun k => ?_) (ih _ _ _ (Gf.xt_lt a ha) ?_ (by rw [Nat.pow_succ] at hb; omega) (by omega))
      · simp only [spec_l1Mul.l0, e1, e2, e3, e4, half_nat, Gf.xt]
        rw [if_pos (show (b : Int) > 0 by omega)]
        by_cases h1 : b % 2 = 1 <;> by_cases h2 : 255 < a * 2
        · rw [if_pos (show ((b % 2 : Nat) : Int) = 1 by omega), if_pos h1, if_pos (by omega), if_pos h2]
        · rw [if_pos (show ((b % 2 : Nat) : Int) = 1 by omega), if_pos h1, if_neg (by omega), if_neg h2]
        · rw [if_neg (show ¬ ((b % 2 : Nat) : Int) = 1 by omega), if_neg h1, if_pos (by omega), if_pos h2]
        · rw [if_neg (show ¬ ((b % 2 : Nat) : Int) = 1 by omega), if_neg h1, if_neg (by omega), if_neg h2]
      · split
        · exact Gf.xor_byte ho ha
        · exact ho
theorem spec_l1Mul_ev (a b : Nat) (ha : a < 256) (hb : b < 256) : Ev (fun k => spec_l1Mul.f k (a : Int) (b : Int)) ((Gf.gm a b : Nat) : Int) :=
  spec_l1Mul_l0 8 a b 0 ha (by decide) hb (by omega)

theorem spec_l1Pow_l0 : ∀ (f a n o : Nat), a < 256 → o < 256 → n < 2 ^ f → n < 2 ^ 63 → Ev (fun k => spec_l1Pow.l0 k (a : Int) (n : Int) (o : Int)) ((Gf.pwA f a n o : Nat) : Int) := by
  have stop : ∀ a o : Nat, Ev (fun k => spec_l1Pow.l0 k (a : Int) ((0 : Nat) : Int) (o : Int)) ((o : Nat) : Int) := fun a o =>
    Ev.step (f := fun _ => some ((o : Nat) : Int)) (fun k => by simp only [spec_l1Pow.l0]; rw [if_neg (by omega)]) (Ev.now _)
  have z : ∀ f a o, Gf.pwA f a 0 o = o := by
    intro f
    induction f with
    | zero => intro a o; rfl
    | succ f ih => intro a o; exact ih _ _
  intro f
  induction f with
  | zero =>
    intro a n o ha ho hn _
    obtain rfl : n = 0 := by simpa using hn
    exact stop a o
  | succ f ih =>
    intro a n o ha ho hn hn63
    by_cases h0 : n = 0
    · subst h0
      rw [z]
      exact stop a o
    · have e4 := and_one (a := n) hn63
      have hsq := Gf.gm_lt a ha
      by_cases h1 : n % 2 = 1
      · refine Ev.step (f := fun k => (spec_l1Mul.f k (o : Int) (a : Int)).bind fun t => (spec_l1Mul.f k (a : Int) (a : Int)).bind fun u => spec_l1Pow.l0 k u ((n / 2 : Nat) : Int) t) (fun k => ?_) ?_
        · simp only [spec_l1Pow.l0, e4, half_nat]
          rw [if_pos (show (n : Int) > 0 by omega), if_pos (show ((n % 2 : Nat) : Int) = 1 by omega)]
        · have := ih (Gf.gm a a) (n / 2) (Gf.gm o a) hsq (Gf.gm_lt a ho) (by rw [Nat.pow_succ] at hn; omega) (by omega)
          show Ev _ ((Gf.pwA f (Gf.gm a a) (n / 2) (if n % 2 = 1 then Gf.gm o a else o) : Nat) : Int)
          rw [if_pos h1]
          exact Ev.bind (f := fun k t => (spec_l1Mul.f k (a : Int) (a : Int)).bind fun u => spec_l1Pow.l0 k u ((n / 2 : Nat) : Int) t) (spec_l1Mul_ev o a ho ha) (Ev.bind (f := fun k u => spec_l1Pow.l0 k u ((n / 2 : Nat) : Int) ((Gf.gm o a : Nat) : Int)) (spec_l1Mul_ev a a ha ha) this)
      · refine Ev.step (f := fun k => (spec_l1Mul.f k (a : Int) (a : Int)).bind fun u => spec_l1Pow.l0 k u ((n / 2 : Nat) : Int) (o : Int)) (fun k => ?_) ?_
        · simp only [spec_l1Pow.l0, e4, half_nat]
          rw [if_pos (show (n : Int) > 0 by omega), if_neg (show ¬ ((n % 2 : Nat) : Int) = 1 by omega)]
        · have := ih (Gf.gm a a) (n / 2) o hsq ho (by rw [Nat.pow_succ] at hn; omega) (by omega)
          show Ev _ ((Gf.pwA f (Gf.gm a a) (n / 2) (if n % 2 = 1 then Gf.gm o a else o) : Nat) : Int)
          rw [if_neg h1]
          exact Ev.bind (f := fun k u => spec_l1Pow.l0 k u ((n / 2 : Nat) : Int) (o : Int)) (spec_l1Mul_ev a a ha ha) this
theorem spec_l1Pow_ev (a n : Nat) (ha : a < 256) (hn : n < 2 ^ 62) : Ev (fun k => spec_l1Pow.f k (a : Int) (n : Int)) ((Gf.pw a n : Nat) : Int) := by
  have := spec_l1Pow_l0 62 a n 1 ha (by decide) hn (by omega)
  rw [Gf.pwA_eq 62 a n 1 ha (by decide) hn, Gf.one_gm _ (Gf.pw_lt n)] at this
  exact this

theorem spec_l1Div_ev (a b : Nat) (ha : a < 256) (hb : b < 256) : Ev (fun k => spec_l1Div.f k (a : Int) (b : Int)) ((Gf.gm a (Gf.gi b) : Nat) : Int) := by
  unfold spec_l1Div.f
  refine Ev.bind (f := fun k t => (spec_l1Mul.f k (a : Int) t).bind fun u => some u) (spec_l1Pow_ev b 254 hb (by decide)) ?_
  exact Ev.bind (f := fun _ u => some u) (spec_l1Mul_ev a (Gf.gi b) ha (Gf.gi_lt b)) (Ev.now _)

theorem rdL_nat (l : List (List Int)) (i : Nat) (h : i < l.length) : rd_L1 l (i : Int) = l[i] := by
  unfold rd_L1
  simp [List.getD_eq_getElem?_getD, List.getElem?_eq_getElem h]

theorem rd_get (l : List Int) (i : Nat) (h : i < l.length) : rd l (i : Int) = l[i] := by
  unfold rd
  simp [List.getD_eq_getElem?_getD, List.getElem?_eq_getElem h]
theorem wrap_up (i : Nat) (h : i < 9223372036854775807) : wrap64 ((i : Int) + 1) = ((i + 1 : Nat) : Int) := by rw [wrap_id (by omega) (by omega)]; omega
theorem wrap_down (a : Nat) (h : a ≤ 9223372036854775807) : wrap64 ((a : Int) - 1) = (a : Int) - 1 := wrap_id (by omega) (by omega)
theorem allB_up {l : List Int} (h : l.all isB = true) : ∃ m : List Nat, l = Poly.up m ∧ Poly.AllB m := by
  refine Poly.up_of fun x hx => ?_
  have := List.all_eq_true.1 h x hx
  simpa [isB] using this
theorem up_allB {m : List Nat} (h : Poly.AllB m) : (Poly.up m).all isB = true := by
  rw [List.all_eq_true]
  intro x hx
  have := Poly.up_bytes h x hx
  simp only [isB, decide_eq_true_eq]; omega

theorem xor_up {a b : Nat} (ha : a < 256) (hb : b < 256) : Go.bits .xor .i64 (a : Int) (b : Int) = ((a ^^^ b : Nat) : Int) := xor_nat (by omega) (by omega)
theorem wrap_nat (n : Nat) (h : n ≤ 9223372036854775807) : wrap64 (n : Int) = (n : Int) := wrap_id (by omega) (by omega)
theorem wrap_add (a b : Nat) (h : a + b ≤ 9223372036854775807) : wrap64 ((a : Int) + (b : Int)) = ((a + b : Nat) : Int) := by rw [wrap_id (by omega) (by omega)]; omega
theorem wrap_pred (a : Nat) (h : a ≤ 9223372036854775807) (h0 : 0 < a) : wrap64 ((a : Int) - 1) = ((a - 1 : Nat) : Int) := by rw [wrap_id (by omega) (by omega)]; omega

/-- Lists of rows of natural numbers as Go's. -/
def upM (m : List (List Nat)) : List (List Int) := m.map Poly.up
def dnM (m : List (List Int)) : List (List Nat) := m.map fun r => r.map Int.toNat
theorem upM_length (m : List (List Nat)) : (upM m).length = m.length := by simp [upM]
theorem upM_snoc (m : List (List Nat)) (r : List Nat) : upM m ++ [Poly.up r] = upM (m ++ [r]) := by simp [upM]
theorem upM_append (l m : List (List Nat)) : upM l ++ upM m = upM (l ++ m) := by simp [upM]
theorem upM_set (m : List (List Nat)) (i : Nat) (r : List Nat) : (upM m).set i (Poly.up r) = upM (m.set i r) := by simp [upM, List.map_set]
theorem upM_nil : ([] : List (List Int)) = upM [] := rfl
theorem upM_getD (m : List (List Nat)) (i : Nat) : (upM m).getD i [] = Poly.up (m.getD i []) := by
  unfold upM
  rw [List.getD_eq_getElem?_getD, List.getElem?_map, List.getD_eq_getElem?_getD]
  cases m[i]? <;> rfl
theorem rdL_up (m : List (List Nat)) (i : Nat) : rd_L1 (upM m) (i : Int) = Poly.up (m.getD i []) := by
  unfold rd_L1
  rw [Int.toNat_natCast]
  exact upM_getD m i
theorem rdL_up0 (m : List (List Nat)) : rd_L1 (upM m) 0 = Poly.up (m.getD 0 []) := rdL_up m 0
theorem dn_up (l : List Nat) : (Poly.up l).map Int.toNat = l := by
  unfold Poly.up
  rw [List.map_map]
  exact (List.map_congr_left (fun x _ => Int.toNat_natCast x)).trans (List.map_id' l)
theorem dnM_upM (m : List (List Nat)) : dnM (upM m) = m := by
  unfold dnM upM
  rw [List.map_map]
  exact (List.map_congr_left (fun x _ => dn_up x)).trans (List.map_id' m)
theorem upM_inj {l m : List (List Nat)} (h : upM l = upM m) : l = m := by rw [← dnM_upM l, h, dnM_upM]
/-- Rows of c elements. -/
def areR (c : Nat) (m : List (List Int)) : Bool := m.all fun r => decide (r.length = c) && r.all isB
theorem areR_up {c : Nat} : ∀ {m : List (List Int)}, areR c m = true → ∃ n, m = upM n ∧ Mat.MB' c n
  | [], _ => ⟨[], rfl, fun r hr => by cases hr⟩
  | r :: m, h => by
    simp only [areR, List.all_cons, Bool.and_eq_true, decide_eq_true_eq] at h
    obtain ⟨n, rfl, hn⟩ := areR_up (m := m) (by simpa [areR] using h.2)
    obtain ⟨q, rfl, hq⟩ := allB_up h.1.2
    refine ⟨q :: n, rfl, fun x hx => ?_⟩
    rcases List.mem_cons.1 hx with rfl | hx
    · exact ⟨by simpa [Poly.up_length] using h.1.1, hq⟩
    · exact hn x hx
theorem up_areR {c : Nat} {n : List (List Nat)} (h : Mat.MB' c n) : areR c (upM n) = true := by
  unfold areR upM
  rw [List.all_eq_true]
  intro x hx
  obtain ⟨r, hr, rfl⟩ := List.mem_map.1 hx
  rw [Bool.and_eq_true, decide_eq_true_eq, Poly.up_length]
  exact ⟨(h r hr).1, up_allB (h r hr).2⟩
def goodM (m : List (List Int)) : Bool := decide (1 ≤ m.length ∧ m.length ≤ 8) && (decide (1 ≤ (m.getD 0 []).length ∧ (m.getD 0 []).length ≤ 8) && areR (m.getD 0 []).length m)
theorem goodM_up {m : List (List Int)} (h : goodM m = true) : ∃ c n, m = upM n ∧ Mat.MB' c n ∧ (m.getD 0 []).length = c ∧ m.length = n.length ∧ 1 ≤ n.length ∧ n.length ≤ 8 ∧ 1 ≤ c ∧ c ≤ 8 := by
  simp only [goodM, Bool.and_eq_true, decide_eq_true_eq] at h
  obtain ⟨n, hn, hB⟩ := areR_up h.2.2
  exact ⟨_, n, hn, hB, rfl, by rw [hn, upM_length], by rw [← upM_length, ← hn]; exact h.1.1, by rw [← upM_length, ← hn]; exact h.1.2, h.2.1.1, h.2.1.2⟩
theorem up_goodM {c : Nat} {n : List (List Nat)} (h : Mat.MB' c n) (h1 : 1 ≤ n.length) (h2 : n.length ≤ 8) (h3 : 1 ≤ c) (h4 : c ≤ 8) : goodM (upM n) = true := by
  have e : ((upM n).getD 0 []).length = c := by rw [upM_getD, Poly.up_length]; exact (h.get (by omega)).1
  unfold goodM
  rw [e, up_areR h, upM_length, decide_eq_true (by omega), decide_eq_true (by omega)]; rfl
theorem goodM_rows {m : List (List Int)} (h : goodM m = true) : m.length ≤ 8 ∧ ∀ r ∈ m, r.length ≤ 8 := by
  obtain ⟨c, n, rfl, hB, _, _, _, h2, _, h4⟩ := goodM_up h
  refine ⟨by rw [upM_length]; exact h2, fun r hr => ?_⟩
  obtain ⟨q, hq, rfl⟩ := List.mem_map.1 hr
  rw [Poly.up_length, (hB q hq).1]; exact h4
theorem upM_small {c k : Nat} {n : List (List Nat)} (h : Mat.MB' c n) (hl : n.length ≤ k) (hc : c ≤ k) : (upM n).length ≤ k ∧ ∀ r ∈ upM n, r.length ≤ k := by
  refine ⟨by rw [upM_length]; exact hl, fun r hr => ?_⟩
  obtain ⟨q, hq, rfl⟩ := List.mem_map.1 hr
  rw [Poly.up_length, (h q hq).1]; exact hc

/-- The inverses of the sums. -/
def cauchyR (a : Nat) (Y : List Nat) : List Nat := Y.map fun b => Gf.gi (a ^^^ b)
def cauchyM (X Y : List Nat) : List (List Nat) := X.map fun a => cauchyR a Y
theorem cauchyR_bytes (a : Nat) (Y : List Nat) : Poly.AllB (cauchyR a Y) := fun x hx => by
  obtain ⟨b, _, rfl⟩ := List.mem_map.1 hx
  exact Gf.gi_lt _
theorem cauchyM_MB (X Y : List Nat) : Mat.MB' Y.length (cauchyM X Y) := fun r hr => by
  obtain ⟨a, _, rfl⟩ := List.mem_map.1 hr
  exact ⟨by simp [cauchyR], cauchyR_bytes a Y⟩
theorem cauchyM_length (X Y : List Nat) : (cauchyM X Y).length = X.length := by simp [cauchyM]
theorem drop_getD (l : List Nat) (i : Nat) (h : i < l.length) : l.drop i = l.getD i 0 :: l.drop (i + 1) := by
  rw [List.drop_eq_getElem_cons h, List.getD_eq_getElem?_getD, List.getElem?_eq_getElem h]; rfl

theorem spec_l2Cauchy_l0 (X Y : List Nat) (hX : Poly.AllB X) (hY : Poly.AllB Y) (hXl : X.length ≤ 1000) (hYl : Y.length ≤ 1000) : ∀ (d i : Nat) (out : List (List Nat)), i + d = X.length → out.length = i →
    Ev (fun k => spec_l2Cauchy.l0 k (Poly.up Y) (upM out) (Poly.up X) (X.length : Int) (i : Int)) (upM (out ++ cauchyM (X.drop i) Y)) := by
  intro d
  induction d with
  | zero =>
    intro i out hi hol
    obtain rfl : i = X.length := by omega
    have e : out ++ cauchyM (X.drop X.length) Y = out := by rw [List.drop_length]; simp [cauchyM]
    rw [e]
    exact Ev.step (f := fun _ => some (upM out)) (fun k => by rw [spec_l2Cauchy.l0.eq_2, if_neg (by omega)]) (Ev.now _)
  | succ d ih =>
    intro i out hi hol
    have hlt : i < X.length := by omega
    have ha : X.getD i 0 < 256 := hX.get i
    rw [drop_getD X i hlt]
    generalize hA : X.getD i 0 = a at ha
    have row : ∀ (e j : Nat) (acc : List Nat), j + e = Y.length → acc.length = j →
        Ev (fun k => spec_l2Cauchy.l1 k (Poly.up Y) (upM out) (a : Int) (Poly.up acc) (Poly.up X) (X.length : Int) (i : Int) (Poly.up Y) (Y.length : Int) (j : Int)) (upM (out ++ (acc ++ cauchyR a (Y.drop j)) :: cauchyM (X.drop (i + 1)) Y)) := by
      intro e
      induction e with
      | zero =>
        intro j acc hj hl
        obtain rfl : j = Y.length := by omega
        have e : acc ++ cauchyR a (Y.drop Y.length) = acc := by rw [List.drop_length]; simp [cauchyR]
        rw [e]
        refine Ev.step (f := fun k => spec_l2Cauchy.l0 k (Poly.up Y) (upM (out ++ [acc])) (Poly.up X) (X.length : Int) ((i + 1 : Nat) : Int)) (fun k => ?_) ?_
        · rw [spec_l2Cauchy.l1.eq_2, if_neg (by omega), if_pos (by rw [upM_length]; omega), upM_snoc, wrap_succ i (by omega)]
        · have := ih (i + 1) (out ++ [acc]) (by omega) (by simp [hol])
          rwa [List.append_assoc] at this
      | succ e ihe =>
        intro j acc hj hl
        have hjY : j < Y.length := by omega
        have hb : Y.getD j 0 < 256 := hY.get j
        have hx := xor_up ha hb
        have hab := Gf.xor_byte ha hb
        have e1 : cauchyR a (Y.drop j) = Gf.gi (a ^^^ Y.getD j 0) :: cauchyR a (Y.drop (j + 1)) := by rw [drop_getD Y j hjY]; rfl
        have e2 : Gf.gm 1 (Gf.gi (a ^^^ Y.getD j 0)) = Gf.gi (a ^^^ Y.getD j 0) := Gf.one_gm _ (Gf.gi_lt _)
        rw [e1]
        refine Ev.step (f := fun k => (spec_l1Div.f k ((1 : Nat) : Int) ((a ^^^ Y.getD j 0 : Nat) : Int)).bind fun t => if (Poly.up acc).length < 17592186044416 then spec_l2Cauchy.l1 k (Poly.up Y) (upM out) (a : Int) (Poly.up acc ++ [t]) (Poly.up X) (X.length : Int) (i : Int) (Poly.up Y) (Y.length : Int) ((j + 1 : Nat) : Int) else none) (fun k => ?_) ?_
        · rw [spec_l2Cauchy.l1.eq_2, if_pos (by omega), if_pos (by omega), if_pos (by rw [Poly.up_length]; omega), Poly.rd_up, hx, wrap_succ j (by omega)]; rfl
        · refine Ev.bind (f := fun k t => if (Poly.up acc).length < 17592186044416 then spec_l2Cauchy.l1 k (Poly.up Y) (upM out) (a : Int) (Poly.up acc ++ [t]) (Poly.up X) (X.length : Int) (i : Int) (Poly.up Y) (Y.length : Int) ((j + 1 : Nat) : Int) else none) (spec_l1Div_ev 1 _ (by decide) hab) ?_
          simp only [if_pos (show (Poly.up acc).length < 17592186044416 by rw [Poly.up_length]; omega), e2, Poly.up_snoc]
          have := ihe (j + 1) (acc ++ [Gf.gi (a ^^^ Y.getD j 0)]) (by omega) (by simp [hl])
          rwa [List.append_assoc] at this
    have e0 : out ++ cauchyM (a :: X.drop (i + 1)) Y = out ++ ([] ++ cauchyR a (Y.drop 0)) :: cauchyM (X.drop (i + 1)) Y := by rfl
    rw [e0]
    refine Ev.step (f := fun k => spec_l2Cauchy.l1 k (Poly.up Y) (upM out) (a : Int) (Poly.up []) (Poly.up X) (X.length : Int) (i : Int) (Poly.up Y) (Y.length : Int) 0) (fun k => ?_) (row Y.length 0 [] (by omega) rfl)
    rw [spec_l2Cauchy.l0.eq_2, if_pos (by omega), if_pos (by omega), if_pos (by rw [Poly.up_length]; omega), Poly.rd_up, hA, Poly.up_length]; rfl
theorem spec_l2Cauchy_ev (X Y : List Nat) (hX : Poly.AllB X) (hY : Poly.AllB Y) (hXl : X.length ≤ 1000) (hYl : Y.length ≤ 1000) : Ev (fun k => spec_l2Cauchy.f k (Poly.up X) (Poly.up Y)) (upM (cauchyM X Y)) := by
  unfold spec_l2Cauchy.f
  rw [Poly.up_length]
  exact spec_l2Cauchy_l0 X Y hX hY hXl hYl X.length 0 [] (by omega) rfl

/-- What CauchyMatrix answers. -/
def cauOk (x y : List Int) : Bool := decide (1 ≤ x.length ∧ x.length ≤ 8) && (decide (1 ≤ y.length ∧ y.length ≤ 8) && ((x ++ y).all isB && decide (x ++ y).Nodup))
def cauV (x y : List Int) : List (List Int) × Bool := if cauOk x y then (upM (cauchyM (x.map Int.toNat) (y.map Int.toNat)), true) else ([], false)
theorem cauV_small (x y : List Int) : (cauV x y).1.length ≤ 8 ∧ ∀ r ∈ (cauV x y).1, r.length ≤ 8 := by
  unfold cauV
  split
  · rename_i h
    simp only [cauOk, Bool.and_eq_true, decide_eq_true_eq] at h
    exact upM_small (cauchyM_MB _ _) (by rw [cauchyM_length, List.length_map]; exact h.1.2) (by rw [List.length_map]; exact h.2.1.2)
  · exact ⟨by simp, fun r hr => by cases hr⟩
theorem cauOk_up {x y : List Int} (h : (x ++ y).all isB = true) : ∃ X Y : List Nat, x = Poly.up X ∧ y = Poly.up Y ∧ Poly.AllB X ∧ Poly.AllB Y := by
  rw [List.all_append, Bool.and_eq_true] at h
  obtain ⟨X, hX, hXb⟩ := allB_up h.1
  obtain ⟨Y, hY, hYb⟩ := allB_up h.2
  exact ⟨X, Y, hX, hY, hXb, hYb⟩
theorem map_up (X : List Nat) : (Poly.up X).map Int.toNat = X := dn_up X

theorem nodup_snoc {l : List Int} {a : Int} : (l ++ [a]).Nodup ↔ l.Nodup ∧ a ∉ l := by
  rw [List.nodup_append]
  constructor
  · rintro ⟨h1, _, h3⟩
    exact ⟨h1, fun h => h3 a h a List.mem_cons_self rfl⟩
  · rintro ⟨h1, h2⟩
    exact ⟨h1, by simp, fun x hx y hy he => by
      rw [List.mem_singleton] at hy
      subst hy he
      exact h2 hx⟩
theorem spec_CauchyMatrix_l0 (x y l : List Int) (hl : l = x ++ y) (hx : x.length ≤ 1048576) (hy : y.length ≤ 1048576) : ∀ (d i : Nat), i + d = l.length → (l.take i).all isB = true → (l.take i).Nodup →
    Ev (fun k => spec_CauchyMatrix.l0 k x y l l (l.length : Int) (i : Int)) (cauV x y) := by
  have hll : l.length = x.length + y.length := by rw [hl, List.length_append]
  intro d
  induction d with
  | zero =>
    intro i hi h1 h2
    obtain rfl : i = l.length := by omega
    rw [List.take_length, hl] at h1 h2
    have E : Ev (fun k => (if decide (1 ≤ x.length ∧ x.length ≤ 8) = true then (if decide (1 ≤ y.length ∧ y.length ≤ 8) = true then ((spec_l2Cauchy.f k x y).bind fun t => some (t, true)) else some (([] : List (List Int)), false)) else some (([] : List (List Int)), false))) (cauV x y) := by
      unfold cauV cauOk
      rw [h1, decide_eq_true h2]
      cases g1 : decide (1 ≤ x.length ∧ x.length ≤ 8)
      · exact Ev.now _
      cases g2 : decide (1 ≤ y.length ∧ y.length ≤ 8)
      · exact Ev.now _
      simp only [if_true, Bool.and_self]
      obtain ⟨X, Y, rfl, rfl, hX, hY⟩ := cauOk_up h1
      have z1 := of_decide_eq_true g1
      have z2 := of_decide_eq_true g2
      rw [Poly.up_length] at z1 z2
      have := spec_l2Cauchy_ev X Y hX hY (by omega) (by omega)
      rw [map_up, map_up]
      exact Ev.bind (f := fun _ t => some (t, true)) this (Ev.now _)
    refine Ev.step (fun k => ?_) E
    rw [spec_CauchyMatrix.l0.eq_2, if_neg (by omega), spec_l1In_eq, spec_l1In_eq, Option.bind_some, Option.bind_some]
    rw [show decide ((1 : Int) ≤ (x.length : Int) ∧ (x.length : Int) ≤ 8) = decide (1 ≤ x.length ∧ x.length ≤ 8) from decide_eq_decide.2 (by omega), show decide ((1 : Int) ≤ (y.length : Int) ∧ (y.length : Int) ≤ 8) = decide (1 ≤ y.length ∧ y.length ≤ 8) from decide_eq_decide.2 (by omega)]
  | succ d ih =>
    intro i hi h1 h2
    have hlt : i < l.length := by omega
    have e := List.take_succ_eq_append_getElem hlt
    have hbad : ¬ (l.all isB = true ∧ l.Nodup) → cauV x y = ([], false) := fun h => by
      unfold cauV cauOk
      rw [← hl]
      apply if_neg
      intro g
      simp only [Bool.and_eq_true, decide_eq_true_eq] at g
      exact h ⟨g.2.2.1, g.2.2.2⟩
    cases g1 : isB l[i] with
    | false =>
      rw [hbad (fun h => by have := List.all_eq_true.1 h.1 _ (List.getElem_mem hlt); rw [g1] at this; cases this)]
      refine Ev.step (f := fun _ => some (([] : List (List Int)), false)) (fun k => ?_) (Ev.now _)
      rw [spec_CauchyMatrix.l0.eq_2, if_pos (by omega), if_pos (by omega), if_pos (by omega), rd_nat l i hlt, spec_l1Gf_eq, g1]; rfl
    | true =>
    have EH := spec_l1Has_ev (l.take i) l[i] (by rw [List.length_take]; omega)
    by_cases g2 : l[i] ∈ l.take i
    · rw [hbad (fun h => by
        have h3 : (l.take (i + 1)).Nodup := h.2.sublist (List.take_sublist _ _)
        rw [e, nodup_snoc] at h3
        exact h3.2 g2)]
      rw [decide_eq_true g2] at EH
      refine Ev.step (f := fun k => (spec_l1Has.f k (l.take i) l[i]).bind fun t => if t = true then some (([] : List (List Int)), false) else spec_CauchyMatrix.l0 k x y l l (l.length : Int) ((i + 1 : Nat) : Int)) (fun k => ?_) (Ev.bind (f := fun k t => if t = true then some (([] : List (List Int)), false) else spec_CauchyMatrix.l0 k x y l l (l.length : Int) ((i + 1 : Nat) : Int)) EH (Ev.now _))
      rw [spec_CauchyMatrix.l0.eq_2, if_pos (by omega), if_pos (by omega), if_pos (by omega), rd_nat l i hlt, spec_l1Gf_eq, g1, Option.bind_some, if_pos rfl, if_pos (by omega), Int.toNat_natCast, wrap_succ i (by omega)]
    · rw [decide_eq_false g2] at EH
      have hn := ih (i + 1) (by omega) (by rw [e, List.all_append, h1]; simp [g1]) (by rw [e, nodup_snoc]; exact ⟨h2, g2⟩)
      refine Ev.step (f := fun k => (spec_l1Has.f k (l.take i) l[i]).bind fun t => if t = true then some (([] : List (List Int)), false) else spec_CauchyMatrix.l0 k x y l l (l.length : Int) ((i + 1 : Nat) : Int)) (fun k => ?_) (Ev.bind (f := fun k t => if t = true then some (([] : List (List Int)), false) else spec_CauchyMatrix.l0 k x y l l (l.length : Int) ((i + 1 : Nat) : Int)) EH hn)
      rw [spec_CauchyMatrix.l0.eq_2, if_pos (by omega), if_pos (by omega), if_pos (by omega), rd_nat l i hlt, spec_l1Gf_eq, g1, Option.bind_some, if_pos rfl, if_pos (by omega), Int.toNat_natCast, wrap_succ i (by omega)]
theorem spec_CauchyMatrix_ev (x y : List Int) (hx : x.length ≤ 1048576) (hy : y.length ≤ 1048576) : Ev (fun k => spec_CauchyMatrix.f k x y) (cauV x y) := by
  unfold spec_CauchyMatrix.f
  simp only [Option.bind_some, List.nil_append, List.length_nil, if_pos (show 0 + x.length < 17592186044416 by omega), if_pos (show x.length + y.length < 17592186044416 by omega)]
  exact spec_CauchyMatrix_l0 x y (x ++ y) rfl hx hy (x ++ y).length 0 (by omega) rfl List.nodup_nil

theorem laws_toIntS_l0 (l : List Int) (hl : l.length ≤ 1048576) : ∀ d i : Nat, i + d = l.length → Ev (fun k => laws_toIntS.l0 k l (l.take i ++ List.replicate d 0) (i : Int)) l := by
  intro d
  induction d with
  | zero =>
    intro i hi
    obtain rfl : i = l.length := by omega
    exact Ev.step (f := fun _ => some l) (fun k => by simp only [laws_toIntS.l0]; rw [if_neg (by omega)]; simp) (Ev.now _)
  | succ d ih =>
    intro i hi
    have hlt : i < l.length := by omega
    refine Ev.step (f := fun k => laws_toIntS.l0 k l (l.take (i + 1) ++ List.replicate d 0) ((i + 1 : Nat) : Int)) (fun k => ?_) (ih (i + 1) (by omega))
    have e : ((l.take i ++ List.replicate (d + 1) 0).set i l[i]) = l.take (i + 1) ++ List.replicate d 0 := by
      rw [List.set_append_right _ _ (by simp; omega)]
      simp only [List.length_take, Nat.min_eq_left (Nat.le_of_lt hlt), Nat.sub_self, List.replicate_succ, List.set_cons_zero]
      rw [List.take_succ_eq_append_getElem hlt, List.append_assoc]; rfl
    have z : (i : Int) < ((l.take i ++ List.replicate (d + 1) (0 : Int)).length : Int) := by simp only [List.length_append, List.length_take, List.length_replicate]; omega
    simp only [laws_toIntS.l0, rd_nat l i hlt, wrap_succ i (by omega), Int.toNat_natCast]
    rw [if_pos (by omega), if_pos (by omega), if_pos z, e]
theorem laws_toIntS_ev (l : List Int) (hl : l.length ≤ 1048576) : Ev (fun k => laws_toIntS.f k l) l := by
  unfold laws_toIntS.f
  have z1 : (0 : Int) ≤ (l.length : Int) := by omega
  have z2 : (l.length : Int).toNat ≤ 35184372088832 := by omega
  simp only [if_pos z1, if_pos z2]
  have := laws_toIntS_l0 l hl l.length 0 (by omega)
  simpa using this



theorem impl_areGf_eq (l : List Int) : impl_areGf.f l = some (l.all isB) := by
  unfold impl_areGf.f
  have e : impl_areGf.bad = fun n => !isB n := by
    funext n
    simp only [impl_areGf.bad, isB]
  rw [e, List.all_eq_not_any_not]

theorem impl_mul_l0 : ∀ (n a b o : Nat), a < 256 → o < 256 → b < 2 ^ n → b < 2 ^ 63 → Ev (fun k => impl_mul.l0 k (a : Int) (b : Int) (o : Int)) ((Gf.gmA n a b o : Nat) : Int) := by
  have stop : ∀ a o : Nat, Ev (fun k => impl_mul.l0 k (a : Int) ((0 : Nat) : Int) (o : Int)) ((o : Nat) : Int) := fun a o =>
    Ev.step (f := fun _ => some ((o : Nat) : Int)) (fun k => by simp only [impl_mul.l0]; rw [if_neg (by omega)]) (Ev.now _)
  intro n
  induction n with
  | zero =>
    intro a b o ha ho hb _
    obtain rfl : b = 0 := by simpa using hb
    exact stop a o
  | succ n ih =>
    intro a b o ha ho hb hb63
    by_cases h0 : b = 0
    · subst h0
      rw [Gf.gmA_zero]
      exact stop a o
    · have e1 : wrap64 ((a : Int) * 2) = ((a * 2 : Nat) : Int) := by rw [wrap_id (by omega) (by omega)]; omega
      have e2 : Go.bits .xor .i64 ((a * 2 : Nat) : Int) 285 = (((a * 2) ^^^ 285 : Nat) : Int) := xor_nat (a := a * 2) (b := 285) (by omega) (by decide)
      have e3 : Go.bits .xor .i64 (o : Int) (a : Int) = ((o ^^^ a : Nat) : Int) := xor_nat (by omega) (by omega)
      have e4 := and_one (a := b) hb63
      refine Ev.step (f := fun k => impl_mul.l0 k ((Gf.xt a : Nat) : Int) ((b / 2 : Nat) : Int) (((if b % 2 = 1 then o ^^^ a else o) : Nat) : Int)) (fun k => ?_) (ih _ _ _ (Gf.xt_lt a ha) ?_ (by rw [Nat.pow_succ] at hb; omega) (by omega))
      · simp only [impl_mul.l0, e1, e2, e3, e4, half_nat, Gf.xt]
        rw [if_pos (show (b : Int) > 0 by omega)]
        by_cases h1 : b % 2 = 1 <;> by_cases h2 : 255 < a * 2
        · rw [if_pos (show ((b % 2 : Nat) : Int) = 1 by omega), if_pos h1, if_pos (by omega), if_pos h2]
        · rw [if_pos (show ((b % 2 : Nat) : Int) = 1 by omega), if_pos h1, if_neg (by omega), if_neg h2]
        · rw [if_neg (show ¬ ((b % 2 : Nat) : Int) = 1 by omega), if_neg h1, if_pos (by omega), if_pos h2]
        · rw [if_neg (show ¬ ((b % 2 : Nat) : Int) = 1 by omega), if_neg h1, if_neg (by omega), if_neg h2]
      · split
        · exact Gf.xor_byte ho ha
        · exact ho
theorem impl_mul_ev (a b : Nat) (ha : a < 256) (hb : b < 256) : Ev (fun k => impl_mul.f k (a : Int) (b : Int)) ((Gf.gm a b : Nat) : Int) :=
  impl_mul_l0 8 a b 0 ha (by decide) hb (by omega)

theorem impl_pow_l0 : ∀ (f a n o : Nat), a < 256 → o < 256 → n < 2 ^ f → n < 2 ^ 63 → Ev (fun k => impl_pow.l0 k (a : Int) (n : Int) (o : Int)) ((Gf.pwA f a n o : Nat) : Int) := by
  have stop : ∀ a o : Nat, Ev (fun k => impl_pow.l0 k (a : Int) ((0 : Nat) : Int) (o : Int)) ((o : Nat) : Int) := fun a o =>
    Ev.step (f := fun _ => some ((o : Nat) : Int)) (fun k => by simp only [impl_pow.l0]; rw [if_neg (by omega)]) (Ev.now _)
  have z : ∀ f a o, Gf.pwA f a 0 o = o := by
    intro f
    induction f with
    | zero => intro a o; rfl
    | succ f ih => intro a o; exact ih _ _
  intro f
  induction f with
  | zero =>
    intro a n o ha ho hn _
    obtain rfl : n = 0 := by simpa using hn
    exact stop a o
  | succ f ih =>
    intro a n o ha ho hn hn63
    by_cases h0 : n = 0
    · subst h0
      rw [z]
      exact stop a o
    · have e4 := and_one (a := n) hn63
      have hsq := Gf.gm_lt a ha
      by_cases h1 : n % 2 = 1
      · refine Ev.step (f := fun k => (impl_mul.f k (o : Int) (a : Int)).bind fun t => (impl_mul.f k (a : Int) (a : Int)).bind fun u => impl_pow.l0 k u ((n / 2 : Nat) : Int) t) (fun k => ?_) ?_
        · simp only [impl_pow.l0, e4, half_nat]
          rw [if_pos (show (n : Int) > 0 by omega), if_pos (show ((n % 2 : Nat) : Int) = 1 by omega)]
        · have := ih (Gf.gm a a) (n / 2) (Gf.gm o a) hsq (Gf.gm_lt a ho) (by rw [Nat.pow_succ] at hn; omega) (by omega)
          show Ev _ ((Gf.pwA f (Gf.gm a a) (n / 2) (if n % 2 = 1 then Gf.gm o a else o) : Nat) : Int)
          rw [if_pos h1]
          exact Ev.bind (f := fun k t => (impl_mul.f k (a : Int) (a : Int)).bind fun u => impl_pow.l0 k u ((n / 2 : Nat) : Int) t) (impl_mul_ev o a ho ha) (Ev.bind (f := fun k u => impl_pow.l0 k u ((n / 2 : Nat) : Int) ((Gf.gm o a : Nat) : Int)) (impl_mul_ev a a ha ha) this)
      · refine Ev.step (f := fun k => (impl_mul.f k (a : Int) (a : Int)).bind fun u => impl_pow.l0 k u ((n / 2 : Nat) : Int) (o : Int)) (fun k => ?_) ?_
        · simp only [impl_pow.l0, e4, half_nat]
          rw [if_pos (show (n : Int) > 0 by omega), if_neg (show ¬ ((n % 2 : Nat) : Int) = 1 by omega)]
        · have := ih (Gf.gm a a) (n / 2) o hsq ho (by rw [Nat.pow_succ] at hn; omega) (by omega)
          show Ev _ ((Gf.pwA f (Gf.gm a a) (n / 2) (if n % 2 = 1 then Gf.gm o a else o) : Nat) : Int)
          rw [if_neg h1]
          exact Ev.bind (f := fun k u => impl_pow.l0 k u ((n / 2 : Nat) : Int) (o : Int)) (impl_mul_ev a a ha ha) this
theorem impl_pow_ev (a n : Nat) (ha : a < 256) (hn : n < 2 ^ 62) : Ev (fun k => impl_pow.f k (a : Int) (n : Int)) ((Gf.pw a n : Nat) : Int) := by
  have := impl_pow_l0 62 a n 1 ha (by decide) hn (by omega)
  rw [Gf.pwA_eq 62 a n 1 ha (by decide) hn, Gf.one_gm _ (Gf.pw_lt n)] at this
  exact this

theorem impl_inverse_ev (b : Nat) (hb : b < 256) : Ev (fun k => impl_inverse.f k (b : Int)) ((Gf.gi b : Nat) : Int) := by
  unfold impl_inverse.f
  exact Ev.bind (f := fun _ u => some u) (impl_pow_ev b 254 hb (by decide)) (Ev.now _)

theorem laws_eqIntS_l0 (l m : List Int) (hlm : l.length = m.length) (hl : l.length ≤ 140737488351232) : ∀ d i : Nat, i + d = l.length → Ev (fun k => laws_eqIntS.l0 k l m (i : Int)) (decide (l.drop i = m.drop i)) := by
  intro d
  induction d with
  | zero =>
    intro i hi
    obtain rfl : i = l.length := by omega
    have e : decide (l.drop l.length = m.drop l.length) = true := by
      have e2 : m.drop l.length = [] := by rw [hlm, List.drop_length]
      rw [e2, List.drop_length]; rfl
    rw [e]
    exact Ev.step (f := fun _ => some true) (fun k => by simp only [laws_eqIntS.l0]; rw [if_neg (by omega)]) (Ev.now _)
  | succ d ih =>
    intro i hi
    have hlt : i < l.length := by omega
    have hlt2 : i < m.length := by omega
    rw [List.drop_eq_getElem_cons hlt, List.drop_eq_getElem_cons hlt2]
    by_cases e : l[i] = m[i]
    · have : decide (l[i] :: l.drop (i + 1) = m[i] :: m.drop (i + 1)) = decide (l.drop (i + 1) = m.drop (i + 1)) := by simp only [List.cons.injEq, e, true_and]
      rw [this]
      refine Ev.step (f := fun k => laws_eqIntS.l0 k l m ((i + 1 : Nat) : Int)) (fun k => ?_) (ih (i + 1) (by omega))
      simp only [laws_eqIntS.l0, rd_nat l i hlt, rd_nat m i hlt2, wrap_succ i (by omega)]
      rw [if_pos (by omega), if_pos (by omega), if_pos (by omega), if_pos e]
    · have : decide (l[i] :: l.drop (i + 1) = m[i] :: m.drop (i + 1)) = false := by simp only [List.cons.injEq, e, false_and, decide_false]
      rw [this]
      refine Ev.step (f := fun k => some false) (fun k => ?_) (Ev.now _)
      simp only [laws_eqIntS.l0, rd_nat l i hlt, rd_nat m i hlt2, wrap_succ i (by omega)]
      rw [if_pos (by omega), if_pos (by omega), if_pos (by omega), if_neg e]
theorem laws_eqIntS_ev (l m : List Int) (hl : l.length ≤ 140737488351232) : Ev (fun k => laws_eqIntS.f k l m) (decide (l = m)) := by
  unfold laws_eqIntS.f
  by_cases h : l.length = m.length
  · simp only [if_pos (show (l.length : Int) = (m.length : Int) by omega)]
    exact laws_eqIntS_l0 l m h hl l.length 0 (by omega)
  · simp only [if_neg (show ¬ (l.length : Int) = (m.length : Int) by omega)]
    have : decide (l = m) = false := by simp only [decide_eq_false_iff_not]; rintro rfl; exact h rfl
    rw [this]
    exact Ev.now _

theorem laws_eqIntSS_l0 (l m : List (List Int)) (hlm : l.length = m.length) (hl : l.length ≤ 140737488351232) (hr : ∀ r ∈ l, r.length ≤ 140737488351232) : ∀ d i : Nat, i + d = l.length → Ev (fun k => laws_eqIntSS.l0 k l m (i : Int)) (decide (l.drop i = m.drop i)) := by
  intro d
  induction d with
  | zero =>
    intro i hi
    obtain rfl : i = l.length := by omega
    have e : decide (l.drop l.length = m.drop l.length) = true := by
      have e2 : m.drop l.length = [] := by rw [hlm, List.drop_length]
      rw [e2, List.drop_length]; rfl
    rw [e]
    exact Ev.step (f := fun _ => some true) (fun k => by rw [laws_eqIntSS.l0.eq_2, if_neg (by omega)]) (Ev.now _)
  | succ d ih =>
    intro i hi
    have hlt : i < l.length := by omega
    have hlt2 : i < m.length := by omega
    rw [List.drop_eq_getElem_cons hlt, List.drop_eq_getElem_cons hlt2]
    have E := laws_eqIntS_ev l[i] m[i] (hr _ (List.getElem_mem hlt))
    refine Ev.step (f := fun k => (laws_eqIntS.f k l[i] m[i]).bind fun t => if t = true then laws_eqIntSS.l0 k l m ((i + 1 : Nat) : Int) else some false) (fun k => ?_) (Ev.bind (f := fun k t => if t = true then laws_eqIntSS.l0 k l m ((i + 1 : Nat) : Int) else some false) E ?_)
    · rw [laws_eqIntSS.l0.eq_2, if_pos (by omega), if_pos (by omega), if_pos (by omega), rdL_nat l i hlt, rdL_nat m i hlt2, wrap_succ i (by omega)]
    · by_cases e : l[i] = m[i]
      · have e2 : decide (l[i] :: l.drop (i + 1) = m[i] :: m.drop (i + 1)) = decide (l.drop (i + 1) = m.drop (i + 1)) := by simp only [List.cons.injEq, e, true_and]
        rw [e2, decide_eq_true e]
        simp only [if_true]
        exact ih (i + 1) (by omega)
      · have e2 : decide (l[i] :: l.drop (i + 1) = m[i] :: m.drop (i + 1)) = false := by simp only [List.cons.injEq, e, false_and, decide_false]
        rw [e2, decide_eq_false e]
        simp only [Bool.false_eq_true, if_false]
        exact Ev.now _
theorem laws_eqIntSS_ev (l m : List (List Int)) (hl : l.length ≤ 140737488351232) (hr : ∀ r ∈ l, r.length ≤ 140737488351232) : Ev (fun k => laws_eqIntSS.f k l m) (decide (l = m)) := by
  unfold laws_eqIntSS.f
  by_cases h : l.length = m.length
  · simp only [if_pos (show (l.length : Int) = (m.length : Int) by omega)]
    exact laws_eqIntSS_l0 l m h hl hr l.length 0 (by omega)
  · simp only [if_neg (show ¬ (l.length : Int) = (m.length : Int) by omega)]
    have : decide (l = m) = false := by simp only [decide_eq_false_iff_not]; rintro rfl; exact h rfl
    rw [this]
    exact Ev.now _
theorem laws_eqIntSS_same (l : List (List Int)) (hl : l.length ≤ 1048576) (hr : ∀ r ∈ l, r.length ≤ 1048576) : ∃ K, laws_eqIntSS.f K l l = some true := by
  have := laws_eqIntSS_ev l l (by omega) (fun r h => by have := hr r h; omega)
  rw [decide_eq_true rfl] at this
  exact this.rounds

/-- The numbers m, m + 1, .., n of them. -/
def marks (m n : Nat) : List Int := (List.range n).map fun j => ((m + j : Nat) : Int)
theorem marks_length (m n : Nat) : (marks m n).length = n := by simp [marks]
theorem marks_succ (m n : Nat) : marks m (n + 1) = marks m n ++ [((m + n : Nat) : Int)] := by simp [marks, List.range_succ]
theorem marks_get (m n i : Nat) (h : i < (marks m n).length) : (marks m n)[i] = ((m + i : Nat) : Int) := by simp [marks]

theorem laws_markIntS_l0 (l : List Int) (m : Nat) (hl : l.length ≤ 1048576) (hm : m ≤ 1000000000) : ∀ d i : Nat, i + d = l.length → Ev (fun k => laws_markIntS.l0 k (marks m i ++ l.drop i) ((m + i : Nat) : Int) (i : Int)) (((m + l.length : Nat) : Int), marks m l.length) := by
  intro d
  induction d with
  | zero =>
    intro i hi
    obtain rfl : i = l.length := by omega
    refine Ev.step (f := fun _ => some (((m + l.length : Nat) : Int), marks m l.length)) (fun k => ?_) (Ev.now _)
    simp only [laws_markIntS.l0, List.drop_length, List.append_nil, marks_length]
    rw [if_neg (by omega)]
  | succ d ih =>
    intro i hi
    have hlt : i < l.length := by omega
    refine Ev.step (f := fun k => laws_markIntS.l0 k (marks m (i + 1) ++ l.drop (i + 1)) ((m + (i + 1) : Nat) : Int) ((i + 1 : Nat) : Int)) (fun k => ?_) (ih (i + 1) (by omega))
    have e : (marks m i ++ l.drop i).set i ((m + i : Nat) : Int) = marks m (i + 1) ++ l.drop (i + 1) := by
      rw [List.set_append_right _ _ (by rw [marks_length]; omega), marks_length, Nat.sub_self, List.drop_eq_getElem_cons hlt, List.set_cons_zero, marks_succ, List.append_assoc]
      rfl
    have hlen : (marks m i ++ l.drop i).length = l.length := by rw [List.length_append, marks_length, List.length_drop]; omega
    have e2 : wrap64 (((m + i : Nat) : Int) + 1) = ((m + (i + 1) : Nat) : Int) := by rw [wrap_id (by omega) (by omega)]; omega
    simp only [laws_markIntS.l0, hlen, Int.toNat_natCast, e, e2, wrap_succ i (by omega)]
    rw [if_pos (by omega), if_pos (by omega)]
theorem laws_markIntS_ev (l : List Int) (m : Nat) (hl : l.length ≤ 1048576) (hm : m ≤ 1000000000) : Ev (fun k => laws_markIntS.f k l (m : Int)) (((m + l.length : Nat) : Int), marks m l.length) := by
  have := laws_markIntS_l0 l m hl hm l.length 0 (by omega)
  simp only [marks, List.range_zero, List.map_nil, List.nil_append, List.drop_zero, Nat.add_zero] at this
  exact this

theorem laws_heldIntS_l0 (m n : Nat) (h : m + n ≤ 2000000000) : ∀ d i : Nat, i + d = n → Ev (fun k => laws_heldIntS.l0 k (marks m n) ((m + i : Nat) : Int) (i : Int)) ((m + n : Nat) : Int) := by
  intro d
  induction d with
  | zero =>
    intro i hi
    obtain rfl : i = n := by omega
    refine Ev.step (f := fun _ => some ((m + i : Nat) : Int)) (fun k => ?_) (Ev.now _)
    simp only [laws_heldIntS.l0, marks_length]
    rw [if_neg (by omega)]
  | succ d ih =>
    intro i hi
    refine Ev.step (f := fun k => laws_heldIntS.l0 k (marks m n) ((m + (i + 1) : Nat) : Int) ((i + 1 : Nat) : Int)) (fun k => ?_) (ih (i + 1) (by omega))
    have hlt : i < (marks m n).length := by rw [marks_length]; omega
    have e2 : wrap64 (((m + i : Nat) : Int) + 1) = ((m + (i + 1) : Nat) : Int) := by rw [wrap_id (by omega) (by omega)]; omega
    simp only [laws_heldIntS.l0, rd_nat _ i hlt, marks_get, marks_length, e2, wrap_succ i (by omega)]
    rw [if_pos (by omega), if_pos (by omega)]
    simp
theorem laws_heldIntS_ev (m n : Nat) (h : m + n ≤ 2000000000) : Ev (fun k => laws_heldIntS.f k (marks m n) (m : Int)) ((m + n : Nat) : Int) := laws_heldIntS_l0 m n h n 0 (by omega)

/-- All places numbered from a on. -/
def marksS : Nat → List (List Int) → List (List Int)
  | _, [] => []
  | a, r :: m => marks a r.length :: marksS (a + r.length) m
def tot : List (List Int) → Nat
  | [] => 0
  | r :: m => r.length + tot m
theorem marksS_length : ∀ (a : Nat) (m : List (List Int)), (marksS a m).length = m.length
  | _, [] => rfl
  | a, r :: m => by simp only [marksS, List.length_cons, marksS_length]
theorem tot_append : ∀ (l m : List (List Int)), tot (l ++ m) = tot l + tot m
  | [], m => by simp [tot]
  | r :: l, m => by simp only [List.cons_append, tot, tot_append l m]; omega
theorem tot_take (m : List (List Int)) (i : Nat) : tot (m.take i) ≤ tot m := by
  have := tot_append (m.take i) (m.drop i)
  rw [List.take_append_drop] at this; omega
theorem tot_succ (m : List (List Int)) (i : Nat) (h : i < m.length) : tot (m.take (i + 1)) = tot (m.take i) + m[i].length := by
  rw [List.take_succ_eq_append_getElem h, tot_append]
  simp [tot]
theorem marksS_append : ∀ (a : Nat) (l m : List (List Int)), marksS a (l ++ m) = marksS a l ++ marksS (a + tot l) m
  | a, [], m => by simp [marksS, tot]
  | a, r :: l, m => by simp only [List.cons_append, marksS, tot, marksS_append (a + r.length) l m, Nat.add_assoc]
theorem tot_marksS : ∀ (a : Nat) (m : List (List Int)), tot (marksS a m) = tot m
  | _, [] => rfl
  | a, r :: m => by simp only [marksS, tot, marks_length, tot_marksS]
theorem tot_le : ∀ {m : List (List Int)} {b : Nat}, (∀ r ∈ m, r.length ≤ b) → tot m ≤ m.length * b
  | [], _, _ => by simp [tot]
  | r :: m, b, h => by
    have h1 := h r List.mem_cons_self
    have h2 := tot_le (m := m) (fun x hx => h x (List.mem_cons_of_mem _ hx))
    simp only [tot, List.length_cons, Nat.succ_mul]; omega
theorem marksS_get : ∀ (a : Nat) (m : List (List Int)) (i : Nat) (h : i < m.length) (h' : i < (marksS a m).length), (marksS a m)[i] = marks (a + tot (m.take i)) m[i].length
  | a, r :: m, 0, _, _ => by simp [marksS, tot]
  | a, r :: m, i + 1, h, h' => by
    simp only [marksS, List.getElem_cons_succ, List.take_succ_cons, tot]
    rw [marksS_get (a + r.length) m i (by simpa using h)]
    rw [Nat.add_assoc]

theorem laws_heldIntSS_l0 (a : Nat) (m : List (List Int)) (h : a + tot m ≤ 2000000000) (hl : m.length ≤ 1048576) : ∀ d i : Nat, i + d = m.length → Ev (fun k => laws_heldIntSS.l0 k (marksS a m) ((a + tot (m.take i) : Nat) : Int) (i : Int)) ((a + tot m : Nat) : Int) := by
  intro d
  induction d with
  | zero =>
    intro i hi
    obtain rfl : i = m.length := by omega
    refine Ev.step (f := fun _ => some ((a + tot m : Nat) : Int)) (fun k => ?_) (Ev.now _)
    rw [laws_heldIntSS.l0.eq_2, marksS_length, if_neg (by omega), List.take_length]
  | succ d ih =>
    intro i hi
    have hlt : i < m.length := by omega
    have hlt2 : i < (marksS a m).length := by rw [marksS_length]; exact hlt
    have ht := tot_succ m i hlt
    have hb := tot_take m (i + 1)
    have E := laws_heldIntS_ev (a + tot (m.take i)) m[i].length (by omega)
    refine Ev.step (f := fun k => (laws_heldIntS.f k (marks (a + tot (m.take i)) m[i].length) ((a + tot (m.take i) : Nat) : Int)).bind fun t => if t < 0 then some (-1) else laws_heldIntSS.l0 k (marksS a m) t ((i + 1 : Nat) : Int)) (fun k => ?_)
      (Ev.bind (f := fun k t => if t < 0 then some (-1) else laws_heldIntSS.l0 k (marksS a m) t ((i + 1 : Nat) : Int)) E ?_)
    · rw [laws_heldIntSS.l0.eq_2, marksS_length, if_pos (by omega), if_pos (by omega), rdL_nat _ i hlt2, marksS_get a m i hlt, wrap_succ i (by omega)]
    · have e : a + tot (m.take i) + m[i].length = a + tot (m.take (i + 1)) := by omega
      simp only [e, if_neg (show ¬ ((a + tot (m.take (i + 1)) : Nat) : Int) < 0 by omega)]
      exact ih (i + 1) (by omega)
theorem laws_heldIntSS_ev (a : Nat) (m : List (List Int)) (h : a + tot m ≤ 2000000000) (hl : m.length ≤ 1048576) : ∃ K, laws_heldIntSS.f K (marksS a m) (a : Int) = some ((a + tot m : Nat) : Int) := by
  have := laws_heldIntSS_l0 a m h hl m.length 0 (by omega)
  exact this.rounds

theorem rows_len {w : World} {A : Option Addr} {n : Nat} {E : TypeId} {xs : List (List Int)} (h : Kd.C (Kd.slice E (Kd.int .i64)) w A n xs) : xs.length ≤ 9223372036854775807 ∧ ∀ r ∈ xs, r.length ≤ 9223372036854775807 := by
  have hn := h.1
  have hm := h.2.1
  refine ⟨by omega, fun r hr => ?_⟩
  obtain ⟨i, hi, rfl⟩ := List.getElem_of_mem hr
  obtain ⟨_, _, _, _, _, _, hC⟩ := Mx.rows_at h i (by omega) hi
  have := hC.2.1
  have := hC.1
  omega
theorem small_rows {m : List (List Int)} (h : m.length + tot m ≤ 1048576) : m.length ≤ 1048576 ∧ (∀ r ∈ m, r.length ≤ 1048576) ∧ tot m ≤ 1048576 := by
  have ht : ∀ (l : List (List Int)), ∀ r ∈ l, r.length ≤ tot l := by
    intro l
    induction l with
    | nil => intro r hr; cases hr
    | cons x l ih =>
      intro r hr
      rcases List.mem_cons.1 hr with rfl | hr
      · simp only [tot]; omega
      · have := ih r hr; simp only [tot]; omega
  exact ⟨by omega, fun r hr => by have := ht m r hr; omega, by omega⟩
theorem le_small {m : List (List Int)} {k : Nat} (h : m.length ≤ k ∧ ∀ r ∈ m, r.length ≤ k) (hk : k ≤ 1000 := by decide) : m.length ≤ 1000 ∧ ∀ r ∈ m, r.length ≤ 1000 := ⟨by omega, fun r hr => by have := h.2 r hr; omega⟩

theorem toS_e {w0 w : World} {L : List (Value × Env.It)} (E : Env.Env 22 3 w0 w L) (A : Option Addr) (c : Nat) (x : List Int) (hr0 : Kd.C (Kd.int .i64) w0 A x.length x) (hc0 : x.length ≤ c) (hxl : x.length ≤ 1048576) :
    Calls Try.prog 6 #[.slice A x.length c] w fun e w' => ∃ A1 c1, e = .returned (.slice A1 x.length c1) ∧ Env.Env 22 3 w0 w' ((.slice A1 x.length c1, .row x) :: L) := by
  obtain ⟨K, hK⟩ := (laws_toIntS_ev x hxl).rounds
  exact (laws_toIntS.calls K A c x x w (E.camer hr0) hc0 hK).mono fun e w' ⟨v, he, hR, hb⟩ => by
    obtain ⟨A1, c1, hv, hE⟩ := E.madeR hR hb
    subst hv
    exact ⟨A1, c1, he, hE⟩

theorem eqSS_e {w0 w : World} {L : List (Value × Env.It)} (E : Env.Env 22 3 w0 w L) (i j : Nat) {A1 A2 : Option Addr} {c1 c2 : Nat} {it1 it2 : Env.It} {m : List (List Int)} (hi : L[i]? = some (.slice A1 m.length c1, it1)) (hj : L[j]? = some (.slice A2 m.length c2, it2)) (hm1 : it1.rows = some m) (hm2 : it2.rows = some m) (hl : m.length ≤ 1048576) (hr : ∀ r ∈ m, r.length ≤ 1048576) :
    Calls Try.prog 8 #[.slice A1 m.length c1, .slice A2 m.length c2] w fun e w' => e = .returned (.bool true) ∧ Env.Env 22 3 w0 w' L := by
  obtain ⟨K, hK⟩ := laws_eqIntSS_same m hl hr
  have h1 := E.Cq (by decide) i hi hm1
  have h2 := E.Cq (by decide) j hj hm2
  exact (laws_eqIntSS.calls K A1 c1 m A2 c2 m true w h1.2 h1.1 h2.2 h2.1 hK).mono fun e w' ⟨he, hd⟩ => ⟨he, E.below hd.below⟩

theorem eqS_e {w0 w : World} {L : List (Value × Env.It)} (E : Env.Env 22 3 w0 w L) (i j : Nat) {A1 A2 : Option Addr} {c1 c2 : Nat} {x : List Int} (hi : L[i]? = some (.slice A1 x.length c1, .row x)) (hj : L[j]? = some (.slice A2 x.length c2, .row x)) (hl : x.length ≤ 1048576) :
    Calls Try.prog 9 #[.slice A1 x.length c1, .slice A2 x.length c2] w fun e w' => e = .returned (.bool true) ∧ Env.Env 22 3 w0 w' L := by
  obtain ⟨K, hK⟩ := (laws_eqIntS_ev x x (by omega)).rounds
  rw [decide_eq_true rfl] at hK
  exact (laws_eqIntS.calls K A1 c1 x A2 c2 x true w (E.Cr i hi) (E.capr i hi) (E.Cr j hj) (E.capr j hj) hK).mono fun e w' ⟨he, hd⟩ => ⟨he, E.below hd.below⟩

set_option maxHeartbeats 4000000 in
set_option maxRecDepth 100000 in
/-- All places of rows of one's own are numbered: they are apart, so each keeps its number. -/
theorem markSS_calls (lo hi : Nat) (A : Option Addr) (c : Nat) (m : List (List Int)) (vs : List Value) (a : Nat) (w0 w : World) (hB : Below w0.heap.size w0 w) (hlo : w0.heap.size ≤ lo) (hc0 : m.length ≤ c)
    (hM : Mx.Mx 22 3 w lo hi (.slice A m.length c) m vs) (hs : a + tot m ≤ 1000000000) (hr : ∀ r ∈ m, r.length ≤ 1048576) (hml : m.length ≤ 1048576) :
    Calls Try.prog 11 #[.slice A m.length c, .int .i64 (a : Int)] w fun e w' => e = .returned (.int .i64 ((a + tot m : Nat) : Int)) ∧ Mx.Mx 22 3 w' lo hi (.slice A m.length c) (marksS a m) vs ∧ Mx.Only lo hi w w' := by
  have HB := Aside0.mk hB
  have HM := Aside0.mk hM
  have HC := Aside0.mk hc0
  clear hB hM hc0
  go_enter Try.func11, Try.ntmps11
  go_wp2
  go_loopg [1, 5] m.length (fun gg s1 s5 wr => ∃ i : Nat, i ≤ m.length ∧ m.length - i ≤ gg ∧ s5 = .int .i64 i ∧ s1 = .int .i64 ((a + tot (m.take i) : Nat) : Int) ∧ Aside0 (Mx.Mx 22 3 wr lo hi (.slice A m.length c) (marksS a (m.take i) ++ m.drop i) vs) ∧ Aside0 (Mx.Only lo hi w wr))
  case atStart => exact ⟨0, Nat.zero_le _, by omega, rfl, by simp [tot], ⟨by simpa [marksS] using HM.out⟩, ⟨Mx.Only.refl _ _ _⟩⟩
  case round =>
    obtain ⟨i, hi', hg, rfl, rfl, HX, HO⟩ := hrel
    by_cases hlt : i < m.length
    · have hM := HX.out
      have hlen : (marksS a (m.take i) ++ m.drop i).length = m.length := by rw [List.length_append, marksS_length, ← List.length_append, List.take_append_drop]
      have hat : (marksS a (m.take i) ++ m.drop i)[i]? = some m[i] := by
        rw [List.getElem?_append_right (by rw [marksS_length, List.length_take]; omega), marksS_length, List.length_take, Nat.min_eq_left hi', Nat.sub_self, List.drop_eq_getElem_cons hlt]; rfl
      obtain ⟨u, hu⟩ := hM.at_ (i := i) (by rw [hlen]; exact hlt)
      have hrow := hM.row i m[i] u hat hu
      obtain ⟨g, cap, hv, hg0, hg1, _, _, hcell⟩ := hM.cells (by rw [hlen]; omega)
      have hc := (hcell i u hu).1
      clear hcell
      obtain ⟨K, hK⟩ := (laws_markIntS_ev m[i] (a + tot (m.take i)) (hr _ (List.getElem_mem hlt)) (by have := tot_take m i; omega)).rounds
      have hcall := laws_markIntS.calls K (fun k => some k = u.ownBlock) u m[i] _ _ _ w0 wr (HO.out.below HB.out HB.out.size hlo) (Kd.R_lower (Kd.R_tight rfl hrow) hlo) hK
      have hset : (marksS a (m.take i) ++ m.drop i).set i (marks (a + tot (m.take i)) m[i].length) = marksS a (m.take (i + 1)) ++ m.drop (i + 1) := by
        rw [List.set_append_right _ _ (by rw [marksS_length, List.length_take]; omega), marksS_length, List.length_take, Nat.min_eq_left hi', Nat.sub_self, List.drop_eq_getElem_cons hlt, List.set_cons_zero, List.take_succ_eq_append_getElem hlt, marksS_append, List.append_assoc]
        rfl
      have ht := tot_succ m i hlt
      obtain ⟨Au, cu, hus⟩ := Kd.R_slice hrow
      have HU := Aside0.mk hu
      have HR := Aside0.mk hrow
      have HA := Aside0.mk hat
      have HS := Aside0.mk hset
      have HT := Aside0.mk ht
      clear hM hlen hat hu hrow hK hset ht
      injection hv with hv1 hv2 hv3
      subst hv1
      clear hv2 hv3
      subst hus
      go_wp2_with (go_at_call 10; refine hcall.mono ?_; rintro e w1 ⟨rfl, hR1, hb1, hk1⟩)
      go_roundg (m.length - (i + 1))
      case measure => omega
      case rel =>
        refine ⟨i + 1, by omega, by omega, by go_num, by rw [HT.out]; congr 1; omega, ⟨?_⟩, ⟨HO.out.trans ?_⟩⟩
        · rw [← HS.out]
          exact HX.out.put (by decide) HU.out (fun k hk hne => hk1.2 k hk (fun he => hne he)) (Mx.row_base hR1 (fun k hk => ⟨(Mx.row_lo HR.out k hk).1, (Mx.row_lo HR.out k hk).2.1⟩))
        · exact Mx.Only.of_kept (HO.out.below HB.out HB.out.size hlo) hb1 hk1 (fun k hk => ⟨(Mx.row_lo HR.out k hk.symm).1, (Mx.row_lo HR.out k hk.symm).2.1⟩)
    · obtain rfl : i = m.length := by omega
      go_wp2
      go_ret
      have hx := HX.out
      rw [List.take_length, List.drop_length, List.append_nil] at hx
      exact ⟨by first | rfl | simp, hx, HO.out⟩
theorem markSS_one (lo hi : Nat) (A : Option Addr) (c : Nat) (m : List (List Int)) (vs : List Value) (w0 w : World) (hB : Below w0.heap.size w0 w) (hlo : w0.heap.size ≤ lo)
    (hM : Mx.Mx 22 3 w lo hi (.slice A m.length c) m vs) (hl : m.length ≤ 100) (hr : ∀ r ∈ m, r.length ≤ 1048576) (hs : tot m ≤ 100000000) :
    Calls Try.prog 11 #[.slice A m.length c, .int .i64 1] w fun e w' => e = .returned (.int .i64 ((1 + tot m : Nat) : Int)) ∧ Mx.Mx 22 3 w' lo hi (.slice A m.length c) (marksS 1 m) vs ∧ Mx.Only lo hi w w' := by
  have := markSS_calls lo hi A c m vs 1 w0 w hB hlo (hM.C' (by decide)).2.1 hM (by omega) hr (by omega)
  rwa [show ((1 : Nat) : Int) = 1 from rfl] at this

theorem markSS_e {w0 w : World} {L : List (Value × Env.It)} (E : Env.Env 22 3 w0 w L) (i : Nat) {A : Option Addr} {c : Nat} {m : List (List Int)} (hi : L[i]? = some (.slice A m.length c, .mat m)) (a : Nat) (z : Int) (hz : z = (a : Int)) (n : Nat) (hn : n = a + tot m) (hml : m.length ≤ 1048576) (hr : ∀ r ∈ m, r.length ≤ 1048576) (hs : n ≤ 1000000000) :
    Calls Try.prog 11 #[.slice A m.length c, .int .i64 z] w fun e w' => e = .returned (.int .i64 (n : Int)) ∧ Env.Env 22 3 w0 w' (L.set i (.slice A m.length c, .mat (marksS a m))) := by
  subst hz hn
  obtain ⟨lo, hi', h1, h2, ⟨vs, hM⟩, h4⟩ := E.turn i hi
  exact (markSS_calls lo hi' A c m vs a w0 w E.1 h1 (hM.C' (by decide)).2.1 hM hs hr hml).mono fun e w' ⟨he, hM', ho⟩ => ⟨he, h4 w' (.mat (marksS a m)) ho ⟨vs, hM'⟩⟩

theorem heldSS_e {w0 w : World} {L : List (Value × Env.It)} (E : Env.Env 22 3 w0 w L) (i : Nat) {A : Option Addr} {c : Nat} {m : List (List Int)} (a : Nat) (hi : L[i]? = some (.slice A m.length c, .mat (marksS a m))) (z : Int) (hz : z = (a : Int)) (n : Nat) (hn : n = a + tot m) (hml : m.length ≤ 1048576) (hs : n ≤ 1000000000) :
    Calls Try.prog 12 #[.slice A m.length c, .int .i64 z] w fun e w' => e = .returned (.int .i64 (n : Int)) ∧ Env.Env 22 3 w0 w' L := by
  subst hz hn
  obtain ⟨K, hK⟩ := laws_heldIntSS_ev a m (by omega) hml
  have hC := E.C (by decide) i hi
  have := laws_heldIntSS.calls K A c (marksS a m) (a : Int) _ w hC (by rw [marksS_length]; exact E.cap (by decide) i hi) hK
  rw [marksS_length] at this
  exact this.mono fun e w' ⟨he, hd⟩ => ⟨he, E.below hd.below⟩

theorem markS_e {w0 w : World} {L : List (Value × Env.It)} (E : Env.Env 22 3 w0 w L) (i : Nat) {A : Option Addr} {c : Nat} {x : List Int} (hi : L[i]? = some (.slice A x.length c, .row x)) (a : Nat) (z : Int) (hz : z = (a : Int)) (n : Nat) (hn : n = a + x.length) (hl : x.length ≤ 1048576) (hs : n ≤ 500000000) :
    Calls Try.prog 10 #[.slice A x.length c, .int .i64 z] w fun e w' => e = .returned (.int .i64 (n : Int)) ∧ Env.Env 22 3 w0 w' (L.set i (.slice A x.length c, .row (marks a x.length))) := by
  subst hz hn
  obtain ⟨lo, hi', h1, h2, hR, h4⟩ := E.turn i hi
  obtain ⟨K, hK⟩ := (laws_markIntS_ev x a hl (by omega)).rounds
  have hcall := laws_markIntS.calls K (fun k => some k = (Value.slice A x.length c).ownBlock) (.slice A x.length c) x _ _ _ w0 w E.1 (Kd.R_lower (Kd.R_tight rfl hR) h1) hK
  refine hcall.mono fun e w' => ?_
  rintro ⟨he, hR1, hb1, hk1⟩
  refine ⟨he, h4 w' (.row (marks a x.length)) (Mx.Only.of_kept E.1 hb1 hk1 (fun k hk => ?_)) (Mx.row_base hR1 (fun k hk => ?_))⟩
  · exact ⟨(Mx.row_lo hR k hk.symm).1, (Mx.row_lo hR k hk.symm).2.1⟩
  · exact ⟨(Mx.row_lo hR k hk).1, (Mx.row_lo hR k hk).2.1⟩

theorem add_at (g j : Nat) : (⟨g, 0, none⟩ : Addr).add j = ⟨g, 0 + j, none⟩ := by
  unfold Addr.add
  split
  · rename_i h; subst h; rfl
  · rfl
/-- A row of one's own, in the shelf's words. -/
theorem row_holds {e base g cap : Nat} {ok : Nat → Prop} {w : World} {l : List Int} (hR : (Kd.int .i64).R e w base ok (.slice (some ⟨g, 0, none⟩) l.length cap) l) (hp : 0 < l.length) : Sort.Holds (Value.int .i64) w g 0 l.toArray ∧ base ≤ g ∧ g < w.heap.size ∧ l.length ≤ cap := by
  obtain ⟨g', cap', he, hb, hl, cells, hc⟩ := Kd.R_form hR hp
  injection he with h1 _ h3
  injection h1 with h1
  injection h1 with h1
  subst h1 h3
  have hC := Kd.R_reads' hR
  refine ⟨fun j hj => ?_, hb, hl, hC.2.1⟩
  have hj' : j < l.length := by simpa using hj
  obtain ⟨ad, hA, hcell⟩ := Kd.at_int hC.2.2 (j : Int) (by omega) (by omega)
  injection hA with hA
  subst hA
  rw [Int.toNat_natCast, add_at] at hcell
  refine ⟨?_, by simp [World.frozen?, hc]⟩
  rw [hcell]
  unfold rd
  simp [List.getD_eq_getElem?_getD, hj']
/-- And back. -/
theorem holds_row {g : Nat} {w : World} {l : List Int} (h : Sort.Holds (Value.int .i64) w g 0 l.toArray) (hl : l.length ≤ 9223372036854775807) : (Kd.int .i64).C w (some ⟨g, 0, none⟩) l.length l := by
  refine ⟨rfl, hl, fun _ => ⟨_, rfl, fun j p hj => ⟨[.int .i64 p], rfl, rfl, fun i u hu => ?_⟩⟩⟩
  have hjl := (List.getElem?_eq_some_iff.1 hj).1
  have hi : i = 0 := by
    have := (List.getElem?_eq_some_iff.1 hu).1
    simpa using this
  subst hi
  injection hu with hu
  subst hu
  have h1 := (h j (by simpa using hjl)).1
  rw [add_at, show (Kd.int .i64).sz = 1 from rfl, Nat.mul_one, Nat.add_zero, h1]
  have h2 := (List.getElem?_eq_some_iff.1 hj).2
  simp [hjl, h2]
/-- Behind slices.Sort. -/
theorem sorted_row {g n : Nat} {w : World} {os : Array Obj} {l ts : List Int} (h : Sort.Holds (Value.int .i64) w g 0 l.toArray) (hg : g < w.heap.size) (hl : ts.length = l.length) : Sort.Holds (Value.int .i64) (Sort.grow (Sort.putRow (Value.int .i64) (Sort.ahead w n) g 0 ts.toArray) os) g 0 ts.toArray :=
  Sort.holds_grow _ _ _ _ _ _ (by simpa using hg) (Sort.holds_putRow _ _ _ _ l.toArray ts.toArray (Sort.holds_ahead _ w n _ _ _ h) (by simpa using hl))
theorem put_below {base g n : Nat} {w0 w : World} {ts : List Int} (hB : Below base w0 w) (hb : base ≤ g) : Below base w0 (Sort.putRow (Value.int .i64) (Sort.ahead w n) g 0 ts.toArray) := by
  refine hB.trans ⟨rfl, rfl, rfl, by simp, fun k hk => ?_⟩
  have : g ≠ k := by omega
  simp [Sort.putRow, Sort.mapBlock, Sort.ahead, Array.getElem?_modify, this]
theorem grow_below {base : Nat} {w0 w : World} (os : Array Obj) (hB : Below base w0 w) (hb : base ≤ w.heap.size) : Below base w0 (Sort.grow w os) := by
  refine hB.trans ⟨rfl, rfl, rfl, by simp [Sort.grow], fun k hk => ?_⟩
  rw [Sort.heap_grow_old _ _ (by omega)]
theorem holds_drewN {g : Nat} {w : World} {l : List Int} (h : Sort.Holds (Value.int .i64) w g 0 l.toArray) (n : Nat) : Sort.Holds (Value.int .i64) (w.drewN n) g 0 l.toArray := by
  intro j hj
  have hb := pw_below_drewN (Below.refl w.heap.size w) n
  have h1 := h j hj
  exact ⟨pw_cell_below hb h1.1, h1.2⟩

theorem infoR : (Try.prog.info? 22).map (fun i => (i.zero, i.size, i.bytes)) = some (some (.slice none 0 0), 1, 24) := by kernel_rfl

/-- A row made since is put behind a list of rows: 'out = append(out, row)'. -/
theorem app_event {ops : Array Oper} {rest : List Oper} {o : Oper} {a : Act} {Q : Exit → Act → World → Prop} {w0 wr W : World} (base : Nat) (hgd : o.guard = none) (s x : Operand)
    (ho : o.op = .call { callee := .builtin .append, args := #[s, x], argTypes := #[23, 23] }) (v : Value) (m : List (List Int)) (Au : Option Addr) (cu : Nat) (row : List Int) (hs : a.eval s = v) (hx : a.eval x = .slice (some ⟨W.heap.size, 0, none⟩) 1 1)
    (hS : (Kd.slice 3 (Kd.int .i64)).S 22 wr base (fun _ => True) v m) (hb : Below wr.heap.size wr W) (hR : (Kd.int .i64).R 3 W wr.heap.size (fun _ => True) (.slice Au row.length cu) row) (HB : Below base w0 W) (hbase : base ≤ wr.heap.size) (hl : m.length ≤ 1000000)
    (h : ∀ A1 c1 w1, (Kd.slice 3 (Kd.int .i64)).S 22 w1 base (fun _ => True) (.slice A1 (m.length + 1) c1) (m ++ [row]) → Below base w0 w1 → Aside0 (∀ (g tq : Nat) (cs : Array Value), tq ≠ 22 → wr.heap[g]? = some (.cells cs tq (0, 0)) → w1.heap[g]? = some (.cells cs tq (0, 0))) → wpList Try.prog ops Q rest (a.put o.dst (.slice A1 (m.length + 1) c1)) w1) :
    wpList Try.prog ops Q (o :: rest) a (W.alloc (.cells #[.slice Au row.length cu] 22)) := by
  have hlt := Kd.S_lt hS
  have hty := Kd.S_typed hS
  have hnew : ∀ k, some k = (Value.slice Au row.length cu).ownBlock → wr.heap.size ≤ k := fun k hk => Kd.R_base hR k hk.symm
  refine Kd.S_append (Kd.slice 3 (Kd.int .i64)) (w0 := w0) base hgd s x 23 22 (.slice none 0 0) 24 ho Try.underlying23 infoR rfl (by decide) (by omega) v m row [.slice Au row.length cu] (fun _ => True) (fun k => some k = (Value.slice Au row.length cu).ownBlock) hs hx
    (Kd.M_row (Kd.R_mono (Kd.R_tight rfl (Kd.R_lower hR hbase)) (fun _ h_ => h_))) (fun k hk => ⟨trivial, fun he => by have h1 := hnew k hk; have h2 := hlt k he.symm; omega⟩) (fun _ _ => trivial)
    (Kd.S_mono (Kd.S_old hS hb) (fun k hk => ⟨trivial, fun he => by have h1 := hnew k he; have h2 := hk.2; omega⟩)) HB (Nat.le_trans hbase hb.size) (by omega) ?_
  intro v1 w1 h1 h2 h3 _
  obtain ⟨A1, c1, rfl⟩ := Kd.S_slice h1
  rw [show (m ++ [row]).length = m.length + 1 by simp] at h1 ⊢
  exact h A1 c1 w1 h1 h2 ⟨fun g tq cs hne hg => blk_grown (blk_below hg hb) h3 (fun he => by
    obtain ⟨cells, hc⟩ := hty g he.symm
    rw [hc] at hg
    injection hg with hg
    injection hg with _ hg
    exact hne hg.symm)⟩
theorem S_empty {e : TypeId} {w : World} {base : Nat} {ok : Nat → Prop} {v : Value} (h : (Kd.slice 3 (Kd.int .i64)).R e w base ok v []) : (Kd.slice 3 (Kd.int .i64)).S e w base ok v [] := by
  obtain ⟨h0, inner, ho, hr⟩ := h
  exact ⟨fun _ => 0, h0, inner, ho, hr.1, fun j p hj => by simp at hj⟩

theorem infoJ : (Try.prog.info? 3).map (fun i => (i.zero, i.size, i.bytes)) = some (some (.int .i64 0), 1, 8) := by kernel_rfl

def impl_CauchyMatrix.f (x y : List Int) : Option (List (List Int) × Bool) := if x.length ≤ 1048576 ∧ y.length ≤ 1048576 then some (cauV x y) else none
theorem impl_CauchyMatrix_eq (x y : List Int) (hx : x.length ≤ 1048576) (hy : y.length ≤ 1048576) : impl_CauchyMatrix.f x y = some (cauV x y) := if_pos ⟨hx, hy⟩
theorem cauV_off {x y : List Int} (h : cauOk x y = false) : cauV x y = ([], false) := by unfold cauV; rw [h]; rfl
/-- The rows, in the form the walk makes them. -/
theorem cauchyM_take (X Y : List Nat) (i : Nat) (h : i < X.length) : upM (cauchyM (X.take (i + 1)) Y) = upM (cauchyM (X.take i) Y) ++ [Poly.up (cauchyR (X.getD i 0) Y)] := by
  have e : X.getD i 0 = X[i] := by rw [List.getD_eq_getElem?_getD, List.getElem?_eq_getElem h]; rfl
  unfold cauchyM
  rw [List.take_succ_eq_append_getElem h, List.map_append, ← upM_append, e]; rfl
theorem cauchyR_take (a : Nat) (Y : List Nat) (j : Nat) (h : j < Y.length) : Poly.up (cauchyR a (Y.take (j + 1))) = Poly.up (cauchyR a (Y.take j)) ++ [((Gf.gi (a ^^^ Y.getD j 0) : Nat) : Int)] := by
  have e : Y.getD j 0 = Y[j] := by rw [List.getD_eq_getElem?_getD, List.getElem?_eq_getElem h]; rfl
  unfold cauchyR
  rw [List.take_succ_eq_append_getElem h, List.map_append, ← Poly.up_append, e]; rfl
set_option maxHeartbeats 8000000 in
set_option maxRecDepth 100000 in
theorem impl_CauchyMatrix.calls (A0 : Option Addr) (c0 : Nat) (x : List Int) (A1 : Option Addr) (c1 : Nat) (y : List Int) (r1 : List (List Int)) (r2 : Bool) (w : World) (hr0 : Kd.C (Kd.int .i64) w A0 x.length x) (hc0 : x.length ≤ c0) (hr1 : Kd.C (Kd.int .i64) w A1 y.length y) (hc1 : y.length ≤ c1) (h : impl_CauchyMatrix.f x y = some (r1, r2)) :
    Calls Try.prog 7 #[.slice A0 x.length c0, .slice A1 y.length c1] w fun e w' => ∃ v0_ : Value, e = .returned (.tuple #[v0_, .bool r2]) ∧ Kd.S (Kd.slice 3 (Kd.int .i64)) 22 w' w.heap.size (fun _ => True) v0_ r1 ∧ Below w.heap.size w w' := by
  unfold impl_CauchyMatrix.f at h
  split at h
  rotate_left
  · cases h
  rename_i hs
  injection h with h
  have HR0 := Aside0.mk hr0
  have HC0 := Aside0.mk hc0
  have HR1 := Aside0.mk hr1
  have HC1 := Aside0.mk hc1
  have HB := Aside0.mk (Below.refl w.heap.size w)
  have ewx : impl_within.f (x.length : Int) 1 8 = some (decide (1 ≤ x.length ∧ x.length ≤ 8)) := by
    rw [impl_within_eq]
    exact congrArg some (decide_eq_decide.2 (by omega))
  have ewy : impl_within.f (y.length : Int) 1 8 = some (decide (1 ≤ y.length ∧ y.length ≤ 8)) := by
    rw [impl_within_eq]
    exact congrArg some (decide_eq_decide.2 (by omega))
  have HWX := Aside0.mk ewx
  have HWY := Aside0.mk ewy
  clear hr0 hc0 hr1 hc1 ewx ewy
  cases g1 : decide (1 ≤ x.length ∧ x.length ≤ 8) with
  | false =>
    rw [cauV_off (by unfold cauOk; rw [g1]; rfl)] at h
    injection h with h1 h2
    subst h1 h2
    rw [g1] at HWX
    clear g1 hs
    go_enter Try.func7, Try.ntmps7
    go_wp2_with (first
      | (go_at_call 29; with_reducible refine (impl_within.calls (x.length : Int) 1 8 false _ HWX.out).mono ?_; rintro e w' ⟨rfl, ⟨nd1, rfl⟩⟩))
    go_ret2
    exact ⟨_, rfl, Kd.S_nil _ _ _ _ _, pw_below_drewN HB.out _⟩
  | true =>
  cases g2 : decide (1 ≤ y.length ∧ y.length ≤ 8) with
  | false =>
    rw [cauV_off (by unfold cauOk; rw [g1, g2]; rfl)] at h
    injection h with h1 h2
    subst h1 h2
    rw [g1] at HWX
    rw [g2] at HWY
    clear g1 g2 hs
    go_enter Try.func7, Try.ntmps7
    go_wp2_with (first
      | (go_at_call 29; with_reducible refine (impl_within.calls (x.length : Int) 1 8 true _ HWX.out).mono ?_; rintro e w' ⟨rfl, ⟨nd1, rfl⟩⟩)
      | (go_at_call 29; with_reducible refine (impl_within.calls (y.length : Int) 1 8 false _ HWY.out).mono ?_; rintro e w' ⟨rfl, ⟨nd2, rfl⟩⟩))
    go_ret2
    exact ⟨_, rfl, Kd.S_nil _ _ _ _ _, pw_below_drewN HB.out _⟩
  | true =>
  rw [g1] at HWX
  rw [g2] at HWY
  have zx := of_decide_eq_true g1
  have zy := of_decide_eq_true g2
  have HXY := Aside0.mk (And.intro zx zy)
  obtain ⟨l, hl⟩ : ∃ l, l = x ++ y := ⟨_, rfl⟩
  have hll : l.length = x.length + y.length := by rw [hl, List.length_append]
  have HL := Aside0.mk hl
  have HL0 := Aside0.mk (show 0 < l.length by omega)
  have HCL := Aside0.mk (show slices_Clone_int_int.f x = some x by unfold slices_Clone_int_int.f; rw [if_pos (by omega)])
  have hsl := Srt.srt_length l
  have hsort : Aside0 (∀ (g cap : Nat) (W : World), Sort.Holds (Value.int .i64) W g 0 l.toArray → g < W.heap.size → Calls Try.prog 31 #[.slice (some ⟨g, 0, none⟩) l.length cap] W fun e w' => e = .returned (.tuple #[]) ∧ Sort.Holds (Value.int .i64) w' g 0 (Srt.srt l).toArray ∧ (∀ (base : Nat) (w0 : World), Below base w0 W → base ≤ g → Below base w0 w') ∧ W.heap.size ≤ w'.heap.size) := ⟨fun g cap W hH hg => (slices_Sort_int_int.calls g cap l W hH hg (by omega)).mono fun e w' => by
    rintro ⟨he, n, os, rfl⟩
    have hb : W.heap.size ≤ (Sort.grow (Sort.putRow (Value.int .i64) (Sort.ahead W n) g 0 (Srt.srt l).toArray) os).heap.size := by simp [Sort.grow]
    refine ⟨he, sorted_row hH hg hsl, fun base w0 hB hbg => grow_below os (put_below hB hbg) (by simp; omega), hb⟩⟩
  have harea : Aside0 (∀ (g cap : Nat) (W : World), Sort.Holds (Value.int .i64) W g 0 (Srt.srt l).toArray → l.length ≤ cap → Calls Try.prog 32 #[.slice (some ⟨g, 0, none⟩) l.length cap] W fun e w' => e = .returned (.bool (l.all isB)) ∧ Drawn0 W w') := ⟨fun g cap W hH hcap => by
    have := impl_areGf.calls (some ⟨g, 0, none⟩) cap (Srt.srt l) (l.all isB) W (holds_row hH (by omega)) (by omega) (by rw [impl_areGf_eq, Srt.srt_all])
    rwa [hsl] at this⟩
  have hcomp : Aside0 (∀ (g cap : Nat) (W : World), Sort.Holds (Value.int .i64) W g 0 (Srt.srt l).toArray → l.length ≤ cap → Calls Try.prog 33 #[.slice (some ⟨g, 0, none⟩) l.length cap] W fun e w' => e = .returned (.slice (some ⟨g, 0, none⟩) (Lib.compact (Srt.srt l)).length cap) ∧ (∀ (base : Nat) (w0 : World), Below base w0 W → base ≤ g → Below base w0 w')) := ⟨fun g cap W hH hcap => by
    have := slices_Compact_int_int.calls g cap (Srt.srt l) W hH (by omega) (by omega)
    rw [hsl] at this
    refine this.mono fun e w' => ?_
    rintro ⟨he, q, rfl⟩
    exact ⟨he, fun base w0 hB hbg => put_below hB hbg⟩⟩
  have hcn := Srt.srt_compact l
  generalize (Lib.compact (Srt.srt l)).length = cn at hcomp hcn
  have hw1 : wrap64 ((x.length : Int) + (y.length : Int)) = (x.length : Int) + (y.length : Int) := wrap_id (by omega) (by omega)
  have hw2 : IntKind.i64.wrap ((x.length : Int) + (y.length : Int)) = (x.length : Int) + (y.length : Int) := (i64_w _).trans hw1
  cases g3 : l.all isB with
  | false =>
    rw [cauV_off (by unfold cauOk; rw [← hl, g1, g2, g3]; rfl)] at h
    injection h with h1 h2
    subst h1 h2
    rw [g3] at harea
    clear g1 g2 g3 hs zx zy hll hsl hcn hw1 hw2 hl
    go_enter Try.func7, Try.ntmps7
    go_wp2_with (first
      | (go_at_call 29; with_reducible refine (impl_within.calls (x.length : Int) 1 8 true _ HWX.out).mono ?_; rintro e w' ⟨rfl, ⟨nd1, rfl⟩⟩)
      | (go_at_call 29; with_reducible refine (impl_within.calls (y.length : Int) 1 8 true _ HWY.out).mono ?_; rintro e w' ⟨rfl, ⟨nd2, rfl⟩⟩)
      | (go_at_call 30; refine (slices_Clone_int_int.calls A0 c0 x x _ (Kd.C_drewN HR0.out _) HC0.out HCL.out).mono ?_; rintro e w1 ⟨v1, rfl, hR1, hb1⟩; obtain ⟨A9, c9, rfl⟩ := Kd.R_slice hR1; have HB1 := Aside0.mk (below_step (pw_below_drewN HB.out _) hb1); have HO1 := Aside0.mk (Kd.R_lower hR1 (pw_below_drewN HB.out _).size); clear hb1 hR1)
      | ((with_reducible refine gate_builtin (b := .append) (xs := #[.tmp 24, .tmp 25]) rfl ?_); at_builtin; refine Kd.R_append_rows (Kd.int .i64) (w0 := w) w.heap.size rfl (.tmp 24) (.tmp 25) 22 3 (.int .i64 0) 8 rfl Try.underlying22 infoJ rfl (by decide) (by decide) (.slice A9 x.length c9) x y _ _ _ (fun _ => True) (fun _ => False) rfl rfl ?aO ?aR (fun _ _ h => h) (fun _ h => h.elim) ?aF ?aB ?aS ?aL ?_; (case aR => exact Kd.C_below HR1.out HB1.out); (case aB => exact HB1.out); (case aF => exact (fun _ _ => trivial)); (case aO => exact HO1.out); (case aS => exact HB1.out.size); (case aL => have := HXY.out; omega); intro v2 w2 ho hb _ _; rw [← HL.out] at ho; obtain ⟨gb, cap, rfl, _, _, _, _⟩ := Kd.R_form ho HL0.out; have HH2 := Aside0.mk (row_holds ho HL0.out); have HB2 := Aside0.mk hb; clear ho hb)
      | (go_at_call 31; refine (hsort.out gb cap _ HH2.out.1 HH2.out.2.2.1).mono ?_; rintro e w3 ⟨rfl, hh3, hb3, hs3⟩; have HH3 := Aside0.mk hh3; have HB3 := Aside0.mk (hb3 w.heap.size w HB2.out HH2.out.2.1); clear hh3 hb3 hs3)
      | (go_at_call 32; refine (harea.out gb cap _ HH3.out HH2.out.2.2.2).mono ?_; rintro e w' ⟨rfl, ⟨nd4, rfl⟩⟩))
    go_ret2
    exact ⟨_, rfl, Kd.S_nil _ _ _ _ _, by repeat (first | exact HB3.out | apply pw_below_drewN)⟩
  | true =>
  rw [g3] at harea
  by_cases g4 : l.Nodup
  rotate_left
  · rw [cauV_off (by unfold cauOk; rw [← hl, g1, g2, g3, decide_eq_false g4]; rfl)] at h
    injection h with h1 h2
    subst h1 h2
    have hlt : cn < l.length := by rw [hcn]; exact g4
    have j1 : ((cn : Int) < (x.length : Int) + (y.length : Int)) = True := eq_true (by omega)
    have j2 : (cn < x.length + y.length) = True := eq_true (by omega)
    clear g1 g2 g3 g4 hs hll hsl hcn hlt hl
    go_enter Try.func7, Try.ntmps7
    go_wp2_with (first
      | (go_at_call 29; with_reducible refine (impl_within.calls (x.length : Int) 1 8 true _ HWX.out).mono ?_; rintro e w' ⟨rfl, ⟨nd1, rfl⟩⟩)
      | (go_at_call 29; with_reducible refine (impl_within.calls (y.length : Int) 1 8 true _ HWY.out).mono ?_; rintro e w' ⟨rfl, ⟨nd2, rfl⟩⟩)
      | (go_at_call 30; refine (slices_Clone_int_int.calls A0 c0 x x _ (Kd.C_drewN HR0.out _) HC0.out HCL.out).mono ?_; rintro e w1 ⟨v1, rfl, hR1, hb1⟩; obtain ⟨A9, c9, rfl⟩ := Kd.R_slice hR1; have HB1 := Aside0.mk (below_step (pw_below_drewN HB.out _) hb1); have HO1 := Aside0.mk (Kd.R_lower hR1 (pw_below_drewN HB.out _).size); clear hb1 hR1)
      | ((with_reducible refine gate_builtin (b := .append) (xs := #[.tmp 24, .tmp 25]) rfl ?_); at_builtin; refine Kd.R_append_rows (Kd.int .i64) (w0 := w) w.heap.size rfl (.tmp 24) (.tmp 25) 22 3 (.int .i64 0) 8 rfl Try.underlying22 infoJ rfl (by decide) (by decide) (.slice A9 x.length c9) x y _ _ _ (fun _ => True) (fun _ => False) rfl rfl ?aO ?aR (fun _ _ h => h) (fun _ h => h.elim) ?aF ?aB ?aS ?aL ?_; (case aR => exact Kd.C_below HR1.out HB1.out); (case aB => exact HB1.out); (case aF => exact (fun _ _ => trivial)); (case aO => exact HO1.out); (case aS => exact HB1.out.size); (case aL => have := HXY.out; omega); intro v2 w2 ho hb _ _; rw [← HL.out] at ho; obtain ⟨gb, cap, rfl, _, _, _, _⟩ := Kd.R_form ho HL0.out; have HH2 := Aside0.mk (row_holds ho HL0.out); have HB2 := Aside0.mk hb; clear ho hb)
      | (go_at_call 31; refine (hsort.out gb cap _ HH2.out.1 HH2.out.2.2.1).mono ?_; rintro e w3 ⟨rfl, hh3, hb3, hs3⟩; have HH3 := Aside0.mk hh3; have HB3 := Aside0.mk (hb3 w.heap.size w HB2.out HH2.out.2.1); clear hh3 hb3 hs3)
      | (go_at_call 32; refine (harea.out gb cap _ HH3.out HH2.out.2.2.2).mono ?_; rintro e w' ⟨rfl, ⟨nd4, rfl⟩⟩)
      | (go_at_call 33; refine (hcomp.out gb cap _ (holds_drewN HH3.out _) HH2.out.2.2.2).mono ?_; rintro e w5 ⟨rfl, hb5⟩; have HB5 := Aside0.mk (hb5 w.heap.size w (pw_below_drewN HB3.out _) HH2.out.2.1); clear hb5))
    go_ret2
    exact ⟨_, rfl, Kd.S_nil _ _ _ _ _, HB5.out⟩
  have hge : ¬ cn < l.length := by rw [hcn]; exact fun h => h g4
  have j1 : ((cn : Int) < (x.length : Int) + (y.length : Int)) = False := eq_false (by omega)
  have j2 : (cn < x.length + y.length) = False := eq_false (by omega)
  have hok : cauOk x y = true := by unfold cauOk; rw [← hl, g1, g2, g3, decide_eq_true g4]; rfl
  unfold cauV at h
  rw [hok, if_pos rfl] at h
  rw [hl] at g3
  obtain ⟨X, Y, rfl, rfl, hX, hY⟩ := cauOk_up g3
  rw [map_up, map_up] at h
  injection h with h1 h2
  subst h1 h2
  have HX := Aside0.mk hX
  have HY := Aside0.mk hY
  have HXL := Aside0.mk (Poly.up_length X)
  have HYL := Aside0.mk (Poly.up_length Y)
  clear g1 g2 g3 g4 hs hll hsl hcn hge hl hok hX hY
  go_enter Try.func7, Try.ntmps7
  go_wp2_with (first
    | (go_at_call 29; with_reducible refine (impl_within.calls ((Poly.up X).length : Int) 1 8 true _ HWX.out).mono ?_; rintro e w' ⟨rfl, ⟨nd1, rfl⟩⟩)
    | (go_at_call 29; with_reducible refine (impl_within.calls ((Poly.up Y).length : Int) 1 8 true _ HWY.out).mono ?_; rintro e w' ⟨rfl, ⟨nd2, rfl⟩⟩)
    | (go_at_call 30; refine (slices_Clone_int_int.calls A0 c0 (Poly.up X) (Poly.up X) _ (Kd.C_drewN HR0.out _) HC0.out HCL.out).mono ?_; rintro e w1 ⟨v1, rfl, hR1, hb1⟩; obtain ⟨A9, c9, rfl⟩ := Kd.R_slice hR1; have HB1 := Aside0.mk (below_step (pw_below_drewN HB.out _) hb1); have HO1 := Aside0.mk (Kd.R_lower hR1 (pw_below_drewN HB.out _).size); clear hb1 hR1)
    | ((with_reducible refine gate_builtin (b := .append) (xs := #[.tmp 24, .tmp 25]) rfl ?_); at_builtin; refine Kd.R_append_rows (Kd.int .i64) (w0 := w) w.heap.size rfl (.tmp 24) (.tmp 25) 22 3 (.int .i64 0) 8 rfl Try.underlying22 infoJ rfl (by decide) (by decide) (.slice A9 (Poly.up X).length c9) (Poly.up X) (Poly.up Y) _ _ _ (fun _ => True) (fun _ => False) rfl rfl ?aO ?aR (fun _ _ h => h) (fun _ h => h.elim) ?aF ?aB ?aS ?aL ?_; (case aR => exact Kd.C_below HR1.out HB1.out); (case aB => exact HB1.out); (case aF => exact (fun _ _ => trivial)); (case aO => exact HO1.out); (case aS => exact HB1.out.size); (case aL => have := HXY.out; omega); intro v2 w2 ho hb _ _; rw [← HL.out] at ho; obtain ⟨gb, cap, rfl, _, _, _, _⟩ := Kd.R_form ho HL0.out; have HH2 := Aside0.mk (row_holds ho HL0.out); have HB2 := Aside0.mk hb; clear ho hb)
    | (go_at_call 31; refine (hsort.out gb cap _ HH2.out.1 HH2.out.2.2.1).mono ?_; rintro e w3 ⟨rfl, hh3, hb3, hs3⟩; have HH3 := Aside0.mk hh3; have HB3 := Aside0.mk (hb3 w.heap.size w HB2.out HH2.out.2.1); clear hh3 hb3 hs3)
    | (go_at_call 32; refine (harea.out gb cap _ HH3.out HH2.out.2.2.2).mono ?_; rintro e w' ⟨rfl, ⟨nd4, rfl⟩⟩)
    | (go_at_call 33; refine (hcomp.out gb cap _ (holds_drewN HH3.out _) HH2.out.2.2.2).mono ?_; rintro e w5 ⟨rfl, hb5⟩; have HB5 := Aside0.mk (hb5 w.heap.size w (pw_below_drewN HB3.out _) HH2.out.2.1); clear hb5)
    | ((with_reducible refine gate_dst (N := 43) rfl ?_); refine Kd.R_lit (Kd.slice 3 (Kd.int .i64)) _ 22 ?hg (N := 43) ?hd (xs := ([] : List (List Int))) (inner := []) (ok := fun _ => True) (okp := fun _ => True) ?hr ?hp (fun _ hk => hk) trivial (Below.refl _ _) (Nat.le_refl _) (by simp) ?_; (case hd => rfl); (case hg => rfl); (case hr => first | (go_simp; done) | (go_simp; rfl)); (case hp => exact (Reps.none _ _)); intro v43 w43 ho43 hb43 _ _; have HBL0 := Aside0.mk (below_step HB5.out hb43); have HSL0 := Aside0.mk (Kd.S_lower (S_empty ho43) HB5.out.size); clear ho43 hb43))
  clear hw1 hw2 j1 j2
  go_loopg [7, 46] (Poly.up X).length (fun gg v7 v46 wr => ∃ i : Nat, i ≤ (Poly.up X).length ∧ (Poly.up X).length - i ≤ gg ∧ v46 = .int .i64 i ∧ Aside0 ((Kd.slice 3 (Kd.int .i64)).S 22 wr w.heap.size (fun _ => True) v7 (upM (cauchyM (X.take i) Y))) ∧ Aside0 (Below w.heap.size w wr))
  case atStart => exact ⟨0, Nat.zero_le _, by omega, rfl, ⟨by rw [List.take_zero]; exact HSL0.out⟩, HBL0⟩
  case round =>
    clear HBL0 HSL0 HB5 HB3 HB2 HB1 HH2 HH3 HO1
    obtain ⟨i, hi', hg, rfl, HS, HBR⟩ := hrel
    by_cases hlt : i < (Poly.up X).length
    · have hltz : (i : Int) < ((Poly.up X).length : Int) := by omega
      have hi8 : (i : Int) ≤ 8 := by have := HXY.out; omega
      obtain ⟨ad, ea, hx⟩ := Kd.at_int HR0.out (i : Int) (by omega) hltz
      cases ea
      rw [Poly.rd_up, Int.toNat_natCast] at hx
      have hxa := pw_cell_below HBR.out hx
      have HiX := Aside0.mk (show i < X.length by have := HXL.out; omega)
      have eM := Aside0.mk (cauchyM_take X Y i HiX.out)
      have HA := Aside0.mk (HX.out.get i)
      have HSL := Aside0.mk (show (upM (cauchyM (X.take i) Y)).length ≤ 1000000 by rw [upM_length, cauchyM_length, List.length_take]; have := HXY.out; have := HiX.out; omega)
      generalize X.getD i 0 = a at hxa eM HA
      obtain ⟨wo, hwo⟩ : ∃ u, u = wr := ⟨_, rfl⟩
      subst hwo
      clear hx
      go_wp2_with ((with_reducible refine gate_dst (N := 50) rfl ?_); refine Kd.R_lit (Kd.int .i64) _ 3 ?hg (N := 50) ?hd (xs := ([] : List Int)) (inner := []) (ok := fun _ => True) (okp := fun _ => True) ?hr ?hp (fun _ hk => hk) trivial (Below.refl _ _) (Nat.le_refl _) (by simp) ?_; (case hd => rfl); (case hg => rfl); (case hr => first | (go_simp; done) | (go_simp; rfl)); (case hp => exact (Reps.none _ _)); intro v50 w50 ho50 hb50 _ _; have HBI0 := Aside0.mk hb50; have HRI0 := Aside0.mk ho50; clear ho50 hb50)
      go_loopg [10, 53] (Poly.up Y).length (fun gg v10 v53 wq => ∃ j : Nat, j ≤ (Poly.up Y).length ∧ (Poly.up Y).length - j ≤ gg ∧ v53 = .int .i64 j ∧ Aside0 ((Kd.int .i64).R 3 wq wo.heap.size (fun _ => True) v10 (Poly.up (cauchyR a (Y.take j)))) ∧ Aside0 (Below wo.heap.size wo wq))
      case atStart => exact ⟨0, Nat.zero_le _, by omega, rfl, ⟨by rw [List.take_zero]; exact HRI0.out⟩, HBI0⟩
      case round =>
        clear HBI0 HRI0
        obtain ⟨j, hj', hgj, rfl, HR, HBQ⟩ := hrel
        by_cases hjl : j < (Poly.up Y).length
        · have hjz : (j : Int) < ((Poly.up Y).length : Int) := by omega
          have hj8 : (j : Int) ≤ 8 := by have := HXY.out; omega
          obtain ⟨bd, eb, hy⟩ := Kd.at_int HR1.out (j : Int) (by omega) hjz
          cases eb
          rw [Poly.rd_up, Int.toNat_natCast] at hy
          have hyb := pw_cell_below (below_step HBR.out HBQ.out) hy
          have HjY := Aside0.mk (show j < Y.length by have := HYL.out; omega)
          have eR := Aside0.mk (cauchyR_take a Y j HjY.out)
          have hb := HY.out.get j
          generalize Y.getD j 0 = b at hyb eR hb
          have hxor := xor_up HA.out hb
          obtain ⟨K, hK⟩ := (impl_inverse_ev _ (Gf.xor_byte HA.out hb)).rounds
          generalize a ^^^ b = z at hxor hK eR
          have HK := Aside0.mk hK
          have HRL := Aside0.mk (show (Poly.up (cauchyR a (Y.take j))).length ≤ 1000 by rw [Poly.up_length]; simp only [cauchyR, List.length_map, List.length_take]; have := HjY.out; have := HXY.out; have := HYL.out; omega)
          generalize ((Gf.gi z : Nat) : Int) = q at HK eR
          generalize hrow : Poly.up (cauchyR a (Y.take j)) = row at HR HRL eR
          obtain ⟨A8, c8, rfl⟩ := Kd.R_slice HR.out
          clear hy hb hK hjz hrow
          go_wp2_with (first
            | (go_at_call 34; refine (impl_inverse.calls K (z : Int) q _ HK.out).mono ?_; rintro e w' ⟨rfl, ⟨nd6, rfl⟩⟩)
            | ((with_reducible refine gate_builtin (b := .append) (xs := #[.tmp 57, .tmp 62]) rfl ?_); at_builtin; refine Kd.R_append (Kd.int .i64) (w0 := wo) wo.heap.size rfl (.tmp 57) (.tmp 62) 22 3 (.int .i64 0) 8 rfl Try.underlying22 infoJ rfl (by decide) (by decide) (.slice A8 row.length c8) row q [.int .i64 q] (fun _ => True) (fun _ => False) rfl rfl ?aP (fun _ hk => hk.elim) ?aF ?aO ?aB ?aS ?aL ?_; (case aP => exact rfl); (case aB => exact (by repeat (first | (with_reducible first | exact HBQ.out | apply below_alloc | apply pw_below_drewN | apply below_drew1) | exact HBQ.out))); (case aF => exact (fun _ _ => trivial)); (case aO => exact (by (with_reducible repeat (first | apply Kd.R_alloc | apply Kd.R_drewN | apply Kd.R_drew)); exact HR.out)); (case aS => exact (below_size (by repeat (first | (with_reducible first | exact HBQ.out | apply below_alloc | apply pw_below_drewN | apply below_drew1) | exact HBQ.out)))); (case aL => have := HRL.out; omega); intro v63 w63 ho hb _ _; rw [← eR.out] at ho; have HO9 := Aside0.mk ho; have HB9 := Aside0.mk hb; clear ho hb))
          go_roundg ((Poly.up Y).length - (j + 1))
          case measure => omega
          case rel => exact ⟨j + 1, by omega, by omega, by go_num, HO9, HB9⟩
        · obtain rfl : j = (Poly.up Y).length := by omega
          have hR := HR.out
          rw [HYL.out, List.take_length] at hR
          obtain ⟨A9, c9, rfl⟩ := Kd.R_slice hR
          have HR' := Aside0.mk hR
          clear hR
          go_wp2_with ((with_reducible refine gate_builtin (b := .append) (xs := #[.tmp 65, .tmp 67]) rfl ?_); at_builtin; refine app_event (w0 := w) w.heap.size rfl (.tmp 65) (.tmp 67) rfl _ (upM (cauchyM (X.take i) Y)) A9 c9 (Poly.up (cauchyR a Y)) rfl rfl HS.out HBQ.out HR'.out ?aB ?aS HSL.out ?_; (case aB => exact below_step HBR.out HBQ.out); (case aS => exact HBR.out.size); intro A10 c10 w2 hS2 hB2 _; rw [← eM.out] at hS2; have HS2 := Aside0.mk hS2; have HB2 := Aside0.mk hB2; clear hS2 hB2)
          go_roundg ((Poly.up X).length - (i + 1))
          case measure => omega
          case rel => exact ⟨i + 1, by omega, by omega, by go_num, HS2, HB2⟩
    · obtain rfl : i = (Poly.up X).length := by omega
      have hS := HS.out
      rw [HXL.out, List.take_length] at hS
      have HS' := Aside0.mk hS
      clear hS
      go_wp2
      go_ret2
      exact ⟨_, rfl, HS'.out, HBR.out⟩

set_option maxHeartbeats 8000000 in
set_option maxRecDepth 100000 in
theorem laws_FnExactCauchyMatrix_calls (A0 : Option Addr) (c0 : Nat) (l0 : List Int) (A1 : Option Addr) (c1 : Nat) (l1 : List Int) (w : World) (hr0 : (Kd.int .i64).C w A0 l0.length l0) (hc0 : l0.length ≤ c0) (y0 : l0.length * 8 ≤ 140737488351232) (hw0 : ∀ x ∈ l0, (Lit.int .i64 x).wf = true) (hr1 : (Kd.int .i64).C w A1 l1.length l1) (hc1 : l1.length ≤ c1) (y1 : l1.length * 8 ≤ 140737488351232) (hw1 : ∀ x ∈ l1, (Lit.int .i64 x).wf = true) :
    Calls Try.prog 3 #[.slice A0 l0.length c0, .slice A1 l1.length c1] w fun e w' => e = .returned (.bool true) ∧ Below w.heap.size w w' := by
  have HR0 := Aside0.mk hr0
  have HC0 := Aside0.mk hc0
  have HG0 := Aside0.mk hw0
  clear hr0 hc0 hw0
  have HR1 := Aside0.mk hr1
  have HC1 := Aside0.mk hc1
  have HG1 := Aside0.mk hw1
  clear hr1 hc1 hw1
  clear y0
  clear y1
  have ENV := Aside0.mk (Env.Env.start (e := 22) (t := 3) w)
  by_cases g0 : l0.length ≤ 1048576
  rotate_left
  · have t0 : decide (1048576 < (l0.length : Int)) = true := decide_eq_true (by omega)
    have t0b : decide (1048576 < l0.length) = true := decide_eq_true (by omega)
    clear g0
    go_enter Try.func3, Try.ntmps3
    go_wp2
    go_ret
    exact ⟨rfl, ENV.out.1⟩
  have t0 : decide (1048576 < (l0.length : Int)) = false := decide_eq_false (by omega)
  have t0b : decide (1048576 < l0.length) = false := decide_eq_false (by omega)
  have HL0 := Aside0.mk g0
  clear g0
  by_cases g1 : l1.length ≤ 1048576
  rotate_left
  · have t1 : decide (1048576 < (l1.length : Int)) = true := decide_eq_true (by omega)
    have t1b : decide (1048576 < l1.length) = true := decide_eq_true (by omega)
    clear g1
    go_enter Try.func3, Try.ntmps3
    go_wp2
    go_ret
    exact ⟨rfl, ENV.out.1⟩
  have t1 : decide (1048576 < (l1.length : Int)) = false := decide_eq_false (by omega)
  have t1b : decide (1048576 < l1.length) = false := decide_eq_false (by omega)
  have HL1 := Aside0.mk g1
  clear g1
  obtain ⟨K91, h91⟩ := (spec_CauchyMatrix_ev l0 l1 HL0.out HL1.out).rounds
  have h92 := impl_CauchyMatrix_eq l0 l1 HL0.out HL1.out
  have hsm := le_small (cauV_small l0 l1)
  generalize cauV l0 l1 = g at h91 h92 hsm
  obtain ⟨r0, r1⟩ := g
  obtain ⟨hl_, hq_⟩ : r0.length ≤ 1000 ∧ ∀ r ∈ r0, r.length ≤ 1000 := hsm
  have hT_ := tot_le hq_
  have HP := Aside0.mk (show r0.length ≤ 1048576 ∧ (∀ r ∈ r0, r.length ≤ 1048576) ∧ tot r0 ≤ 1000000 from ⟨by omega, fun r h => by have := hq_ r h; omega, by have := Nat.mul_le_mul_right 1000 hl_; omega⟩)
  clear hl_ hq_ hT_
  have cc91 := fun A0_ c0_ A1_ c1_ w_ h0_ b0_ h1_ b1_ => spec_CauchyMatrix.calls K91 A0_ c0_ l0 A1_ c1_ l1 r0 r1 w_ h0_ b0_ h1_ b1_ h91
  have cc92 := fun A0_ c0_ A1_ c1_ w_ h0_ b0_ h1_ b1_ => impl_CauchyMatrix.calls A0_ c0_ l0 A1_ c1_ l1 r0 r1 w_ h0_ b0_ h1_ b1_ h92
  have e1 : (r1 != r1) = false := by simp
  have e1b : (r1 == r1) = true := by simp
  clear h91 h92
  obtain ⟨k0, hk0⟩ : ∃ n : Nat, n = 1 + l0.length := ⟨_, rfl⟩
  have HK0 := Aside0.mk hk0
  clear hk0
  have HKB0 := Aside0.mk (show k0 ≤ 1048577 by have := HK0.out; have := HL0.out; omega)
  obtain ⟨k1, hk1⟩ : ∃ n : Nat, n = k0 + l1.length := ⟨_, rfl⟩
  have HK1 := Aside0.mk hk1
  clear hk1
  have HKB1 := Aside0.mk (show k1 ≤ 2097153 by have := HK1.out; have := HL1.out; have := HKB0.out; omega)
  have qk : decide ((k1 : Int) < 0) = false := decide_eq_false (by omega)
  obtain ⟨kg, hkg⟩ : ∃ n : Nat, n = 1 + tot r0 := ⟨_, rfl⟩
  have HKG := Aside0.mk hkg
  have HKGB := Aside0.mk (show kg ≤ 2000000 by have := HP.out.2.2; omega)
  clear hkg
  have qg : decide ((kg : Int) < 0) = false := decide_eq_false (by omega)
  have qg2 : ((kg : Int) != (kg : Int)) = false := by simp
  have qg3 : ((kg : Int) == (kg : Int)) = true := by simp
  go_enter Try.func3, Try.ntmps3
  go_wp2_with fail
  refine (toS_e ENV.out A0 c0 l0 HR0.out HC0.out HL0.out).mono ?_
  rintro e w1 ⟨B1, d1, rfl, hE_⟩
  replace ENV := Aside0.mk hE_
  clear hE_
  go_wp2_with fail
  refine (toS_e ENV.out A1 c1 l1 HR1.out HC1.out HL1.out).mono ?_
  rintro e w2 ⟨B2, d2, rfl, hE_⟩
  replace ENV := Aside0.mk hE_
  clear hE_
  go_wp2_with fail
  refine (cc91 B1 d1 B2 d2 _ (ENV.out.Cr (A := B1) (n := l0.length) (c := d1) 1 rfl) (ENV.out.capr (A := B1) (n := l0.length) (c := d1) 1 rfl) (ENV.out.Cr (A := B2) (n := l1.length) (c := d2) 0 rfl) (ENV.out.capr (A := B2) (n := l1.length) (c := d2) 0 rfl)).mono ?_
  rintro e w3 ⟨v_, rfl, hS_, hb_⟩
  obtain ⟨B3, d3, rfl, hE_⟩ := ENV.out.madeS (by decide) hS_ hb_
  clear hS_ hb_
  replace ENV := Aside0.mk hE_
  clear hE_
  go_wp2_with fail
  refine (toS_e ENV.out A0 c0 l0 HR0.out HC0.out HL0.out).mono ?_
  rintro e w4 ⟨B4, d4, rfl, hE_⟩
  replace ENV := Aside0.mk hE_
  clear hE_
  go_wp2_with fail
  refine (toS_e ENV.out A1 c1 l1 HR1.out HC1.out HL1.out).mono ?_
  rintro e w5 ⟨B5, d5, rfl, hE_⟩
  replace ENV := Aside0.mk hE_
  clear hE_
  go_wp2_with fail
  refine (cc92 B4 d4 B5 d5 _ (ENV.out.Cr (A := B4) (n := l0.length) (c := d4) 1 rfl) (ENV.out.capr (A := B4) (n := l0.length) (c := d4) 1 rfl) (ENV.out.Cr (A := B5) (n := l1.length) (c := d5) 0 rfl) (ENV.out.capr (A := B5) (n := l1.length) (c := d5) 0 rfl)).mono ?_
  rintro e w6 ⟨v_, rfl, hS_, hb_⟩
  obtain ⟨B6, d6, rfl, hE_⟩ := ENV.out.madeS (by decide) hS_ hb_
  clear hS_ hb_
  replace ENV := Aside0.mk hE_
  clear hE_
  go_wp2_with fail
  refine (eqSS_e ENV.out 0 3 (A1 := B6) (A2 := B3) (c1 := d6) (c2 := d3) rfl rfl rfl rfl HP.out.1 HP.out.2.1).mono ?_
  rintro e w7 ⟨rfl, hE_⟩
  replace ENV := Aside0.mk hE_
  clear hE_
  go_wp2_with fail
  refine (toS_e ENV.out A0 c0 l0 HR0.out HC0.out HL0.out).mono ?_
  rintro e w8 ⟨B8, d8, rfl, hE_⟩
  replace ENV := Aside0.mk hE_
  clear hE_
  go_wp2_with fail
  refine (eqS_e ENV.out 3 0 (A1 := B4) (A2 := B8) (c1 := d4) (c2 := d8) rfl rfl HL0.out).mono ?_
  rintro e w9 ⟨rfl, hE_⟩
  replace ENV := Aside0.mk hE_
  clear hE_
  go_wp2_with fail
  refine (toS_e ENV.out A1 c1 l1 HR1.out HC1.out HL1.out).mono ?_
  rintro e w10 ⟨B10, d10, rfl, hE_⟩
  replace ENV := Aside0.mk hE_
  clear hE_
  go_wp2_with fail
  refine (eqS_e ENV.out 3 0 (A1 := B5) (A2 := B10) (c1 := d5) (c2 := d10) rfl rfl HL1.out).mono ?_
  rintro e w11 ⟨rfl, hE_⟩
  replace ENV := Aside0.mk hE_
  clear hE_
  go_wp2_with fail
  refine (markS_e ENV.out 4 (A := B4) (c := d4) rfl 1 _ rfl k0 HK0.out HL0.out (by have := HKB0.out; omega)).mono ?_
  rintro e w12 ⟨rfl, hE_⟩
  replace ENV := Aside0.mk hE_
  clear hE_
  go_wp2_with fail
  refine (markS_e ENV.out 3 (A := B5) (c := d5) rfl k0 _ rfl k1 HK1.out HL1.out (by have := HKB1.out; omega)).mono ?_
  rintro e w13 ⟨rfl, hE_⟩
  replace ENV := Aside0.mk hE_
  clear hE_
  go_wp2_with fail
  refine (eqSS_e ENV.out 2 5 (A1 := B6) (A2 := B3) (c1 := d6) (c2 := d3) rfl rfl rfl rfl HP.out.1 HP.out.2.1).mono ?_
  rintro e w14 ⟨rfl, hE_⟩
  replace ENV := Aside0.mk hE_
  clear hE_
  go_wp2_with fail
  refine (markSS_e ENV.out 2 (A := B6) (c := d6) rfl 1 _ rfl kg HKG.out HP.out.1 HP.out.2.1 (by have := HKGB.out; omega)).mono ?_
  rintro e w15 ⟨rfl, hE_⟩
  replace ENV := Aside0.mk hE_
  clear hE_
  go_wp2_with fail
  refine (heldSS_e ENV.out 2 (A := B6) (c := d6) (m := r0) 1 rfl _ rfl kg HKG.out HP.out.1 (by have := HKGB.out; omega)).mono ?_
  rintro e w16 ⟨rfl, hE_⟩
  replace ENV := Aside0.mk hE_
  clear hE_
  go_wp2_with fail
  refine (toS_e ENV.out A0 c0 l0 HR0.out HC0.out HL0.out).mono ?_
  rintro e w17 ⟨B17, d17, rfl, hE_⟩
  replace ENV := Aside0.mk hE_
  clear hE_
  go_wp2_with fail
  refine (toS_e ENV.out A1 c1 l1 HR1.out HC1.out HL1.out).mono ?_
  rintro e w18 ⟨B18, d18, rfl, hE_⟩
  replace ENV := Aside0.mk hE_
  clear hE_
  go_wp2_with fail
  refine (cc92 B17 d17 B18 d18 _ (ENV.out.Cr (A := B17) (n := l0.length) (c := d17) 1 rfl) (ENV.out.capr (A := B17) (n := l0.length) (c := d17) 1 rfl) (ENV.out.Cr (A := B18) (n := l1.length) (c := d18) 0 rfl) (ENV.out.capr (A := B18) (n := l1.length) (c := d18) 0 rfl)).mono ?_
  rintro e w19 ⟨v_, rfl, hS_, hb_⟩
  obtain ⟨B19, d19, rfl, hE_⟩ := ENV.out.madeS (by decide) hS_ hb_
  clear hS_ hb_
  replace ENV := Aside0.mk hE_
  clear hE_
  go_wp2_with fail
  refine (eqSS_e ENV.out 0 8 (A1 := B19) (A2 := B3) (c1 := d19) (c2 := d3) rfl rfl rfl rfl HP.out.1 HP.out.2.1).mono ?_
  rintro e w20 ⟨rfl, hE_⟩
  replace ENV := Aside0.mk hE_
  clear hE_
  go_wp2_with fail
  refine (heldSS_e ENV.out 5 (A := B6) (c := d6) (m := r0) 1 rfl _ rfl kg HKG.out HP.out.1 (by have := HKGB.out; omega)).mono ?_
  rintro e w21 ⟨rfl, hE_⟩
  replace ENV := Aside0.mk hE_
  clear hE_
  go_wp2
  go_ret
  exact ⟨rfl, ENV.out.1⟩

end Go.Proofs.Ytafijkfhjmdffaa.Pure
