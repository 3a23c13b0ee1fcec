/- DivGf answers as the reference's DivGf does, for all whole numbers. No conditions beyond the row's own. -/
import Derived.Test.YtpfcdmcnajljcaaPFnExactDivGfx2
import Derived.Test.YtpfcdmcnajljcaaBit
set_option linter.unusedVariables false
set_option linter.unusedSimpArgs false
namespace Go.Proofs.Ytpfcdmcnajljcaa.Pure
open Go.RowKit Go.Proofs.Ytpfcdmcnajljcaa Go.Proofs.Ytpfcdmcnajljcaa.PFnExactDivGf Go.Proofs.YtpfcdmcnajljcaaW.PrintWords Go.Proofs.YtpfcdmcnajljcaaW.PrintLast Go.Proofs.Ytpfcdmcnajljcaa.Bit

theorem spec_l1In_eq (a b c : Int) : spec_l1In.f a b c = some (decide (b ≤ a ∧ a ≤ c)) := by
  unfold spec_l1In.f
  by_cases h : a ≥ b
  · rw [if_pos h]; congr 1; simp [show b ≤ a from h]
  · rw [if_neg h]; congr 1; simp; omega

/-- Is a number an element? -/
def isB (a : Int) : Bool := decide (0 ≤ a ∧ a ≤ 255)
theorem isB_nat {a : Int} (h : isB a = true) : ∃ n : Nat, a = (n : Int) ∧ n < 256 := by
  simp only [isB, decide_eq_true_eq] at h
  exact ⟨a.toNat, by omega, by omega⟩
theorem isB_cast {n : Nat} (h : n < 256) : isB (n : Int) = true := by simp only [isB, decide_eq_true_eq]; omega

theorem spec_l1Gf_eq (a : Int) : spec_l1Gf.f a = some (isB a) := by
  unfold spec_l1Gf.f; rw [spec_l1In_eq]; rfl

theorem spec_l1Mul_l0 : ∀ (n a b o : Nat), a < 256 → o < 256 → b < 2 ^ n → b < 2 ^ 63 → Ev (fun k => spec_l1Mul.l0 k (a : Int) (b : Int) (o : Int)) ((Gf.gmA n a b o : Nat) : Int) := by
  have stop : ∀ a o : Nat, Ev (fun k => spec_l1Mul.l0 k (a : Int) ((0 : Nat) : Int) (o : Int)) ((o : Nat) : Int) := fun a o =>
    Ev.step (f := fun _ => some ((o : Nat) : Int)) (fun k => by simp only [spec_l1Mul.l0]; rw [if_neg (by omega)]) (Ev.now _)
  intro n
  induction n with
  | zero =>
    intro a b o ha ho hb _
    obtain rfl : b = 0 := by simpa using hb
    exact stop a o
  | succ n ih =>
    intro a b o ha ho hb hb63
    by_cases h0 : b = 0
    · subst h0
      rw [Gf.gmA_zero]
      exact stop a o
    · have e1 : wrap64 ((a : Int) * 2) = ((a * 2 : Nat) : Int) := by rw [wrap_id (by omega) (by omega)]; omega
      have e2 : Go.bits .xor .i64 ((a * 2 : Nat) : Int) 285 = (((a * 2) ^^^ 285 : Nat) : Int) := xor_nat (a := a * 2) (b := 285) (by omega) (by decide)
      have e3 : Go.bits .xor .i64 (o : Int) (a : Int) = ((o ^^^ a : Nat) : Int) := xor_nat (by omega) (by omega)
      have e4 := and_one (a := b) hb63
      refine Ev.step (f := fun k => spec_l1Mul.l0 k ((Gf.xt a : Nat) : Int) ((b / 2 : Nat) : Int) (((if b % 2 = 1 then o ^^^ a else o) : Nat) : Int)) (fun k => ?_) (ih _ _ _ (Gf.xt_lt a ha) ?_ (by rw [Nat.pow_succ] at hb; omega) (by omega))
      · simp only [spec_l1Mul.l0, e1, e2, e3, e4, half_nat, Gf.xt]
        rw [if_pos (show (b : Int) > 0 by omega)]
        by_cases h1 : b % 2 = 1 <;> by_cases h2 : 255 < a * 2
        · rw [if_pos (show ((b % 2 : Nat) : Int) = 1 by omega), if_pos h1, if_pos (by omega), if_pos h2]
        · rw [if_pos (show ((b % 2 : Nat) : Int) = 1 by omega), if_pos h1, if_neg (by omega), if_neg h2]
        · rw [if_neg (show ¬ ((b % 2 : Nat) : Int) = 1 by omega), if_neg h1, if_pos (by omega), if_pos h2]
        · rw [if_neg (show ¬ ((b % 2 : Nat) : Int) = 1 by omega), if_neg h1, if_neg (by omega), if_neg h2]
      · split
        · exact Gf.xor_byte ho ha
        · exact ho
theorem spec_l1Mul_ev (a b : Nat) (ha : a < 256) (hb : b < 256) : Ev (fun k => spec_l1Mul.f k (a : Int) (b : Int)) ((Gf.gm a b : Nat) : Int) :=
  spec_l1Mul_l0 8 a b 0 ha (by decide) hb (by omega)

theorem spec_l1Pow_l0 : ∀ (f a n o : Nat), a < 256 → o < 256 → n < 2 ^ f → n < 2 ^ 63 → Ev (fun k => spec_l1Pow.l0 k (a : Int) (n : Int) (o : Int)) ((Gf.pwA f a n o : Nat) : Int) := by
  have stop : ∀ a o : Nat, Ev (fun k => spec_l1Pow.l0 k (a : Int) ((0 : Nat) : Int) (o : Int)) ((o : Nat) : Int) := fun a o =>
    Ev.step (f := fun _ => some ((o : Nat) : Int)) (fun k => by simp only [spec_l1Pow.l0]; rw [if_neg (by omega)]) (Ev.now _)
  have z : ∀ f a o, Gf.pwA f a 0 o = o := by
    intro f
    induction f with
    | zero => intro a o; rfl
    | succ f ih => intro a o; exact ih _ _
  intro f
  induction f with
  | zero =>
    intro a n o ha ho hn _
    obtain rfl : n = 0 := by simpa using hn
    exact stop a o
  | succ f ih =>
    intro a n o ha ho hn hn63
    by_cases h0 : n = 0
    · subst h0
      rw [z]
      exact stop a o
    · have e4 := and_one (a := n) hn63
      have hsq := Gf.gm_lt a ha
      by_cases h1 : n % 2 = 1
      · refine Ev.step (f := fun k => (spec_l1Mul.f k (o : Int) (a : Int)).bind fun t => (spec_l1Mul.f k (a : Int) (a : Int)).bind fun u => spec_l1Pow.l0 k u ((n / 2 : Nat) : Int) t) (fun k => ?_) ?_
        · simp only [spec_l1Pow.l0, e4, half_nat]
          rw [if_pos (show (n : Int) > 0 by omega), if_pos (show ((n % 2 : Nat) : Int) = 1 by omega)]
        · have := ih (Gf.gm a a) (n / 2) (Gf.gm o a) hsq (Gf.gm_lt a ho) (by rw [Nat.pow_succ] at hn; omega) (by omega)
          show Ev _ ((Gf.pwA f (Gf.gm a a) (n / 2) (if n % 2 = 1 then Gf.gm o a else o) : Nat) : Int)
          rw [if_pos h1]
          exact Ev.bind (f := fun k t => (spec_l1Mul.f k (a : Int) (a : Int)).bind fun u => spec_l1Pow.l0 k u ((n / 2 : Nat) : Int) t) (spec_l1Mul_ev o a ho ha) (Ev.bind (f := fun k u => spec_l1Pow.l0 k u ((n / 2 : Nat) : Int) ((Gf.gm o a : Nat) : Int)) (spec_l1Mul_ev a a ha ha) this)
      · refine Ev.step (f := fun k => (spec_l1Mul.f k (a : Int) (a : Int)).bind fun u => spec_l1Pow.l0 k u ((n / 2 : Nat) : Int) (o : Int)) (fun k => ?_) ?_
        · simp only [spec_l1Pow.l0, e4, half_nat]
          rw [if_pos (show (n : Int) > 0 by omega), if_neg (show ¬ ((n % 2 : Nat) : Int) = 1 by omega)]
        · have := ih (Gf.gm a a) (n / 2) o hsq ho (by rw [Nat.pow_succ] at hn; omega) (by omega)
          show Ev _ ((Gf.pwA f (Gf.gm a a) (n / 2) (if n % 2 = 1 then Gf.gm o a else o) : Nat) : Int)
          rw [if_neg h1]
          exact Ev.bind (f := fun k u => spec_l1Pow.l0 k u ((n / 2 : Nat) : Int) (o : Int)) (spec_l1Mul_ev a a ha ha) this
theorem spec_l1Pow_ev (a n : Nat) (ha : a < 256) (hn : n < 2 ^ 62) : Ev (fun k => spec_l1Pow.f k (a : Int) (n : Int)) ((Gf.pw a n : Nat) : Int) := by
  have := spec_l1Pow_l0 62 a n 1 ha (by decide) hn (by omega)
  rw [Gf.pwA_eq 62 a n 1 ha (by decide) hn, Gf.one_gm _ (Gf.pw_lt n)] at this
  exact this

theorem spec_l1Div_ev (a b : Nat) (ha : a < 256) (hb : b < 256) : Ev (fun k => spec_l1Div.f k (a : Int) (b : Int)) ((Gf.gm a (Gf.gi b) : Nat) : Int) := by
  unfold spec_l1Div.f
  refine Ev.bind (f := fun k t => (spec_l1Mul.f k (a : Int) t).bind fun u => some u) (spec_l1Pow_ev b 254 hb (by decide)) ?_
  exact Ev.bind (f := fun _ u => some u) (spec_l1Mul_ev a (Gf.gi b) ha (Gf.gi_lt b)) (Ev.now _)

/-- What DivGf answers. -/
def divV (a b : Int) : Int × Bool := if isB a && isB b && !(b == 0) then (((Gf.gm a.toNat (Gf.gi b.toNat) : Nat) : Int), true) else (0, false)

theorem spec_DivGf_ev (a b : Int) : Ev (fun k => spec_DivGf.f k a b) (divV a b) := by
  unfold spec_DivGf.f divV
  simp only [spec_l1Gf_eq, Option.bind_some]
  cases ha : isB a
  · exact Ev.now _
  · cases hb : isB b
    · exact Ev.now _
    · by_cases h : b = 0
      · subst h; exact Ev.now _
      · obtain ⟨x, rfl, hx⟩ := isB_nat ha
        obtain ⟨y, rfl, hy⟩ := isB_nat hb
        have h' : ((y : Int) == 0) = false := beq_eq_false_iff_ne.2 h
        simp only [if_true, if_neg h, h', Bool.not_false, Bool.and_self]
        exact Ev.bind (f := fun _ t => some (t, true)) (spec_l1Div_ev x y hx hy) (Ev.now _)

theorem impl_within_eq (a b c : Int) : impl_within.f a b c = some (decide (b ≤ a ∧ a ≤ c)) := by
  unfold impl_within.f
  by_cases h : a ≥ b
  · rw [if_pos h]; congr 1; simp [show b ≤ a from h]
  · rw [if_neg h]; congr 1; simp; omega

theorem impl_isGf_eq (a : Int) : impl_isGf.f a = some (isB a) := by
  unfold impl_isGf.f; rw [impl_within_eq]; rfl

theorem impl_mul_l0 : ∀ (n a b o : Nat), a < 256 → o < 256 → b < 2 ^ n → b < 2 ^ 63 → Ev (fun k => impl_mul.l0 k (a : Int) (b : Int) (o : Int)) ((Gf.gmA n a b o : Nat) : Int) := by
  have stop : ∀ a o : Nat, Ev (fun k => impl_mul.l0 k (a : Int) ((0 : Nat) : Int) (o : Int)) ((o : Nat) : Int) := fun a o =>
    Ev.step (f := fun _ => some ((o : Nat) : Int)) (fun k => by simp only [impl_mul.l0]; rw [if_neg (by omega)]) (Ev.now _)
  intro n
  induction n with
  | zero =>
    intro a b o ha ho hb _
    obtain rfl : b = 0 := by simpa using hb
    exact stop a o
  | succ n ih =>
    intro a b o ha ho hb hb63
    by_cases h0 : b = 0
    · subst h0
      rw [Gf.gmA_zero]
      exact stop a o
    · have e1 : wrap64 ((a : Int) * 2) = ((a * 2 : Nat) : Int) := by rw [wrap_id (by omega) (by omega)]; omega
      have e2 : Go.bits .xor .i64 ((a * 2 : Nat) : Int) 285 = (((a * 2) ^^^ 285 : Nat) : Int) := xor_nat (a := a * 2) (b := 285) (by omega) (by decide)
      have e3 : Go.bits .xor .i64 (o : Int) (a : Int) = ((o ^^^ a : Nat) : Int) := xor_nat (by omega) (by omega)
      have e4 := and_one (a := b) hb63
      refine Ev.step (f := fun k => impl_mul.l0 k ((Gf.xt a : Nat) : Int) ((b / 2 : Nat) : Int) (((if b % 2 = 1 then o ^^^ a else o) : Nat) : Int)) (fun k => ?_) (ih _ _ _ (Gf.xt_lt a ha) ?_ (by rw [Nat.pow_succ] at hb; omega) (by omega))
      · simp only [impl_mul.l0, e1, e2, e3, e4, half_nat, Gf.xt]
        rw [if_pos (show (b : Int) > 0 by omega)]
        by_cases h1 : b % 2 = 1 <;> by_cases h2 : 255 < a * 2
        · rw [if_pos (show ((b % 2 : Nat) : Int) = 1 by omega), if_pos h1, if_pos (by omega), if_pos h2]
        · rw [if_pos (show ((b % 2 : Nat) : Int) = 1 by omega), if_pos h1, if_neg (by omega), if_neg h2]
        · rw [if_neg (show ¬ ((b % 2 : Nat) : Int) = 1 by omega), if_neg h1, if_pos (by omega), if_pos h2]
        · rw [if_neg (show ¬ ((b % 2 : Nat) : Int) = 1 by omega), if_neg h1, if_neg (by omega), if_neg h2]
      · split
        · exact Gf.xor_byte ho ha
        · exact ho
theorem impl_mul_ev (a b : Nat) (ha : a < 256) (hb : b < 256) : Ev (fun k => impl_mul.f k (a : Int) (b : Int)) ((Gf.gm a b : Nat) : Int) :=
  impl_mul_l0 8 a b 0 ha (by decide) hb (by omega)

theorem impl_pow_l0 : ∀ (f a n o : Nat), a < 256 → o < 256 → n < 2 ^ f → n < 2 ^ 63 → Ev (fun k => impl_pow.l0 k (a : Int) (n : Int) (o : Int)) ((Gf.pwA f a n o : Nat) : Int) := by
  have stop : ∀ a o : Nat, Ev (fun k => impl_pow.l0 k (a : Int) ((0 : Nat) : Int) (o : Int)) ((o : Nat) : Int) := fun a o =>
    Ev.step (f := fun _ => some ((o : Nat) : Int)) (fun k => by simp only [impl_pow.l0]; rw [if_neg (by omega)]) (Ev.now _)
  have z : ∀ f a o, Gf.pwA f a 0 o = o := by
    intro f
    induction f with
    | zero => intro a o; rfl
    | succ f ih => intro a o; exact ih _ _
  intro f
  induction f with
  | zero =>
    intro a n o ha ho hn _
    obtain rfl : n = 0 := by simpa using hn
    exact stop a o
  | succ f ih =>
    intro a n o ha ho hn hn63
    by_cases h0 : n = 0
    · subst h0
      rw [z]
      exact stop a o
    · have e4 := and_one (a := n) hn63
      have hsq := Gf.gm_lt a ha
      by_cases h1 : n % 2 = 1
      · refine Ev.step (f := fun k => (impl_mul.f k (o : Int) (a : Int)).bind fun t => (impl_mul.f k (a : Int) (a : Int)).bind fun u => impl_pow.l0 k u ((n / 2 : Nat) : Int) t) (fun k => ?_) ?_
        · simp only [impl_pow.l0, e4, half_nat]
          rw [if_pos (show (n : Int) > 0 by omega), if_pos (show ((n % 2 : Nat) : Int) = 1 by omega)]
        · have := ih (Gf.gm a a) (n / 2) (Gf.gm o a) hsq (Gf.gm_lt a ho) (by rw [Nat.pow_succ] at hn; omega) (by omega)
          show Ev _ ((Gf.pwA f (Gf.gm a a) (n / 2) (if n % 2 = 1 then Gf.gm o a else o) : Nat) : Int)
          rw [if_pos h1]
          exact Ev.bind (f := fun k t => (impl_mul.f k (a : Int) (a : Int)).bind fun u => impl_pow.l0 k u ((n / 2 : Nat) : Int) t) (impl_mul_ev o a ho ha) (Ev.bind (f := fun k u => impl_pow.l0 k u ((n / 2 : Nat) : Int) ((Gf.gm o a : Nat) : Int)) (impl_mul_ev a a ha ha) this)
      · refine Ev.step (f := fun k => (impl_mul.f k (a : Int) (a : Int)).bind fun u => impl_pow.l0 k u ((n / 2 : Nat) : Int) (o : Int)) (fun k => ?_) ?_
        · simp only [impl_pow.l0, e4, half_nat]
          rw [if_pos (show (n : Int) > 0 by omega), if_neg (show ¬ ((n % 2 : Nat) : Int) = 1 by omega)]
        · have := ih (Gf.gm a a) (n / 2) o hsq ho (by rw [Nat.pow_succ] at hn; omega) (by omega)
          show Ev _ ((Gf.pwA f (Gf.gm a a) (n / 2) (if n % 2 = 1 then Gf.gm o a else o) : Nat) : Int)
          rw [if_neg h1]
          exact Ev.bind (f := fun k u => impl_pow.l0 k u ((n / 2 : Nat) : Int) (o : Int)) (impl_mul_ev a a ha ha) this
theorem impl_pow_ev (a n : Nat) (ha : a < 256) (hn : n < 2 ^ 62) : Ev (fun k => impl_pow.f k (a : Int) (n : Int)) ((Gf.pw a n : Nat) : Int) := by
  have := impl_pow_l0 62 a n 1 ha (by decide) hn (by omega)
  rw [Gf.pwA_eq 62 a n 1 ha (by decide) hn, Gf.one_gm _ (Gf.pw_lt n)] at this
  exact this

theorem impl_inverse_ev (b : Nat) (hb : b < 256) : Ev (fun k => impl_inverse.f k (b : Int)) ((Gf.gi b : Nat) : Int) := by
  unfold impl_inverse.f
  exact Ev.bind (f := fun _ u => some u) (impl_pow_ev b 254 hb (by decide)) (Ev.now _)

theorem impl_DivGf_ev (a b : Int) : Ev (fun k => impl_DivGf.f k a b) (divV a b) := by
  have no : Ev (fun k => impl_DivGf.j0 k a b true) (0, false) := Ev.step (f := fun _ => some (0, false)) (fun k => by simp only [impl_DivGf.j0]; rfl) (Ev.now _)
  unfold impl_DivGf.f divV
  simp only [impl_isGf_eq, Option.bind_some]
  cases ha : isB a
  · exact no
  · cases hb : isB b
    · exact no
    · by_cases h : b = 0
      · subst h; exact no
      · obtain ⟨x, rfl, hx⟩ := isB_nat ha
        obtain ⟨y, rfl, hy⟩ := isB_nat hb
        have h' : ((y : Int) == 0) = false := beq_eq_false_iff_ne.2 h
        simp only [if_true, h', Bool.not_false, Bool.and_self]
        refine Ev.step (f := fun k => (impl_inverse.f k (y : Int)).bind fun t => (impl_mul.f k (x : Int) t).bind fun u => some (u, true)) (fun k => by simp only [impl_DivGf.j0]; rfl) ?_
        refine Ev.bind (f := fun k t => (impl_mul.f k (x : Int) t).bind fun u => some (u, true)) (impl_inverse_ev y hy) ?_
        exact Ev.bind (f := fun _ u => some (u, true)) (impl_mul_ev x (Gf.gi y) hx (Gf.gi_lt y)) (Ev.now _)

/-- Two that answer alike: the law's end. -/
theorem same_two {A B : Nat → Option (Int × Bool)} {r : Int × Bool} (h1 : Ev A r) (h2 : Ev B r) :
    ∃ k, ((A k).bind fun p => (B k).bind fun q => if q.1 = p.1 then (if (q.2 != p.2) = true then some false else some true) else some false) = some true :=
  (Ev.bind (f := fun k p => (B k).bind fun q => if q.1 = p.1 then (if (q.2 != p.2) = true then some false else some true) else some false) h1
    (Ev.bind (f := fun _ q => if q.1 = r.1 then (if (q.2 != r.2) = true then some false else some true) else some false) h2 ⟨0, fun _ _ => by simp⟩)).rounds

theorem FnExactDivGf : laws_FnExactDivGf.Pure := fun a b _ _ => same_two (spec_DivGf_ev a b) (impl_DivGf_ev a b)

end Go.Proofs.Ytpfcdmcnajljcaa.Pure
