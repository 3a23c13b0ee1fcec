/- AddGf answers as the reference's AddGf does, for all whole numbers. No conditions beyond the row's own. -/
import Derived.Test.YthaffjolcghkoaaPFnExactAddGfx1
import Derived.Test.YthaffjolcghkoaaBit
set_option linter.unusedVariables false
set_option linter.unusedSimpArgs false
namespace Go.Proofs.Ythaffjolcghkoaa.Pure
open Go.RowKit Go.Proofs.Ythaffjolcghkoaa Go.Proofs.Ythaffjolcghkoaa.PFnExactAddGf Go.Proofs.YthaffjolcghkoaaW.PrintWords Go.Proofs.YthaffjolcghkoaaW.PrintLast Go.Proofs.Ythaffjolcghkoaa.Bit

theorem spec_l1In_eq (a b c : Int) : spec_l1In.f a b c = some (decide (b ≤ a ∧ a ≤ c)) := by
  unfold spec_l1In.f
  by_cases h : a ≥ b
  · rw [if_pos h]; congr 1; simp [show b ≤ a from h]
  · rw [if_neg h]; congr 1; simp; omega

/-- Is a number an element? -/
def isB (a : Int) : Bool := decide (0 ≤ a ∧ a ≤ 255)
theorem isB_nat {a : Int} (h : isB a = true) : ∃ n : Nat, a = (n : Int) ∧ n < 256 := by
  simp only [isB, decide_eq_true_eq] at h
  exact ⟨a.toNat, by omega, by omega⟩
theorem isB_cast {n : Nat} (h : n < 256) : isB (n : Int) = true := by simp only [isB, decide_eq_true_eq]; omega

theorem spec_l1Gf_eq (a : Int) : spec_l1Gf.f a = some (isB a) := by
  unfold spec_l1Gf.f; rw [spec_l1In_eq]; rfl

theorem spec_AddGf_eq (a b : Int) : spec_AddGf.f a b = some (if isB a && isB b then (Go.bits .xor .i64 a b, true) else (0, false)) := by
  unfold spec_AddGf.f
  rw [spec_l1Gf_eq, spec_l1Gf_eq]
  cases isB a <;> cases isB b <;> rfl

theorem impl_within_eq (a b c : Int) : impl_within.f a b c = some (decide (b ≤ a ∧ a ≤ c)) := by
  unfold impl_within.f
  by_cases h : a ≥ b
  · rw [if_pos h]; congr 1; simp [show b ≤ a from h]
  · rw [if_neg h]; congr 1; simp; omega

theorem impl_isGf_eq (a : Int) : impl_isGf.f a = some (isB a) := by
  unfold impl_isGf.f; rw [impl_within_eq]; rfl

theorem impl_AddGf_eq (a b : Int) : impl_AddGf.f a b = some (if isB a && isB b then (Go.bits .xor .i64 a b, true) else (0, false)) := by
  unfold impl_AddGf.f
  rw [impl_isGf_eq, impl_isGf_eq]
  cases isB a <;> cases isB b <;> rfl

theorem FnExactAddGf : laws_FnExactAddGf.Pure := by
  intro a b _ _
  unfold laws_FnExactAddGf.f
  rw [spec_AddGf_eq, impl_AddGf_eq]
  cases isB a && isB b <;> simp

end Go.Proofs.Ythaffjolcghkoaa.Pure
