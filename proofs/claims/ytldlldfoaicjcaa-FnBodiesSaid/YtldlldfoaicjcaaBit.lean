/-
  How Go's int works on small natural numbers: exclusive or, and with 1, or, shifts; no wrap within 64 bits. Conditions: the bounds typed at each lemma.
-/
import Derived.Test.YtldlldfoaicjcaaWWords
import Derived.Test.YtldlldfoaicjcaaGf
import Derived.Laws.BitsLemmas
set_option linter.unusedVariables false
namespace Go.Proofs.Ytldlldfoaicjcaa.Bit
open Go.RowKit Go.Proofs.YtldlldfoaicjcaaW.PrintWords

theorem wf_iff (a : Int) : (Lit.int .i64 a).wf = true ↔ -9223372036854775808 ≤ a ∧ a ≤ 9223372036854775807 := by
  simp only [Lit.wf, IntKind.min, IntKind.max, IntKind.signed, IntKind.bits, Bool.and_eq_true, decide_eq_true_eq, if_true]
  omega
theorem wrap_id {n : Int} (h0 : -9223372036854775808 ≤ n) (h1 : n ≤ 9223372036854775807) : wrap64 n = n := by unfold wrap64; omega
theorem back_nat (n : Nat) (h : n < 2 ^ 63) : IntKind.i64.wrap (n : Int) = (n : Int) := by
  rw [IntKind.wrap_i64]
  have h' : n < 9223372036854775808 := h
  omega
theorem ofInt_toNat (a : Nat) (h : a < 2 ^ 63) : (BitVec.ofInt 64 (a : Int)).toNat = a := by
  rw [BitVec.ofInt_natCast, BitVec.toNat_ofNat]
  exact Nat.mod_eq_of_lt (Nat.lt_trans h (by decide))
theorem xor_nat {a b : Nat} (ha : a < 2 ^ 63) (hb : b < 2 ^ 63) : Go.bits .xor .i64 (a : Int) (b : Int) = ((a ^^^ b : Nat) : Int) := by
  have h : Go.bits .xor .i64 (a : Int) (b : Int) = IntKind.i64.wrap ((BitVec.ofInt 64 (a : Int) ^^^ BitVec.ofInt 64 (b : Int)).toNat : Int) := rfl
  rw [h, BitVec.toNat_xor, ofInt_toNat a ha, ofInt_toNat b hb]
  exact back_nat _ (Nat.xor_lt_two_pow ha hb)
theorem and_nat {a b : Nat} (ha : a < 2 ^ 63) (hb : b < 2 ^ 63) : Go.bits .and .i64 (a : Int) (b : Int) = ((a &&& b : Nat) : Int) := by
  have h : Go.bits .and .i64 (a : Int) (b : Int) = IntKind.i64.wrap ((BitVec.ofInt 64 (a : Int) &&& BitVec.ofInt 64 (b : Int)).toNat : Int) := rfl
  rw [h, BitVec.toNat_and, ofInt_toNat a ha, ofInt_toNat b hb]
  exact back_nat _ (Nat.and_lt_two_pow _ hb)
theorem or_nat {a b : Nat} (ha : a < 2 ^ 63) (hb : b < 2 ^ 63) : Go.bits .or .i64 (a : Int) (b : Int) = ((a ||| b : Nat) : Int) := by
  have h : Go.bits .or .i64 (a : Int) (b : Int) = IntKind.i64.wrap ((BitVec.ofInt 64 (a : Int) ||| BitVec.ofInt 64 (b : Int)).toNat : Int) := rfl
  rw [h, BitVec.toNat_or, ofInt_toNat a ha, ofInt_toNat b hb]
  exact back_nat _ (Nat.or_lt_two_pow ha hb)
theorem and_one {a : Nat} (ha : a < 2 ^ 63) : Go.bits .and .i64 (a : Int) 1 = ((a % 2 : Nat) : Int) := by
  have := and_nat (a := a) (b := 1) ha (by decide)
  rw [Nat.and_one_is_mod] at this
  exact this
theorem half_nat (a : Nat) : (a : Int) / 2 = ((a / 2 : Nat) : Int) := by omega
theorem bt_nat (s : ByteArray) (i : Int) : ∃ c : Nat, bt s i = (c : Int) ∧ c < 256 := by
  have h := bt_range s i
  exact ⟨(bt s i).toNat, by omega, by omega⟩
theorem nat_of {a : Int} (h : 0 ≤ a) : ∃ n : Nat, a = (n : Int) := ⟨a.toNat, by omega⟩
end Go.Proofs.Ytldlldfoaicjcaa.Bit
