
import Derived.Test.YthaffjolcghkoaaMFnExactGoodFramex1
import Derived.Test.YthaffjolcghkoaaBit
import Derived.Test.YthaffjolcghkoaaCrc
set_option linter.unusedVariables false
set_option linter.unusedSimpArgs false
namespace Go.Proofs.Ythaffjolcghkoaa.Pure
open Go.RowKit Go.Proofs.Ythaffjolcghkoaa Go.Proofs.Ythaffjolcghkoaa.MFnExactGoodFrame Go.Proofs.YthaffjolcghkoaaW.PrintWords Go.Proofs.YthaffjolcghkoaaW.PrintLast Go.Proofs.Ythaffjolcghkoaa.Bit

theorem impl_within_eq (a b c : Int) : impl_within.f a b c = some (decide (b ≤ a ∧ a ≤ c)) := by
  unfold impl_within.f
  by_cases h : a ≥ b
  · rw [if_pos h]; congr 1; simp [show b ≤ a from h]
  · rw [if_neg h]; congr 1; simp; omega

theorem spec_l1In_eq (a b c : Int) : spec_l1In.f a b c = some (decide (b ≤ a ∧ a ≤ c)) := by
  unfold spec_l1In.f
  by_cases h : a ≥ b
  · rw [if_pos h]; congr 1; simp [show b ≤ a from h]
  · rw [if_neg h]; congr 1; simp; omega

theorem rdOf_nat {α : Type} (d : α) (l : List α) (i : Nat) (h : i < l.length) : rdOf d l (i : Int) = l[i] := by
  unfold rdOf
  simp [List.getD_eq_getElem?_getD, List.getElem?_eq_getElem h]
theorem wrap_succ2 (i : Nat) (h : i < 9223372036854775807) : wrap64 ((i : Int) + 1) = ((i + 1 : Nat) : Int) := by rw [wrap_id (by omega) (by omega)]; omega

/-- The pieces of a text: so many at the most. -/
def splitL : Nat → ByteArray → List ByteArray
  | 0, s => [s]
  | f + 1, s => if 16 < s.size then s.extract 0 16 :: splitL f (s.extract 16 s.size) else [s]
theorem splitL_length : ∀ f s, (splitL f s).length ≤ f + 1
  | 0, _ => by simp [splitL]
  | f + 1, s => by
    unfold splitL
    have := splitL_length f (s.extract 16 s.size)
    split <;> simp <;> omega
/-- What SplitBody answers. -/
def splitV (s : ByteArray) : List ByteArray × Bool := if 1 ≤ s.size ∧ s.size ≤ 160 then (splitL 10 s, true) else ([], false)
theorem splitV_length (s : ByteArray) : (splitV s).1.length ≤ 11 := by
  unfold splitV
  split
  · exact splitL_length 10 s
  · simp

/-- Is a number of 32 bits? -/
def isS (a : Int) : Bool := decide (0 ≤ a ∧ a ≤ 4294967295)
theorem isS_nat {a : Int} (h : isS a = true) : ∃ n : Nat, a = (n : Int) ∧ n < 2 ^ 32 := by
  simp only [isS, decide_eq_true_eq] at h
  exact ⟨a.toNat, by omega, by omega⟩
def isL (a : Int) : Bool := decide (0 ≤ a ∧ a ≤ 400)
theorem isL_nat {a : Int} (h : isL a = true) : ∃ n : Nat, a = (n : Int) ∧ n ≤ 400 := by
  simp only [isL, decide_eq_true_eq] at h
  exact ⟨a.toNat, by omega, by omega⟩

theorem son_append (xs ys : List Int) : strOfNums (xs ++ ys) = strOfNums xs ++ strOfNums ys := by
  apply ByteArray.ext
  rw [ByteArray.data_append]
  simp [strOfNums]
theorem son_bytesOf (s : ByteArray) : strOfNums (bytesOf s) = s := by
  apply ByteArray.ext
  apply Array.toList_inj.1
  show (List.map (fun n : Int => UInt8.ofNat n.toNat) (bytesOf s)) = s.data.toList
  unfold bytesOf
  rw [List.map_map]
  conv => rhs; rw [← List.map_id s.data.toList]
  refine List.map_congr_left fun b _ => ?_
  show UInt8.ofNat ((b.toNat : Int).toNat) = b
  rw [Int.toNat_natCast]
  exact UInt8.ofNat_toNat
theorem son_size (xs : List Int) : (strOfNums xs).size = xs.length := by simp [strOfNums, ByteArray.size]
/-- The first 24 bytes of a frame. -/
def hdL (k a e : Int) (b : ByteArray) : List Int := [k % 256, a / 256 % 256, a % 256, e / 256 % 256, e % 256, (b.size : Int) % 256] ++ bytesOf b ++ List.replicate (18 - b.size) 0
def lowL (n : Int) : List Int := [n % 256, n / 256 % 256, n / 65536 % 256, n / 16777216 % 256]
theorem lowL_length (n : Int) : (lowL n).length = 4 := rfl
theorem hdL_length (k a e : Int) (b : ByteArray) (h : b.size ≤ 16) : (hdL k a e b).length = 24 := by
  unfold hdL
  simp only [List.length_append, List.length_cons, List.length_nil, bytesOf_length, List.length_replicate]
  omega
/-- A frame's bytes. -/
def frB (k a e : Int) (b : ByteArray) : ByteArray := strOfNums (hdL k a e b ++ lowL ((Crc.sumL 0 (Crc.bl (strOfNums (hdL k a e b))) : Nat) : Int))
theorem frB_size (k a e : Int) (b : ByteArray) (h : b.size ≤ 16) : (frB k a e b).size = 28 := by
  unfold frB
  rw [son_size, List.length_append, hdL_length k a e b h]; rfl
/-- Is a frame good? -/
def goodF (k a e : Int) (b : ByteArray) : Bool := decide (1 ≤ k ∧ k ≤ 255) && (decide (0 ≤ a ∧ a ≤ 60000) && (decide (0 ≤ e ∧ e ≤ 60000) && decide (b.size ≤ 16)))
theorem goodF_bd {k a e : Int} {b : ByteArray} (h : goodF k a e b = true) : 1 ≤ k ∧ k ≤ 255 ∧ 0 ≤ a ∧ a ≤ 60000 ∧ 0 ≤ e ∧ e ≤ 60000 ∧ b.size ≤ 16 := by
  simp only [goodF, Bool.and_eq_true, decide_eq_true_eq] at h
  obtain ⟨⟨h1, h2⟩, ⟨h3, h4⟩, ⟨h5, h6⟩, h7⟩ := h
  exact ⟨h1, h2, h3, h4, h5, h6, h7⟩
theorem size_dec (b : ByteArray) : decide ((b.size : Int) ≤ 16) = decide (b.size ≤ 16) := decide_eq_decide.2 (by omega)

theorem spec_GoodFrame_eq (k a e : Int) (b : ByteArray) : spec_GoodFrame.f k a e b = some (goodF k a e b) := by
  unfold spec_GoodFrame.f goodF
  simp only [spec_l1In_eq, Option.bind_some, size_dec]
  cases decide (1 ≤ k ∧ k ≤ 255) <;> cases decide (0 ≤ a ∧ a ≤ 60000) <;> cases decide (0 ≤ e ∧ e ≤ 60000) <;> rfl

theorem impl_GoodFrame_eq (k a e : Int) (b : ByteArray) : impl_GoodFrame.f k a e b = some (goodF k a e b) := by
  unfold impl_GoodFrame.f goodF
  simp only [impl_within_eq, Option.bind_some, size_dec]
  cases decide (1 ≤ k ∧ k ≤ 255) <;> cases decide (0 ≤ a ∧ a ≤ 60000) <;> cases decide (0 ≤ e ∧ e ≤ 60000) <;> rfl

theorem nat_nn (n : Nat) : ((n : Int) < 0) = False := by simp
theorem one_nat : (1 : Int) = ((1 : Nat) : Int) := rfl
theorem one_nn (n : Nat) : (((n : Nat) : Int) = ((n : Nat) : Int)) = True := by simp

theorem FnExactGoodFrame (a0 a1 a2 : Int) (s : ByteArray) : laws_FnExactGoodFrame.f a0 a1 a2 s = some true := by
  by_cases hs : wrap64 (1048576 - (s.size : Int)) < 0
  · unfold laws_FnExactGoodFrame.f laws_szFrame.f
    rw [if_pos hs]; rfl
  unfold laws_FnExactGoodFrame.f laws_szFrame.f laws_toFrame.f
  simp only [if_neg hs, Option.bind_some, spec_GoodFrame_eq, impl_GoodFrame_eq]
  simp

end Go.Proofs.Ythaffjolcghkoaa.Pure
