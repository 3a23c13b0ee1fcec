/-
  The plain sum of 32 bits over lists of numbers below 256, no program in sight: one shift, eight shifts, the sum of a list, a text's bytes as such a list. No conditions beyond those typed.
-/
import Derived.Test.YtldlldfoaicjcaaWWords
import Derived.Test.YtldlldfoaicjcaaGf
set_option linter.unusedVariables false
namespace Go.Proofs.Ytldlldfoaicjcaa.Crc
open Go.Proofs.YtldlldfoaicjcaaW.PrintWords

/-- One shift. -/
def sh1 (x : Nat) : Nat := if x % 2 = 1 then (x / 2) ^^^ 2197175160 else x / 2
/-- n shifts. -/
def shN : Nat → Nat → Nat
  | 0, x => x
  | n + 1, x => shN n (sh1 x)
theorem sh1_lt {x : Nat} (h : x < 2 ^ 32) : sh1 x < 2 ^ 32 := by
  unfold sh1
  split
  · exact Nat.xor_lt_two_pow (by omega) (by decide)
  · omega
theorem shN_lt : ∀ n {x : Nat}, x < 2 ^ 32 → shN n x < 2 ^ 32
  | 0, _, h => h
  | n + 1, _, h => shN_lt n (sh1_lt h)
theorem shN_add : ∀ n m x, shN (n + m) x = shN m (shN n x)
  | 0, m, x => by rw [Nat.zero_add]; rfl
  | n + 1, m, x => by
    have : n + 1 + m = (n + m) + 1 := by omega
    rw [this]
    exact shN_add n m (sh1 x)
/-- The shifts of a list of bytes. -/
def crcL : List Nat → Nat → Nat
  | [], x => x
  | c :: l, x => crcL l (shN 8 (x ^^^ c))
theorem crcL_lt : ∀ l x, (∀ c ∈ l, c < 256) → x < 2 ^ 32 → crcL l x < 2 ^ 32
  | [], _, _, h => h
  | c :: l, x, hl, h => crcL_lt l _ (fun d hd => hl d (List.mem_cons_of_mem _ hd)) (shN_lt 8 (Nat.xor_lt_two_pow h (Nat.lt_trans (hl c List.mem_cons_self) (by decide))))
theorem crcL_append : ∀ l m x, crcL (l ++ m) x = crcL m (crcL l x)
  | [], _, _ => rfl
  | _ :: l, m, _ => crcL_append l m _
def ones : Nat := 4294967295
/-- The sum of a list, from a sum on. -/
def sumL (x : Nat) (l : List Nat) : Nat := crcL l (x ^^^ ones) ^^^ ones
theorem sumL_lt {x : Nat} {l : List Nat} (hx : x < 2 ^ 32) (hl : ∀ c ∈ l, c < 256) : sumL x l < 2 ^ 32 :=
  Nat.xor_lt_two_pow (crcL_lt l _ hl (Nat.xor_lt_two_pow hx (by decide))) (by decide)
/-- A text's bytes. -/
def bl (s : ByteArray) : List Nat := s.data.toList.map (fun c => c.toNat)
theorem bl_length (s : ByteArray) : (bl s).length = s.size := by unfold bl; rw [List.length_map, Array.length_toList]; rfl
theorem bl_lt (s : ByteArray) : ∀ c ∈ bl s, c < 256 := by
  intro c hc
  obtain ⟨u, _, rfl⟩ := List.mem_map.1 hc
  exact u.toNat_lt
theorem bt_bl (s : ByteArray) (i : Nat) (h : i < s.size) : bt s (i : Int) = (((bl s)[i]'(by rw [bl_length]; exact h) : Nat) : Int) := by
  unfold bt
  rw [dif_pos (show (i : Int).toNat < s.size from by rw [Int.toNat_natCast]; exact h)]
  simp only [Int.toNat_natCast, bl, List.getElem_map]
  rfl
theorem bl_drop (s : ByteArray) (i : Nat) (h : i < s.size) : (bl s).drop i = (bl s)[i]'(by rw [bl_length]; exact h) :: (bl s).drop (i + 1) := List.drop_eq_getElem_cons _
theorem bl_end (s : ByteArray) : (bl s).drop s.size = [] := List.drop_eq_nil_of_le (by rw [bl_length]; exact Nat.le_refl _)
end Go.Proofs.Ytldlldfoaicjcaa.Crc
