/-
  Lists of natural numbers as lists of Go's ints. No conditions beyond those typed.
-/
import Derived.Test.YtldlldfoaicjcaaWWords
import Derived.Test.YtldlldfoaicjcaaPol
set_option linter.unusedVariables false
namespace Go.Proofs.Ytldlldfoaicjcaa.Poly
open Go.RowKit Go.Proofs.YtldlldfoaicjcaaW.PrintWords
open Go.Proofs.Ytldlldfoaicjcaa.Gf (gm gi pw)

/-- A list of natural numbers as Go has it. -/
def up (l : List Nat) : List Int := l.map fun (n : Nat) => (n : Int)
theorem up_length (l : List Nat) : (up l).length = l.length := by simp [up]
theorem rd_up (l : List Nat) (i : Nat) : rd (up l) (i : Int) = ((l.getD i 0 : Nat) : Int) := by
  unfold rd up
  rw [Int.toNat_natCast]
  simp only [List.getD_eq_getElem?_getD, List.getElem?_map]
  cases l[i]? <;> rfl
theorem up_set (l : List Nat) (i v : Nat) : (up l).set i (v : Int) = up (l.set i v) := by simp [up, List.map_set]
theorem up_append (l m : List Nat) : up l ++ up m = up (l ++ m) := by simp [up]
theorem up_snoc (l : List Nat) (v : Nat) : up l ++ [(v : Int)] = up (l ++ [v]) := by simp [up]
theorem up_take (l : List Nat) (n : Nat) : (up l).take n = up (l.take n) := by simp [up, List.map_take]
theorem up_drop (l : List Nat) (n : Nat) : (up l).drop n = up (l.drop n) := by simp [up, List.map_drop]
theorem up_zeros (n : Nat) : List.replicate n (0 : Int) = up (List.replicate n 0) := by simp [up]
theorem up_nil : ([] : List Int) = up [] := rfl
theorem up_inj {l m : List Nat} (h : up l = up m) : l = m := by
  exact (List.map_inj_right fun a b h => Int.ofNat.inj h).1 h

/-- A list of Go's ints that are all bytes is such a list. -/
theorem up_of {l : List Int} (h : ∀ x ∈ l, 0 ≤ x ∧ x ≤ 255) : ∃ m : List Nat, l = up m ∧ AllB m := by
  refine ⟨l.map Int.toNat, ?_, ?_⟩
  · unfold up
    rw [List.map_map]
    conv => lhs; rw [← List.map_id l]
    refine List.map_congr_left fun x hx => ?_
    have := h x hx
    show x = ((x.toNat : Nat) : Int)
    omega
  · intro x hx
    obtain ⟨y, hy, rfl⟩ := List.mem_map.1 hx
    have := h y hy
    omega
theorem up_bytes {l : List Nat} (h : AllB l) : ∀ x ∈ up l, 0 ≤ x ∧ x ≤ 255 := by
  intro x hx
  obtain ⟨y, hy, rfl⟩ := List.mem_map.1 hx
  have := h y hy
  omega

end Go.Proofs.Ytldlldfoaicjcaa.Poly
