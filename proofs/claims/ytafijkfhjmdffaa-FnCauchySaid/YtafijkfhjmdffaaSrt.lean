/-
  WHAT slices.Compact LEAVES OF A SORTED LIST, AND WHAT A SORTED LIST HOLDS. No program in sight. No conditions beyond those typed.
-/
import Derived.Lib.SlicesCompact
set_option linter.unusedVariables false
namespace Go.Proofs.Ytafijkfhjmdffaa.Srt
open Go.Lib

theorem compact_le (l : List Int) : (compact l).length ≤ l.length := by
  unfold compact compactUpTo
  rw [List.length_map]
  exact Nat.le_trans (List.length_filter_le _ _) (by rw [List.length_range]; exact Nat.le_refl _)
theorem compact_len (l : List Int) (hs : l.Pairwise (· ≤ ·)) : ((compact l).length < l.length) = ¬ l.Nodup := by
  have h0 : (compact l).length = l.length ↔ ∀ j, j < l.length → keeps l.toArray j = true := by
    unfold compact compactUpTo
    rw [List.length_map]
    constructor
    · intro h j hj
      have h2 : ((List.range l.length).filter (keeps l.toArray)).length = (List.range l.length).length := by rw [h, List.length_range]
      exact List.length_filter_eq_length_iff.1 h2 j (List.mem_range.2 hj)
    · intro h
      have h2 : ((List.range l.length).filter (keeps l.toArray)).length = (List.range l.length).length := List.length_filter_eq_length_iff.2 (fun j hj => h j (List.mem_range.1 hj))
      rw [h2, List.length_range]
  have h1 : (∀ j, j < l.length → keeps l.toArray j = true) ↔ l.Nodup := by
    have hat : ∀ j, (h : j < l.length) → l.toArray[j]! = l[j] := fun j h => by simp [h]
    constructor
    · intro h
      rw [List.Nodup, List.pairwise_iff_getElem]
      intro i j hi hj hij he
      have hk := h j hj
      simp only [keeps, decide_eq_true_eq] at hk
      rcases hk with hk | hk
      · omega
      · apply hk
        rw [hat j hj, hat (j - 1) (by omega)]
        have hle : l[j - 1] ≤ l[j] := (List.pairwise_iff_getElem.1 hs) (j - 1) j (by omega) hj (by omega)
        by_cases e : i = j - 1
        · subst e; omega
        · have hle2 : l[i] ≤ l[j - 1] := (List.pairwise_iff_getElem.1 hs) i (j - 1) hi (by omega) (by omega)
          omega
    · intro h j hj
      simp only [keeps, decide_eq_true_eq]
      by_cases h0 : j = 0
      · exact .inl h0
      · refine .inr fun he => ?_
        rw [hat j hj, hat (j - 1) (by omega)] at he
        exact (List.pairwise_iff_getElem.1 h) (j - 1) j (by omega) hj (by omega) he.symm
  have h2 := compact_le l
  rw [eq_iff_iff, ← h1, ← h0]
  omega
def srt (l : List Int) : List Int := l.mergeSort fun x y => decide (x ≤ y)
theorem srt_perm (l : List Int) : (srt l).Perm l := List.mergeSort_perm _ _
theorem srt_sorted (l : List Int) : (srt l).Pairwise (· ≤ ·) := by
  have := List.pairwise_mergeSort (le := fun (x y : Int) => decide (x ≤ y)) (fun a b c h1 h2 => by simp only [decide_eq_true_eq] at *; omega) (fun a b => by simp only [Bool.or_eq_true, decide_eq_true_eq]; omega) l
  exact this.imp (fun h => by simpa using h)
theorem srt_length (l : List Int) : (srt l).length = l.length := (srt_perm l).length_eq
theorem srt_any (p : Int → Bool) (l : List Int) : (srt l).any p = l.any p := by
  rw [Bool.eq_iff_iff, List.any_eq_true, List.any_eq_true]
  constructor
  · rintro ⟨x, h, hp⟩; exact ⟨x, (srt_perm l).mem_iff.1 h, hp⟩
  · rintro ⟨x, h, hp⟩; exact ⟨x, (srt_perm l).mem_iff.2 h, hp⟩
theorem srt_all (p : Int → Bool) (l : List Int) : (srt l).all p = l.all p := by
  rw [Bool.eq_iff_iff, List.all_eq_true, List.all_eq_true]
  exact ⟨fun h x hx => h x ((srt_perm l).mem_iff.2 hx), fun h x hx => h x ((srt_perm l).mem_iff.1 hx)⟩
theorem srt_compact (l : List Int) : ((compact (srt l)).length < l.length) = ¬ l.Nodup := by
  have h := compact_len (srt l) (srt_sorted l)
  rw [srt_length] at h
  rw [h, (srt_perm l).nodup_iff]
end Go.Proofs.Ytafijkfhjmdffaa.Srt
