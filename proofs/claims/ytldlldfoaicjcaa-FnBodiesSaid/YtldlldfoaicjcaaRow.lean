/-
  HOW ARGUMENTS READ: slices of whole numbers, of texts, and of such slices, in the print's words. No program in sight. No conditions beyond those typed.
-/
import Derived.Test.YtldlldfoaicjcaaWApart
import Derived.Deep.Matrix
import Derived.SliceStrings
import Derived.ChangeSlices
set_option linter.unusedVariables false
namespace Go.Proofs.Ytldlldfoaicjcaa.Row
open Go.RowKit Go.ChangeShapes Go.WideShapes Go.Deep Go.Proofs.YtldlldfoaicjcaaW.PrintWords
section
variable {H : Type} {enc : TypeId × Value → H} {P : Program} {w : World} {base : Nat} {held : Bool}
theorem ints_cells {k : IntKind} {a : Option Addr} {l : List Int} (hm : l.length ≤ 9223372036854775807) (h : 0 < l.length → ∃ ad, a = some ad ∧ ∀ j, j < l.length → w.cell? (ad.add j) = some (.int k (l.getD j 0))) : (Kd.int k).C w a l.length l :=
  Kd.C_of_reads (d := (0 : Int)) ⟨rfl, hm, h⟩
theorem getD_take (l : List Int) (n j : Nat) (h : j < n) : (l.take n).getD j 0 = l.getD j 0 := by
  rw [List.getD_eq_getElem?_getD, List.getD_eq_getElem?_getD, List.getElem?_take, if_pos h]
theorem ints_of {t e : TypeId} {k : IntKind} {a : Option Addr} {len cap : Nat} {d : DataW H} {ps : List MemPlace} (ht : P.underlying t = some (.slice e)) (he : P.underlying e = some (.int k)) (ce : P.cellsOf e = 1)
    (h : DataW.Trod enc P w base (fun _ => true) held t (.slice a len cap) d ps) : ∃ l : List Int, len = l.length ∧ len ≤ cap ∧ (Kd.int k).C w a l.length l ∧ ∀ x ∈ l, (Lit.int k x).wf = true := by
  obtain ⟨fuel, hf⟩ := h
  rcases open_ints ht he ce hf with ⟨hcs, _⟩ | ⟨x, l, c, zs, hcs, _, hl, hm, hz, _, hcell, hwz⟩
  · simp [Value.cells] at hcs
    obtain ⟨rfl, rfl, rfl⟩ := hcs
    exact ⟨[], rfl, Nat.le_refl _, Kd.C_nil _ _, fun x hx => by cases hx⟩
  · simp [Value.cells] at hcs
    obtain ⟨rfl, rfl, rfl⟩ := hcs
    have hz' : zs.length = cap := by simpa using hz
    have hm' : cap ≤ 9223372036854775807 := by simpa [maxLen] using hm
    have e1 : (zs.take len).length = len := by rw [List.length_take]; omega
    refine ⟨zs.take len, e1.symm, hl, ints_cells (by omega) (fun hp => ⟨x, rfl, fun j hj => ?_⟩), fun y hy => hwz y (List.mem_of_mem_take hy)⟩
    rw [e1] at hj
    rw [getD_take _ _ _ hj]
    exact hcell j (by omega)
theorem rows_of {t e q : TypeId} {k : IntKind} {a : Option Addr} {len cap : Nat} {d : DataW H} {ps : List MemPlace} (ht : P.underlying t = some (.slice e)) (he : P.underlying e = some (.slice q)) (hq : P.underlying q = some (.int k)) (ce : P.cellsOf e = 1) (cq : P.cellsOf q = 1)
    (h : DataW.Trod enc P w base (fun _ => true) held t (.slice a len cap) d ps) : ∃ m : List (List Int), len = m.length ∧ len ≤ cap ∧ (Kd.slice q (Kd.int k)).C w a m.length m ∧ ∀ r ∈ m, ∀ x ∈ r, (Lit.int k x).wf = true := by
  obtain ⟨fuel, hf⟩ := h
  rcases open_int_rows ht he hq ce cq hf with ⟨hcs, _⟩ | ⟨x, l, c, A, L, C, Z, hcs, _, hl, hm, _, hrow⟩
  · simp [Value.cells] at hcs
    obtain ⟨rfl, rfl, rfl⟩ := hcs
    exact ⟨[], rfl, Nat.le_refl _, Kd.C_nil _ _, fun x hx => by cases hx⟩
  · simp [Value.cells] at hcs
    obtain ⟨rfl, rfl, rfl⟩ := hcs
    have hm' : cap ≤ 9223372036854775807 := by simpa [maxLen] using hm
    have e1 : ((List.range len).map fun r => (Z r).take (L r)).length = len := by rw [List.length_map, List.length_range]
    refine ⟨(List.range len).map fun r => (Z r).take (L r), e1.symm, hl, ⟨rfl, by omega, fun hp => ⟨x, rfl, fun j p hj => ?_⟩⟩, fun r hr y hy => ?_⟩
    · obtain ⟨i, hi, rfl⟩ := List.getElem?_eq_some_iff.1 hj
      rw [e1] at i
      have hp : ((List.range len).map fun r => (Z r).take (L r))[j] = (Z j).take (L j) := by simp
      rw [hp]
      obtain ⟨hc, h1, h2, h3, h4, h5, h6⟩ := hrow j (by omega)
      have h2' : C j ≤ 9223372036854775807 := by simpa [maxLen] using h2
      have e2 : ((Z j).take (L j)).length = L j := by rw [List.length_take]; omega
      refine ⟨[.slice (A j) ((Z j).take (L j)).length (C j)], rfl, ⟨A j, C j, rfl, by omega, ints_cells (by omega) (fun hp2 => ?_)⟩, fun i u hu => ?_⟩
      · rw [e2] at hp2 ⊢
        cases hA : A j with
        | none => have := h5 hA; omega
        | some a' =>
          refine ⟨a', rfl, fun i hi => ?_⟩
          rw [getD_take _ _ _ hi]
          exact (h6 a' hA).2 i (by omega)
      · rw [e2] at hu
        match i, hu with
        | 0, hu =>
          injection hu with hu
          subst hu
          have : j * (Kd.slice q (Kd.int k)).sz + 0 = j := Nat.mul_one j
          rw [this]
          exact hc
        | i + 1, hu => simp at hu
    · obtain ⟨j, hj, rfl⟩ := List.mem_map.1 hr
      have hj' := List.mem_range.1 hj
      obtain ⟨_, _, _, _, h4, _⟩ := hrow j (by omega)
      exact h4 y (List.mem_of_mem_take hy)
theorem texts_of {t e : TypeId} {a : Option Addr} {len cap : Nat} {d : DataW H} {ps : List MemPlace} (ht : P.underlying t = some (.slice e)) (he : P.underlying e = some .string) (ce : P.cellsOf e = 1)
    (h : DataW.Trod enc P w base (fun _ => true) held t (.slice a len cap) d ps) : ∃ l : List ByteArray, len = l.length ∧ len ≤ cap ∧ Kd.string.C w a l.length l ∧ ∀ s ∈ l, s.size ≤ 9223372036854775807 := by
  obtain ⟨fuel, hf⟩ := h
  rcases open_strings ht he ce hf with ⟨hcs, _⟩ | ⟨x, l, c, zs, hcs, _, hl, hm, hz, _, hcell, hwz⟩
  · simp [Value.cells] at hcs
    obtain ⟨rfl, rfl, rfl⟩ := hcs
    exact ⟨[], rfl, Nat.le_refl _, Kd.C_nil _ _, fun x hx => by cases hx⟩
  · simp [Value.cells] at hcs
    obtain ⟨rfl, rfl, rfl⟩ := hcs
    have hz' : zs.length = cap := by simpa using hz
    have hm' : cap ≤ 9223372036854775807 := by simpa [maxLen] using hm
    have e1 : (zs.take len).length = len := by rw [List.length_take]; omega
    refine ⟨zs.take len, e1.symm, hl, Kd.C_of_reads (d := ByteArray.empty) ⟨rfl, by omega, fun hp => ⟨x, rfl, fun j hj => ?_⟩⟩, fun y hy => by have := hwz y (List.mem_of_mem_take hy); simpa [maxLen] using this⟩
    rw [e1] at hj
    rw [List.getD_eq_getElem?_getD, List.getElem?_take, if_pos hj, ← List.getD_eq_getElem?_getD]
    exact hcell j (by omega)
end
end Go.Proofs.Ytldlldfoaicjcaa.Row
