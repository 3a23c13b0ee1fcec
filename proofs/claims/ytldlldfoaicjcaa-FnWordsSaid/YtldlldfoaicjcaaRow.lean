/-
  HOW ARGUMENTS READ: slices of whole numbers, of texts, and of such slices, in the print's words. No program in sight. No conditions beyond those typed.
-/
import Derived.Test.YtldlldfoaicjcaaWApart
import Derived.Deep.Matrix
import Derived.SliceStrings
import Derived.ChangeSlices
set_option linter.unusedVariables false
namespace Go.Proofs.Ytldlldfoaicjcaa.Row
open Go.RowKit Go.ChangeShapes Go.WideShapes Go.Deep Go.Proofs.YtldlldfoaicjcaaW.PrintWords
section
variable {H : Type} {enc : TypeId × Value → H} {P : Program} {w : World} {base : Nat} {held : Bool}
theorem ints_cells {k : IntKind} {a : Option Addr} {l : List Int} (hm : l.length ≤ 9223372036854775807) (h : 0 < l.length → ∃ ad, a = some ad ∧ ∀ j, j < l.length → w.cell? (ad.add j) = some (.int k (l.getD j 0))) : (Kd.int k).C w a l.length l :=
  Kd.C_of_reads (d := (0 : Int)) ⟨rfl, hm, h⟩
theorem getD_take (l : List Int) (n j : Nat) (h : j < n) : (l.take n).getD j 0 = l.getD j 0 := by
  rw [List.getD_eq_getElem?_getD, List.getD_eq_getElem?_getD, List.getElem?_take, if_pos h]
theorem ints_of {t e : TypeId} {k : IntKind} {a : Option Addr} {len cap : Nat} {d : DataW H} {ps : List MemPlace} (ht : P.underlying t = some (.slice e)) (he : P.underlying e = some (.int k)) (ce : P.cellsOf e = 1)
    (h : DataW.Trod enc P w base (fun _ => true) held t (.slice a len cap) d ps) : ∃ l : List Int, len = l.length ∧ len ≤ cap ∧ (Kd.int k).C w a l.length l ∧ ∀ x ∈ l, (Lit.int k x).wf = true := by
  obtain ⟨fuel, hf⟩ := h
  rcases open_ints ht he ce hf with ⟨hcs, _⟩ | ⟨x, l, c, zs, hcs, _, hl, hm, hz, _, hcell, hwz⟩
  · simp [Value.cells] at hcs
    obtain ⟨rfl, rfl, rfl⟩ := hcs
    exact ⟨[], rfl, Nat.le_refl _, Kd.C_nil _ _, fun x hx => by cases hx⟩
  · simp [Value.cells] at hcs
    obtain ⟨rfl, rfl, rfl⟩ := hcs
    have hz' : zs.length = cap := by simpa using hz
    have hm' : cap ≤ 9223372036854775807 := by simpa [maxLen] using hm
    have e1 : (zs.take len).length = len := by rw [List.length_take]; omega
    refine ⟨zs.take len, e1.symm, hl, ints_cells (by omega) (fun hp => ⟨x, rfl, fun j hj => ?_⟩), fun y hy => hwz y (List.mem_of_mem_take hy)⟩
    rw [e1] at hj
    rw [getD_take _ _ _ hj]
    exact hcell j (by omega)
end
end Go.Proofs.Ytldlldfoaicjcaa.Row
