/- The row of the law FnExactGoodFrame: a struct by value, taken apart and put together again; the walk is the printed one. No conditions beyond the row's own. -/
import Derived.Test.YthaffjolcghkoaaRows
import Derived.Test.YthaffjolcghkoaaMFnExactGoodFramex1
import Derived.Test.YthaffjolcghkoaaPureFnExactGoodFrame
import Derived.WalkKit
import Derived.ProofKit
import Derived.OpenShut
import Derived.ShutString
import Derived.ChangeOld
import Derived.Below
import Derived.SizedLaws
import Derived.Lib.SmallJoins
namespace Go.Proofs.Ythaffjolcghkoaa.fnExactGoodFrame
open Go.ChangeShapes Go.WideShapes Go.ChangeAt Go.RowKit
open Go.ChangeMaps (open_string shut_string)
set_option linter.unusedVariables false
theorem own : ownKnob Try.prog.godebug = none := by kernel_rfl
set_option maxRecDepth 100000 in
theorem lifted (os : Os) (started : os.Started) (H : Type) (enc : TypeId × Value → H) :
    ReturnsInHanded {} Try.checked os 5 .any (Rows.fnExactGoodFrameSpec.pre6 enc Try.prog Try.f5 Rows.fnExactGoodFrameRow.domain false) (Rows.fnExactGoodFrameSpec.post enc Try.prog Try.f5 false true false false) := by
  refine returnsInHanded_of_change_sized (C := Try.checked) own started (by kernel_rfl) Try.func5
    (ChangeSpec.witness6 (enc := enc) (C := Try.checked) false ⟨#[], #[.agg #[.int .i64 0, .int .i64 0, .int .i64 0, .string ByteArray.empty]], []⟩ 8 (by kernel_rfl) (by kernel_rfl) (by kernel_rfl) (by kernel_rfl)) ?_
  intro W base args ds gs before hval0 hW hcnd hsz0 _
  have hval : ∀ (j : Nat) t v, Try.f5.params[j]? = some t → args[j]? = some v → Value.okWide Try.prog W .any base t v := hval0
  have hW' := hW
  obtain ⟨p, q, hA0, hV, rfl, hfz, hnd⟩ := hW
  have hA : DataW.TrodAll enc Try.prog W 0 (fun _ => true) true Try.f5.params.toList args.toList ds p := hA0
  rw [Try.params5] at hA hval
  obtain ⟨v0, vs0, d0, ds0, p0, q0, hargs, rfl, rfl, h0, r0⟩ := trodAll_cons hA
  obtain ⟨rfl, rfl, rfl⟩ := trodAll_nil r0
  obtain rfl : args = #[v0] := by cases args; simp_all
  obtain ⟨rfl, rfl⟩ := trodVars_none hV
  obtain ⟨c0, c1, c2, c3, y0, y1, y2, y3, n, rfl, rfl, rfl, t0, t1, t2, t3⟩ := Go.Joins.open_agg4 Try.underlying27 (by kernel_rfl) (by kernel_rfl) (hval 0 27 v0 rfl rfl) h0
  obtain ⟨a0, e0, x0, w0⟩ := DataW.trod_int Try.underlying3 t0
  obtain ⟨a1, e1, x1, w1⟩ := DataW.trod_int Try.underlying3 t1
  obtain ⟨a2, e2, x2, w2⟩ := DataW.trod_int Try.underlying3 t2
  obtain ⟨a3, e3, x3, w3⟩ := DataW.trod_string Try.underlying9 t3
  obtain rfl : c0 = .int .i64 a0 := by simpa using e0
  obtain rfl : c1 = .int .i64 a1 := by simpa using e1
  obtain rfl : c2 = .int .i64 a2 := by simpa using e2
  obtain rfl : c3 = .string a3 := by simpa using e3
  subst x0 x1 x2 x3
  clear hA0 hval0 hsz0
  refine (MFnExactGoodFrame.laws_FnExactGoodFrame.calls a0 a1 a2 a3 true W (Pure.FnExactGoodFrame a0 a1 a2 a3)).mono fun e W' ⟨he, bel⟩ => ?_
  subst he
  exact ⟨_, rfl, _, _, _, [], _, [], hW', trodAll_mk1 (shut_bool Try.underlying4 _), trodAll_mk1 (Go.Joins.shut_agg4 Try.underlying27 (by kernel_rfl) (by kernel_rfl) (Go.Joins.field_of_Trod (shut_int Try.underlying3 w0) rfl) (Go.Joins.field_of_Trod (shut_int Try.underlying3 w1) rfl) (Go.Joins.field_of_Trod (shut_int Try.underlying3 w2) rfl) (Go.Joins.field_of_Trod (shut_string Try.underlying9 w3) rfl)), rfl, bel.frame _, fun h => by cases h⟩
theorem over : Rows.fnExactGoodFrameRow.holds Try.pinned (OpenSpec.ofChange Rows.fnExactGoodFrameSpec) :=
  OpenClaim.holds_of_wide 5 Try.f5 rfl rfl rfl rfl rfl rfl rfl ⟨rfl, rfl, rfl, rfl, rfl⟩ rfl rfl rfl rfl rfl (by kernel_rfl) Try.func5 (by kernel_rfl)
    (of_decide_eq_true (by kernel_rfl)) (by unfold Func.isWrapper; first | (rw [if_pos (by decide +kernel)]; kernel_rfl) | (rw [if_neg (by decide +kernel)]; exact ⟨rfl, rfl⟩))
    (fun os started H enc _ => lifted os started H enc)
theorem proved : Rows.FnExactGoodFrameSaid := over
#print axioms proved
end Go.Proofs.Ythaffjolcghkoaa.fnExactGoodFrame
namespace Go.Proofs.Ythaffjolcghkoaa
/-- The row, under a short name, for the claim. -/
theorem fnExactGoodFrame_holds : Rows.FnExactGoodFrameSaid := fnExactGoodFrame.proved
end Go.Proofs.Ythaffjolcghkoaa
