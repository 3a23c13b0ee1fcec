/- The machine's side of FnExactJoinBody, written by this session's program out of the kit's print of the program, with contracts of this session's own. No conditions beyond those typed. -/
import Derived.Test.YtekadhniinpdfaaProg
import Derived.Below
import Derived.Deep.Draws
import Derived.Deep.AppendLies
import Derived.Maps.AppendAt
import Derived.OwnWalk
import Derived.Laws.BytesArg
import Derived.Laws.MakeOwn
import Derived.Laws.OwnMore
import Derived.Deep.OwnRows
import Derived.Tactics
import Derived.Lib.ConvBytes
import Derived.Laws.Slices
import Derived.WalkKit
import Derived.KernelRfl
import Derived.RowKit3
import Derived.Deep.LoopGhost
import Derived.Deep.QuietTactic
import Derived.BigQuiet
import Derived.WideLaws
import Derived.Deep.DeepCutAuto
import Derived.Deep.CutBlock
import Derived.Deep.RegionHeld3
import Derived.Laws.Rows
import Derived.Lib.AppendStr
import Derived.ArgAppend
import Derived.Laws.IdiomCopy
import Derived.OrdersHeld
import Derived.Laws.BitsLemmas
import Derived.RowKit
import Derived.Shelf.Abstract
import Derived.Lib.SliceRun
import Derived.Shelf.Lays
import Derived.Shelf.Strings.OnBuilder
import Derived.Test.YtekadhniinpdfaaWWords
import Derived.Test.YtekadhniinpdfaaWLast
import Derived.Test.YtekadhniinpdfaaWTab
import Derived.Test.YtekadhniinpdfaaWFour
import Derived.Test.YtekadhniinpdfaaWQPut
import Derived.Test.YtekadhniinpdfaaWApart
import Derived.Test.YtekadhniinpdfaaWArr
import Derived.Test.YtekadhniinpdfaaWZeros
import Derived.Test.YtekadhniinpdfaaWFoot
import Derived.Test.YtekadhniinpdfaaWKept
import Derived.Test.YtekadhniinpdfaaWShare
import Derived.Test.YtekadhniinpdfaaWN
import Derived.Test.YtekadhniinpdfaaWFootNe
import Derived.Test.YtekadhniinpdfaaWAt
import Derived.Test.YtekadhniinpdfaaWEqStruct
import Derived.Test.YtekadhniinpdfaaWRepsOne
import Derived.Test.YtekadhniinpdfaaWInv
import Derived.Test.YtekadhniinpdfaaWInvWords
import Derived.Test.YtekadhniinpdfaaWGuard
import Derived.Test.YtekadhniinpdfaaWNEv
import Derived.Test.YtekadhniinpdfaaWMore
namespace Go.Proofs.Ytekadhniinpdfaa.MFnExactJoinBody
open Go.RowKit Go.Proofs.YtekadhniinpdfaaW.PrintWords Go.Proofs.YtekadhniinpdfaaW.PrintLast Go.Proofs.YtekadhniinpdfaaW.PrintMore
attribute [local go_sem] max2_int min2_int max_two min_two max_three min_three max_four min_four   -- for this text's walks alone
set_option linter.unusedVariables false
set_option linter.unusedSimpArgs false



def errW : Option Int → Value
  | none => .nilIface
  | some c => .iface 0 (.int .i64 c)
theorem errW_none : errW none = .nilIface := rfl
theorem errW_some (c : Int) : errW (some c) = .iface 0 (.int .i64 c) := rfl

theorem info9 : (Try.prog.info? 9).map (fun i => (i.zero, i.size, i.bytes)) = some (some (.string ⟨#[]⟩), 1, 16) := by kernel_rfl
-- the values' own types

end Go.Proofs.Ytekadhniinpdfaa.MFnExactJoinBody
