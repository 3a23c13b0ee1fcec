/- The machine's side of FnExactReadAll, written by this session's program out of the kit's print of the program, with contracts of this session's own. No conditions beyond those typed. -/
import Derived.Test.YtncgojfhaagkkaaProg
import Derived.Below
import Derived.Deep.Draws
import Derived.Deep.AppendLies
import Derived.Maps.AppendAt
import Derived.OwnWalk
import Derived.Laws.BytesArg
import Derived.Laws.MakeOwn
import Derived.Laws.OwnMore
import Derived.Deep.OwnRows
import Derived.Tactics
import Derived.Lib.ConvBytes
import Derived.Laws.Slices
import Derived.WalkKit
import Derived.KernelRfl
import Derived.RowKit3
import Derived.Deep.LoopGhost
import Derived.Deep.QuietTactic
import Derived.BigQuiet
import Derived.WideLaws
import Derived.Deep.DeepCutAuto
import Derived.Deep.CutBlock
import Derived.Deep.RegionHeld3
import Derived.Laws.Rows
import Derived.Lib.AppendStr
import Derived.ArgAppend
import Derived.Laws.IdiomCopy
import Derived.OrdersHeld
import Derived.Laws.BitsLemmas
import Derived.RowKit
import Derived.Shelf.Abstract
import Derived.Lib.SliceRun
import Derived.Shelf.Lays
import Derived.Shelf.Strings.OnBuilder
import Derived.Test.YtncgojfhaagkkaaWWords
import Derived.Test.YtncgojfhaagkkaaWLast
import Derived.Test.YtncgojfhaagkkaaWTab
import Derived.Test.YtncgojfhaagkkaaWFour
import Derived.Test.YtncgojfhaagkkaaWQPut
import Derived.Test.YtncgojfhaagkkaaWApart
import Derived.Test.YtncgojfhaagkkaaWArr
import Derived.Test.YtncgojfhaagkkaaWZeros
import Derived.Test.YtncgojfhaagkkaaWFoot
import Derived.Test.YtncgojfhaagkkaaWKept
import Derived.Test.YtncgojfhaagkkaaWShare
import Derived.Test.YtncgojfhaagkkaaWN
import Derived.Test.YtncgojfhaagkkaaWFootNe
import Derived.Test.YtncgojfhaagkkaaWAt
import Derived.Test.YtncgojfhaagkkaaWEqStruct
import Derived.Test.YtncgojfhaagkkaaWRepsOne
import Derived.Test.YtncgojfhaagkkaaWInv
import Derived.Test.YtncgojfhaagkkaaWInvWords
import Derived.Test.YtncgojfhaagkkaaWGuard
import Derived.Test.YtncgojfhaagkkaaWNEv
import Derived.Test.YtncgojfhaagkkaaWMore
namespace Go.Proofs.Ytncgojfhaagkkaa.MFnExactReadAll
open Go.RowKit Go.Proofs.YtncgojfhaagkkaaW.PrintWords Go.Proofs.YtncgojfhaagkkaaW.PrintLast Go.Proofs.YtncgojfhaagkkaaW.PrintMore
attribute [local go_sem] max2_int min2_int max_two min_two max_three min_three max_four min_four   -- for this text's walks alone
set_option linter.unusedVariables false
set_option linter.unusedSimpArgs false



def errW : Option Int → Value
  | none => .nilIface
  | some c => .iface 0 (.int .i64 c)
theorem errW_none : errW none = .nilIface := rfl
theorem errW_some (c : Int) : errW (some c) = .iface 0 (.int .i64 c) := rfl

theorem info5 : (Try.prog.info? 5).map (fun i => (i.zero, i.size, i.bytes)) = some (some (.int .u8 0), 1, 1) := by kernel_rfl
theorem info9 : (Try.prog.info? 9).map (fun i => (i.zero, i.size, i.bytes)) = some (some (.string ⟨#[]⟩), 1, 16) := by kernel_rfl
-- the values' own types

end Go.Proofs.Ytncgojfhaagkkaa.MFnExactReadAll
