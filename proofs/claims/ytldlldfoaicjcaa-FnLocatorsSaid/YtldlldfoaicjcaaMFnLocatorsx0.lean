/- The machine's side of FnLocators, written by this session's program out of the kit's print of the program, with contracts of this session's own. No conditions beyond those typed. -/
import Derived.Test.YtldlldfoaicjcaaProg
import Derived.Below
import Derived.Deep.Draws
import Derived.Deep.AppendLies
import Derived.Maps.AppendAt
import Derived.OwnWalk
import Derived.Laws.BytesArg
import Derived.Laws.MakeOwn
import Derived.Laws.OwnMore
import Derived.Deep.OwnRows
import Derived.Tactics
import Derived.Lib.ConvBytes
import Derived.Laws.Slices
import Derived.WalkKit
import Derived.KernelRfl
import Derived.RowKit3
import Derived.Deep.LoopGhost
import Derived.Deep.QuietTactic
import Derived.BigQuiet
import Derived.WideLaws
import Derived.Deep.DeepCutAuto
import Derived.Deep.CutBlock
import Derived.Deep.RegionHeld3
import Derived.Laws.Rows
import Derived.Lib.AppendStr
import Derived.ArgAppend
import Derived.Laws.IdiomCopy
import Derived.OrdersHeld
import Derived.Laws.BitsLemmas
import Derived.RowKit
import Derived.Shelf.Abstract
import Derived.Lib.SliceRun
import Derived.Test.YtldlldfoaicjcaaWWords
import Derived.Test.YtldlldfoaicjcaaWLast
import Derived.Test.YtldlldfoaicjcaaWTab
import Derived.Test.YtldlldfoaicjcaaWFour
import Derived.Test.YtldlldfoaicjcaaWQPut
import Derived.Test.YtldlldfoaicjcaaWApart
import Derived.Test.YtldlldfoaicjcaaWArr
import Derived.Test.YtldlldfoaicjcaaWZeros
import Derived.Test.YtldlldfoaicjcaaWFoot
import Derived.Test.YtldlldfoaicjcaaWKept
import Derived.Test.YtldlldfoaicjcaaWShare
import Derived.Test.YtldlldfoaicjcaaWN
import Derived.Test.YtldlldfoaicjcaaWFootNe
import Derived.Test.YtldlldfoaicjcaaWAt
import Derived.Test.YtldlldfoaicjcaaWEqStruct
import Derived.Test.YtldlldfoaicjcaaWRepsOne
import Derived.Test.YtldlldfoaicjcaaWInv
import Derived.Test.YtldlldfoaicjcaaWInvWords
import Derived.Test.YtldlldfoaicjcaaWGuard
import Derived.Test.YtldlldfoaicjcaaWNEv
import Derived.Test.YtldlldfoaicjcaaWMore
namespace Go.Proofs.Ytldlldfoaicjcaa.MFnLocators
open Go.RowKit Go.Proofs.YtldlldfoaicjcaaW.PrintWords Go.Proofs.YtldlldfoaicjcaaW.PrintLast Go.Proofs.YtldlldfoaicjcaaW.PrintMore
attribute [local go_sem] max2_int min2_int max_two min_two max_three min_three max_four min_four   -- for this text's walks alone
set_option linter.unusedVariables false
set_option linter.unusedSimpArgs false



def errW : Option Int → Value
  | none => .nilIface
  | some c => .iface 0 (.int .i64 c)
theorem errW_none : errW none = .nilIface := rfl
theorem errW_some (c : Int) : errW (some c) = .iface 0 (.int .i64 c) := rfl

theorem info3 : (Try.prog.info? 3).map (fun i => (i.zero, i.size, i.bytes)) = some (some (.int .i64 0), 1, 8) := by kernel_rfl
-- the values' own types

end Go.Proofs.Ytldlldfoaicjcaa.MFnLocators
