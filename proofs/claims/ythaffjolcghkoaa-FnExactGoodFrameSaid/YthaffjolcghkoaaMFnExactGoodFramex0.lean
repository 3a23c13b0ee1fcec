/- The machine's side of FnExactGoodFrame, written by this session's program out of the kit's print of the program, with contracts of this session's own. No conditions beyond those typed. -/
import Derived.Test.YthaffjolcghkoaaProg
import Derived.Below
import Derived.Deep.Draws
import Derived.Deep.AppendLies
import Derived.Maps.AppendAt
import Derived.OwnWalk
import Derived.Laws.BytesArg
import Derived.Laws.MakeOwn
import Derived.Laws.OwnMore
import Derived.Deep.OwnRows
import Derived.Tactics
import Derived.Lib.ConvBytes
import Derived.Laws.Slices
import Derived.WalkKit
import Derived.KernelRfl
import Derived.RowKit3
import Derived.Deep.LoopGhost
import Derived.Deep.QuietTactic
import Derived.BigQuiet
import Derived.WideLaws
import Derived.Deep.DeepCutAuto
import Derived.Deep.CutBlock
import Derived.Deep.RegionHeld3
import Derived.Laws.Rows
import Derived.Lib.AppendStr
import Derived.ArgAppend
import Derived.Laws.IdiomCopy
import Derived.OrdersHeld
import Derived.Laws.BitsLemmas
import Derived.RowKit
import Derived.Shelf.Abstract
import Derived.Lib.SliceRun
import Derived.Test.YthaffjolcghkoaaWWords
import Derived.Test.YthaffjolcghkoaaWLast
import Derived.Test.YthaffjolcghkoaaWTab
import Derived.Test.YthaffjolcghkoaaWFour
import Derived.Test.YthaffjolcghkoaaWQPut
import Derived.Test.YthaffjolcghkoaaWApart
import Derived.Test.YthaffjolcghkoaaWArr
import Derived.Test.YthaffjolcghkoaaWZeros
import Derived.Test.YthaffjolcghkoaaWFoot
import Derived.Test.YthaffjolcghkoaaWKept
import Derived.Test.YthaffjolcghkoaaWShare
import Derived.Test.YthaffjolcghkoaaWN
import Derived.Test.YthaffjolcghkoaaWFootNe
import Derived.Test.YthaffjolcghkoaaWAt
import Derived.Test.YthaffjolcghkoaaWEqStruct
import Derived.Test.YthaffjolcghkoaaWRepsOne
import Derived.Test.YthaffjolcghkoaaWInv
import Derived.Test.YthaffjolcghkoaaWInvWords
import Derived.Test.YthaffjolcghkoaaWGuard
import Derived.Test.YthaffjolcghkoaaWNEv
import Derived.Test.YthaffjolcghkoaaWMore
namespace Go.Proofs.Ythaffjolcghkoaa.MFnExactGoodFrame
open Go.RowKit Go.Proofs.YthaffjolcghkoaaW.PrintWords Go.Proofs.YthaffjolcghkoaaW.PrintLast Go.Proofs.YthaffjolcghkoaaW.PrintMore
attribute [local go_sem] max2_int min2_int max_two min_two max_three min_three max_four min_four   -- for this text's walks alone
set_option linter.unusedVariables false
set_option linter.unusedSimpArgs false



def errW : Option Int → Value
  | none => .nilIface
  | some c => .iface 0 (.int .i64 c)
theorem errW_none : errW none = .nilIface := rfl
theorem errW_some (c : Int) : errW (some c) = .iface 0 (.int .i64 c) := rfl

-- the values' own types

end Go.Proofs.Ythaffjolcghkoaa.MFnExactGoodFrame
