/-
  No cell of these rows narrows 'for every input' (looked for: loops, veiled, ifaces, maps, wideKeys, modest, calm, conditions, laid).
  DERIVED. THE GIVEN ROWS OF THIS SEAT. 12 by the template 'for every input the law returns true; each argument reads behind the call as it read before'; 0 by the template 'total and deterministic' (their statements: YtpfcdmcnajljcaaTotals.lean).
  GIVEN WITH THE SEED: the statements are not yours to turn. If you find one false, say at which input.
  Laid BY PROGRAM, IN A SANDBOX (cutbox-rows.mjs): the forced cells as the released guide's own fill.sh prints them over the translation 45c2bad24c88dc32… (all of the seat's roots in one cut). By AI agents, Wed Nov 11 2026. No macro, syntax, notation, axiom, sorry.
-/
import Derived.Test.YtpfcdmcnajljcaaChecked
import GoSem.Claim
import GoSem.ClaimJoined
import GoSem.ClaimMapViews
import Derived.JoinedTies
import Derived.KernelRfl
namespace Go.Proofs.Ytpfcdmcnajljcaa
/- THE CELL 'sum', in the pinned program and in every row, IS THE sha256 OF THE DUMP (.gsa) THAT YtpfcdmcnajljcaaProg.lean LOADS. Nothing in Lean hashes anything: it is a label: what it is worth is what the hold of that sum in a sandbox is worth. -/
noncomputable def Try.pinned : Pinned := { name := "ytpfcdmcnajljcaa", sum := "45c2bad24c88dc329e9bf581d39a028f1c7a950288eae6e639558a009630f5b3", checked := Try.checked }
namespace Rows
def none {H : Type} : Left H := { results := [], args := [] }

/-- 'laws.FnExactWrongPlaces': WHATEVER THE INPUT: true; the input reads as it did. -/
def fnExactWrongPlacesSpec : ChangeSpec := { name := "fnExactWrongPlaces", fn := fun _ => fun
  | [d1, d2] => { results := [.lit (.bool true)], args := [d1, d2] }
  | _ => none }
def fnExactWrongPlacesRow : OpenClaim := { program := "ytpfcdmcnajljcaa", sum := "45c2bad24c88dc329e9bf581d39a028f1c7a950288eae6e639558a009630f5b3", func := "loop.example/g00405/laws.FnExactWrongPlaces", spec := "fnExactWrongPlaces", apart := false }
def FnExactWrongPlacesSaid : Prop := fnExactWrongPlacesRow.holds Try.pinned (OpenSpec.ofChange fnExactWrongPlacesSpec)

/-- ITS FALSE NEIGHBOUR: 'it returns false'. Refute it at one input. -/
def fnExactWrongPlacesWrong : ChangeSpec := { name := "fnExactWrongPlaces", fn := fun _ => fun
  | [d1, d2] => { results := [.lit (.bool false)], args := [d1, d2] }
  | _ => none }
def FnExactWrongPlacesWrongFalsely : Prop := fnExactWrongPlacesRow.holds Try.pinned (OpenSpec.ofChange fnExactWrongPlacesWrong)

/-- 'laws.FnExactSplitBody': WHATEVER THE INPUT: true; the input reads as it did. -/
def fnExactSplitBodySpec : ChangeSpec := { name := "fnExactSplitBody", fn := fun _ => fun
  | [d] => { results := [.lit (.bool true)], args := [d] }
  | _ => none }
def fnExactSplitBodyRow : OpenClaim := { program := "ytpfcdmcnajljcaa", sum := "45c2bad24c88dc329e9bf581d39a028f1c7a950288eae6e639558a009630f5b3", func := "loop.example/g00405/laws.FnExactSplitBody", spec := "fnExactSplitBody", apart := false }
def FnExactSplitBodySaid : Prop := fnExactSplitBodyRow.holds Try.pinned (OpenSpec.ofChange fnExactSplitBodySpec)

/-- ITS FALSE NEIGHBOUR: 'it returns false'. Refute it at one input. -/
def fnExactSplitBodyWrong : ChangeSpec := { name := "fnExactSplitBody", fn := fun _ => fun
  | [d] => { results := [.lit (.bool false)], args := [d] }
  | _ => none }
def FnExactSplitBodyWrongFalsely : Prop := fnExactSplitBodyRow.holds Try.pinned (OpenSpec.ofChange fnExactSplitBodyWrong)

/-- 'laws.FnExactPowGf': WHATEVER THE INPUT: true; the input reads as it did. -/
def fnExactPowGfSpec : ChangeSpec := { name := "fnExactPowGf", fn := fun _ => fun
  | [d1, d2] => { results := [.lit (.bool true)], args := [d1, d2] }
  | _ => none }
def fnExactPowGfRow : OpenClaim := { program := "ytpfcdmcnajljcaa", sum := "45c2bad24c88dc329e9bf581d39a028f1c7a950288eae6e639558a009630f5b3", func := "loop.example/g00405/laws.FnExactPowGf", spec := "fnExactPowGf", apart := false }
def FnExactPowGfSaid : Prop := fnExactPowGfRow.holds Try.pinned (OpenSpec.ofChange fnExactPowGfSpec)

/-- ITS FALSE NEIGHBOUR: 'it returns false'. Refute it at one input. -/
def fnExactPowGfWrong : ChangeSpec := { name := "fnExactPowGf", fn := fun _ => fun
  | [d1, d2] => { results := [.lit (.bool false)], args := [d1, d2] }
  | _ => none }
def FnExactPowGfWrongFalsely : Prop := fnExactPowGfRow.holds Try.pinned (OpenSpec.ofChange fnExactPowGfWrong)

/-- 'laws.FnExactDivGf': WHATEVER THE INPUT: true; the input reads as it did. -/
def fnExactDivGfSpec : ChangeSpec := { name := "fnExactDivGf", fn := fun _ => fun
  | [d1, d2] => { results := [.lit (.bool true)], args := [d1, d2] }
  | _ => none }
def fnExactDivGfRow : OpenClaim := { program := "ytpfcdmcnajljcaa", sum := "45c2bad24c88dc329e9bf581d39a028f1c7a950288eae6e639558a009630f5b3", func := "loop.example/g00405/laws.FnExactDivGf", spec := "fnExactDivGf", apart := false }
def FnExactDivGfSaid : Prop := fnExactDivGfRow.holds Try.pinned (OpenSpec.ofChange fnExactDivGfSpec)

/-- ITS FALSE NEIGHBOUR: 'it returns false'. Refute it at one input. -/
def fnExactDivGfWrong : ChangeSpec := { name := "fnExactDivGf", fn := fun _ => fun
  | [d1, d2] => { results := [.lit (.bool false)], args := [d1, d2] }
  | _ => none }
def FnExactDivGfWrongFalsely : Prop := fnExactDivGfRow.holds Try.pinned (OpenSpec.ofChange fnExactDivGfWrong)

/-- 'laws.FnExactExpTable': WHATEVER THE INPUT: true; the input reads as it did. -/
def fnExactExpTableSpec : ChangeSpec := { name := "fnExactExpTable", fn := fun _ => fun
  | [] => { results := [.lit (.bool true)], args := [] }
  | _ => none }
def fnExactExpTableRow : OpenClaim := { program := "ytpfcdmcnajljcaa", sum := "45c2bad24c88dc329e9bf581d39a028f1c7a950288eae6e639558a009630f5b3", func := "loop.example/g00405/laws.FnExactExpTable", spec := "fnExactExpTable", apart := false }
def FnExactExpTableSaid : Prop := fnExactExpTableRow.holds Try.pinned (OpenSpec.ofChange fnExactExpTableSpec)

/-- ITS FALSE NEIGHBOUR: 'it returns false'. Refute it at one input. -/
def fnExactExpTableWrong : ChangeSpec := { name := "fnExactExpTable", fn := fun _ => fun
  | [] => { results := [.lit (.bool false)], args := [] }
  | _ => none }
def FnExactExpTableWrongFalsely : Prop := fnExactExpTableRow.holds Try.pinned (OpenSpec.ofChange fnExactExpTableWrong)

/-- 'laws.FnExactIdentityOf': WHATEVER THE INPUT: true; the input reads as it did. -/
def fnExactIdentityOfSpec : ChangeSpec := { name := "fnExactIdentityOf", fn := fun _ => fun
  | [d] => { results := [.lit (.bool true)], args := [d] }
  | _ => none }
def fnExactIdentityOfRow : OpenClaim := { program := "ytpfcdmcnajljcaa", sum := "45c2bad24c88dc329e9bf581d39a028f1c7a950288eae6e639558a009630f5b3", func := "loop.example/g00405/laws.FnExactIdentityOf", spec := "fnExactIdentityOf", apart := false }
def FnExactIdentityOfSaid : Prop := fnExactIdentityOfRow.holds Try.pinned (OpenSpec.ofChange fnExactIdentityOfSpec)

/-- ITS FALSE NEIGHBOUR: 'it returns false'. Refute it at one input. -/
def fnExactIdentityOfWrong : ChangeSpec := { name := "fnExactIdentityOf", fn := fun _ => fun
  | [d] => { results := [.lit (.bool false)], args := [d] }
  | _ => none }
def FnExactIdentityOfWrongFalsely : Prop := fnExactIdentityOfRow.holds Try.pinned (OpenSpec.ofChange fnExactIdentityOfWrong)

/-- 'laws.FnExactLogTable': WHATEVER THE INPUT: true; the input reads as it did. -/
def fnExactLogTableSpec : ChangeSpec := { name := "fnExactLogTable", fn := fun _ => fun
  | [] => { results := [.lit (.bool true)], args := [] }
  | _ => none }
def fnExactLogTableRow : OpenClaim := { program := "ytpfcdmcnajljcaa", sum := "45c2bad24c88dc329e9bf581d39a028f1c7a950288eae6e639558a009630f5b3", func := "loop.example/g00405/laws.FnExactLogTable", spec := "fnExactLogTable", apart := false }
def FnExactLogTableSaid : Prop := fnExactLogTableRow.holds Try.pinned (OpenSpec.ofChange fnExactLogTableSpec)

/-- ITS FALSE NEIGHBOUR: 'it returns false'. Refute it at one input. -/
def fnExactLogTableWrong : ChangeSpec := { name := "fnExactLogTable", fn := fun _ => fun
  | [] => { results := [.lit (.bool false)], args := [] }
  | _ => none }
def FnExactLogTableWrongFalsely : Prop := fnExactLogTableRow.holds Try.pinned (OpenSpec.ofChange fnExactLogTableWrong)

/-- 'laws.FnExactGoodMatrix': WHATEVER THE INPUT: true; the input reads as it did. -/
def fnExactGoodMatrixSpec : ChangeSpec := { name := "fnExactGoodMatrix", fn := fun _ => fun
  | [d] => { results := [.lit (.bool true)], args := [d] }
  | _ => none }
def fnExactGoodMatrixRow : OpenClaim := { program := "ytpfcdmcnajljcaa", sum := "45c2bad24c88dc329e9bf581d39a028f1c7a950288eae6e639558a009630f5b3", func := "loop.example/g00405/laws.FnExactGoodMatrix", spec := "fnExactGoodMatrix", unfollowed := true, recurses := true, apart := false }
def FnExactGoodMatrixSaid : Prop := fnExactGoodMatrixRow.holds Try.pinned (OpenSpec.ofChange fnExactGoodMatrixSpec)

/-- ITS FALSE NEIGHBOUR: 'it returns false'. Refute it at one input. -/
def fnExactGoodMatrixWrong : ChangeSpec := { name := "fnExactGoodMatrix", fn := fun _ => fun
  | [d] => { results := [.lit (.bool false)], args := [d] }
  | _ => none }
def FnExactGoodMatrixWrongFalsely : Prop := fnExactGoodMatrixRow.holds Try.pinned (OpenSpec.ofChange fnExactGoodMatrixWrong)

/-- 'laws.FnExactFrameBytes': WHATEVER THE INPUT: true; the input reads as it did. -/
def fnExactFrameBytesSpec : ChangeSpec := { name := "fnExactFrameBytes", fn := fun _ => fun
  | [d] => { results := [.lit (.bool true)], args := [d] }
  | _ => none }
def fnExactFrameBytesRow : OpenClaim := { program := "ytpfcdmcnajljcaa", sum := "45c2bad24c88dc329e9bf581d39a028f1c7a950288eae6e639558a009630f5b3", func := "loop.example/g00405/laws.FnExactFrameBytes", spec := "fnExactFrameBytes", apart := false }
def FnExactFrameBytesSaid : Prop := fnExactFrameBytesRow.holds Try.pinned (OpenSpec.ofChange fnExactFrameBytesSpec)

/-- ITS FALSE NEIGHBOUR: 'it returns false'. Refute it at one input. -/
def fnExactFrameBytesWrong : ChangeSpec := { name := "fnExactFrameBytes", fn := fun _ => fun
  | [d] => { results := [.lit (.bool false)], args := [d] }
  | _ => none }
def FnExactFrameBytesWrongFalsely : Prop := fnExactFrameBytesRow.holds Try.pinned (OpenSpec.ofChange fnExactFrameBytesWrong)

/-- 'laws.FnExactEvalGf': WHATEVER THE INPUT: true; the input reads as it did. -/
def fnExactEvalGfSpec : ChangeSpec := { name := "fnExactEvalGf", fn := fun _ => fun
  | [d1, d2] => { results := [.lit (.bool true)], args := [d1, d2] }
  | _ => none }
def fnExactEvalGfRow : OpenClaim := { program := "ytpfcdmcnajljcaa", sum := "45c2bad24c88dc329e9bf581d39a028f1c7a950288eae6e639558a009630f5b3", func := "loop.example/g00405/laws.FnExactEvalGf", spec := "fnExactEvalGf", unfollowed := true, recurses := true, apart := false }
def FnExactEvalGfSaid : Prop := fnExactEvalGfRow.holds Try.pinned (OpenSpec.ofChange fnExactEvalGfSpec)

/-- ITS FALSE NEIGHBOUR: 'it returns false'. Refute it at one input. -/
def fnExactEvalGfWrong : ChangeSpec := { name := "fnExactEvalGf", fn := fun _ => fun
  | [d1, d2] => { results := [.lit (.bool false)], args := [d1, d2] }
  | _ => none }
def FnExactEvalGfWrongFalsely : Prop := fnExactEvalGfRow.holds Try.pinned (OpenSpec.ofChange fnExactEvalGfWrong)

/-- 'laws.FnExactReadFrame': WHATEVER THE INPUT: true; the input reads as it did. -/
def fnExactReadFrameSpec : ChangeSpec := { name := "fnExactReadFrame", fn := fun _ => fun
  | [d] => { results := [.lit (.bool true)], args := [d] }
  | _ => none }
def fnExactReadFrameRow : OpenClaim := { program := "ytpfcdmcnajljcaa", sum := "45c2bad24c88dc329e9bf581d39a028f1c7a950288eae6e639558a009630f5b3", func := "loop.example/g00405/laws.FnExactReadFrame", spec := "fnExactReadFrame", apart := false }
def FnExactReadFrameSaid : Prop := fnExactReadFrameRow.holds Try.pinned (OpenSpec.ofChange fnExactReadFrameSpec)

/-- ITS FALSE NEIGHBOUR: 'it returns false'. Refute it at one input. -/
def fnExactReadFrameWrong : ChangeSpec := { name := "fnExactReadFrame", fn := fun _ => fun
  | [d] => { results := [.lit (.bool false)], args := [d] }
  | _ => none }
def FnExactReadFrameWrongFalsely : Prop := fnExactReadFrameRow.holds Try.pinned (OpenSpec.ofChange fnExactReadFrameWrong)

/-- 'laws.FnExactGeneratorOf': WHATEVER THE INPUT: true; the input reads as it did. -/
def fnExactGeneratorOfSpec : ChangeSpec := { name := "fnExactGeneratorOf", fn := fun _ => fun
  | [d] => { results := [.lit (.bool true)], args := [d] }
  | _ => none }
def fnExactGeneratorOfRow : OpenClaim := { program := "ytpfcdmcnajljcaa", sum := "45c2bad24c88dc329e9bf581d39a028f1c7a950288eae6e639558a009630f5b3", func := "loop.example/g00405/laws.FnExactGeneratorOf", spec := "fnExactGeneratorOf", apart := false }
def FnExactGeneratorOfSaid : Prop := fnExactGeneratorOfRow.holds Try.pinned (OpenSpec.ofChange fnExactGeneratorOfSpec)

/-- ITS FALSE NEIGHBOUR: 'it returns false'. Refute it at one input. -/
def fnExactGeneratorOfWrong : ChangeSpec := { name := "fnExactGeneratorOf", fn := fun _ => fun
  | [d] => { results := [.lit (.bool false)], args := [d] }
  | _ => none }
def FnExactGeneratorOfWrongFalsely : Prop := fnExactGeneratorOfRow.holds Try.pinned (OpenSpec.ofChange fnExactGeneratorOfWrong)

/- THE SECOND FORM. 'bulk': how many values and letters a reading holds, each counted each time it is reached (what is shared counts as often as it is met; a slice's spare places count too). A statement '..UptoSaid' is the law's where the arguments, and the package variables that the reading takes, are together of bulk at most 1048576: NARROWER than '..Said'. Prove '..Said' where nothing that the law and all that it calls make is longer than what came in: it says more and counts as full. Else prove '..UptoSaid'. A law counts once. -/
mutual
def uptoBulk {H : Type} : DataW H → Nat
  | .lit (.string bytes) => bytes.length + 1
  | .lit _ => 1
  | .nil => 1
  | .ptr d => uptoBulk d + 1
  | .slice elems spare => uptoBulkAll elems + uptoBulkAll spare + 1
  | .agg parts => uptoBulkAll parts + 1
  | .iface _ d => uptoBulk d + 1
  | .map entries => uptoBulkEntries entries + 1
  | .held _ => 1
def uptoBulkAll {H : Type} : List (DataW H) → Nat
  | [] => 0
  | d :: r => uptoBulk d + uptoBulkAll r
def uptoBulkEntries {H : Type} : List (Lit × DataW H) → Nat
  | [] => 0
  | x :: r => uptoBulkEntry x + uptoBulkEntries r
def uptoBulkEntry {H : Type} : Lit × DataW H → Nat
  | (.string bytes, d) => bytes.length + uptoBulk d + 1
  | (_, d) => uptoBulk d + 1
 end
def uptoSmall : (H : Type) → List (DataW H) → Bool := fun _ ds => decide (uptoBulkAll ds ≤ 1048576)
def OpenSpec.upto (s : _root_.Go.ChangeSpec) : _root_.Go.OpenSpec := { _root_.Go.OpenSpec.ofChange s with cond := some uptoSmall }

/-- 'laws.FnExactWrongPlaces', WHERE WHAT IT READS IS OF BULK AT MOST 1048576: true; the input reads as it did. -/
def fnExactWrongPlacesUptoRow : OpenClaim := { program := "ytpfcdmcnajljcaa", sum := "45c2bad24c88dc329e9bf581d39a028f1c7a950288eae6e639558a009630f5b3", func := "loop.example/g00405/laws.FnExactWrongPlaces", spec := "fnExactWrongPlaces", apart := false, narrowed := true }
def FnExactWrongPlacesUptoSaid : Prop := fnExactWrongPlacesUptoRow.holds Try.pinned (OpenSpec.upto fnExactWrongPlacesSpec)

/-- 'laws.FnExactSplitBody', WHERE WHAT IT READS IS OF BULK AT MOST 1048576: true; the input reads as it did. -/
def fnExactSplitBodyUptoRow : OpenClaim := { program := "ytpfcdmcnajljcaa", sum := "45c2bad24c88dc329e9bf581d39a028f1c7a950288eae6e639558a009630f5b3", func := "loop.example/g00405/laws.FnExactSplitBody", spec := "fnExactSplitBody", apart := false, narrowed := true }
def FnExactSplitBodyUptoSaid : Prop := fnExactSplitBodyUptoRow.holds Try.pinned (OpenSpec.upto fnExactSplitBodySpec)

/-- 'laws.FnExactPowGf', WHERE WHAT IT READS IS OF BULK AT MOST 1048576: true; the input reads as it did. -/
def fnExactPowGfUptoRow : OpenClaim := { program := "ytpfcdmcnajljcaa", sum := "45c2bad24c88dc329e9bf581d39a028f1c7a950288eae6e639558a009630f5b3", func := "loop.example/g00405/laws.FnExactPowGf", spec := "fnExactPowGf", apart := false, narrowed := true }
def FnExactPowGfUptoSaid : Prop := fnExactPowGfUptoRow.holds Try.pinned (OpenSpec.upto fnExactPowGfSpec)

/-- 'laws.FnExactDivGf', WHERE WHAT IT READS IS OF BULK AT MOST 1048576: true; the input reads as it did. -/
def fnExactDivGfUptoRow : OpenClaim := { program := "ytpfcdmcnajljcaa", sum := "45c2bad24c88dc329e9bf581d39a028f1c7a950288eae6e639558a009630f5b3", func := "loop.example/g00405/laws.FnExactDivGf", spec := "fnExactDivGf", apart := false, narrowed := true }
def FnExactDivGfUptoSaid : Prop := fnExactDivGfUptoRow.holds Try.pinned (OpenSpec.upto fnExactDivGfSpec)

/-- 'laws.FnExactExpTable', WHERE WHAT IT READS IS OF BULK AT MOST 1048576: true; the input reads as it did. -/
def fnExactExpTableUptoRow : OpenClaim := { program := "ytpfcdmcnajljcaa", sum := "45c2bad24c88dc329e9bf581d39a028f1c7a950288eae6e639558a009630f5b3", func := "loop.example/g00405/laws.FnExactExpTable", spec := "fnExactExpTable", apart := false, narrowed := true }
def FnExactExpTableUptoSaid : Prop := fnExactExpTableUptoRow.holds Try.pinned (OpenSpec.upto fnExactExpTableSpec)

/-- 'laws.FnExactIdentityOf', WHERE WHAT IT READS IS OF BULK AT MOST 1048576: true; the input reads as it did. -/
def fnExactIdentityOfUptoRow : OpenClaim := { program := "ytpfcdmcnajljcaa", sum := "45c2bad24c88dc329e9bf581d39a028f1c7a950288eae6e639558a009630f5b3", func := "loop.example/g00405/laws.FnExactIdentityOf", spec := "fnExactIdentityOf", apart := false, narrowed := true }
def FnExactIdentityOfUptoSaid : Prop := fnExactIdentityOfUptoRow.holds Try.pinned (OpenSpec.upto fnExactIdentityOfSpec)

/-- 'laws.FnExactLogTable', WHERE WHAT IT READS IS OF BULK AT MOST 1048576: true; the input reads as it did. -/
def fnExactLogTableUptoRow : OpenClaim := { program := "ytpfcdmcnajljcaa", sum := "45c2bad24c88dc329e9bf581d39a028f1c7a950288eae6e639558a009630f5b3", func := "loop.example/g00405/laws.FnExactLogTable", spec := "fnExactLogTable", apart := false, narrowed := true }
def FnExactLogTableUptoSaid : Prop := fnExactLogTableUptoRow.holds Try.pinned (OpenSpec.upto fnExactLogTableSpec)

/-- 'laws.FnExactGoodMatrix', WHERE WHAT IT READS IS OF BULK AT MOST 1048576: true; the input reads as it did. -/
def fnExactGoodMatrixUptoRow : OpenClaim := { program := "ytpfcdmcnajljcaa", sum := "45c2bad24c88dc329e9bf581d39a028f1c7a950288eae6e639558a009630f5b3", func := "loop.example/g00405/laws.FnExactGoodMatrix", spec := "fnExactGoodMatrix", unfollowed := true, recurses := true, apart := false, narrowed := true }
def FnExactGoodMatrixUptoSaid : Prop := fnExactGoodMatrixUptoRow.holds Try.pinned (OpenSpec.upto fnExactGoodMatrixSpec)

/-- 'laws.FnExactFrameBytes', WHERE WHAT IT READS IS OF BULK AT MOST 1048576: true; the input reads as it did. -/
def fnExactFrameBytesUptoRow : OpenClaim := { program := "ytpfcdmcnajljcaa", sum := "45c2bad24c88dc329e9bf581d39a028f1c7a950288eae6e639558a009630f5b3", func := "loop.example/g00405/laws.FnExactFrameBytes", spec := "fnExactFrameBytes", apart := false, narrowed := true }
def FnExactFrameBytesUptoSaid : Prop := fnExactFrameBytesUptoRow.holds Try.pinned (OpenSpec.upto fnExactFrameBytesSpec)

/-- 'laws.FnExactEvalGf', WHERE WHAT IT READS IS OF BULK AT MOST 1048576: true; the input reads as it did. -/
def fnExactEvalGfUptoRow : OpenClaim := { program := "ytpfcdmcnajljcaa", sum := "45c2bad24c88dc329e9bf581d39a028f1c7a950288eae6e639558a009630f5b3", func := "loop.example/g00405/laws.FnExactEvalGf", spec := "fnExactEvalGf", unfollowed := true, recurses := true, apart := false, narrowed := true }
def FnExactEvalGfUptoSaid : Prop := fnExactEvalGfUptoRow.holds Try.pinned (OpenSpec.upto fnExactEvalGfSpec)

/-- 'laws.FnExactReadFrame', WHERE WHAT IT READS IS OF BULK AT MOST 1048576: true; the input reads as it did. -/
def fnExactReadFrameUptoRow : OpenClaim := { program := "ytpfcdmcnajljcaa", sum := "45c2bad24c88dc329e9bf581d39a028f1c7a950288eae6e639558a009630f5b3", func := "loop.example/g00405/laws.FnExactReadFrame", spec := "fnExactReadFrame", apart := false, narrowed := true }
def FnExactReadFrameUptoSaid : Prop := fnExactReadFrameUptoRow.holds Try.pinned (OpenSpec.upto fnExactReadFrameSpec)

/-- 'laws.FnExactGeneratorOf', WHERE WHAT IT READS IS OF BULK AT MOST 1048576: true; the input reads as it did. -/
def fnExactGeneratorOfUptoRow : OpenClaim := { program := "ytpfcdmcnajljcaa", sum := "45c2bad24c88dc329e9bf581d39a028f1c7a950288eae6e639558a009630f5b3", func := "loop.example/g00405/laws.FnExactGeneratorOf", spec := "fnExactGeneratorOf", apart := false, narrowed := true }
def FnExactGeneratorOfUptoSaid : Prop := fnExactGeneratorOfUptoRow.holds Try.pinned (OpenSpec.upto fnExactGeneratorOfSpec)

end Rows
end Go.Proofs.Ytpfcdmcnajljcaa
