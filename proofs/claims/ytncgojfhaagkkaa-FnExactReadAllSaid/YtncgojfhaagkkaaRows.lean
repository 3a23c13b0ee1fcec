/-
  No cell of these rows narrows 'for every input' (looked for: loops, veiled, ifaces, maps, wideKeys, modest, calm, conditions, laid).
  DERIVED. THE GIVEN ROWS OF THIS SEAT. 12 by the template 'for every input the law returns true; each argument reads behind the call as it read before'; 0 by the template 'total and deterministic' (their statements: YtncgojfhaagkkaaTotals.lean).
  GIVEN WITH THE SEED: the statements are not yours to turn. If you find one false, say at which input.
  Laid BY PROGRAM, IN A SANDBOX (cutbox-rows.mjs): the forced cells as the released guide's own fill.sh prints them over the translation 002b8bc36ed130b7… (all of the seat's roots in one cut). By AI agents, Wed Nov 11 2026. No macro, syntax, notation, axiom, sorry.
-/
import Derived.Test.YtncgojfhaagkkaaChecked
import GoSem.Claim
import GoSem.ClaimJoined
import GoSem.ClaimMapViews
import Derived.JoinedTies
import Derived.KernelRfl
namespace Go.Proofs.Ytncgojfhaagkkaa
/- THE CELL 'sum', in the pinned program and in every row, IS THE sha256 OF THE DUMP (.gsa) THAT YtncgojfhaagkkaaProg.lean LOADS. Nothing in Lean hashes anything: it is a label: what it is worth is what the hold of that sum in a sandbox is worth. -/
noncomputable def Try.pinned : Pinned := { name := "ytncgojfhaagkkaa", sum := "002b8bc36ed130b7169daf685621e39d4bc031c94427e2f6b7a55598ff59baba", checked := Try.checked }
namespace Rows
def none {H : Type} : Left H := { results := [], args := [] }

/-- 'laws.FnField': WHATEVER THE INPUT: true; the input reads as it did. -/
def fnFieldSpec : ChangeSpec := { name := "fnField", fn := fun _ => fun
  | [d1, d2] => { results := [.lit (.bool true)], args := [d1, d2] }
  | _ => none }
def fnFieldRow : OpenClaim := { program := "ytncgojfhaagkkaa", sum := "002b8bc36ed130b7169daf685621e39d4bc031c94427e2f6b7a55598ff59baba", func := "loop.example/g00405/laws.FnField", spec := "fnField", apart := false }
def FnFieldSaid : Prop := fnFieldRow.holds Try.pinned (OpenSpec.ofChange fnFieldSpec)

/-- ITS FALSE NEIGHBOUR: 'it returns false'. Refute it at one input. -/
def fnFieldWrong : ChangeSpec := { name := "fnField", fn := fun _ => fun
  | [d1, d2] => { results := [.lit (.bool false)], args := [d1, d2] }
  | _ => none }
def FnFieldWrongFalsely : Prop := fnFieldRow.holds Try.pinned (OpenSpec.ofChange fnFieldWrong)

/-- 'laws.FnExactMulMatrix': WHATEVER THE INPUT: true; the input reads as it did. -/
def fnExactMulMatrixSpec : ChangeSpec := { name := "fnExactMulMatrix", fn := fun _ => fun
  | [d1, d2] => { results := [.lit (.bool true)], args := [d1, d2] }
  | _ => none }
def fnExactMulMatrixRow : OpenClaim := { program := "ytncgojfhaagkkaa", sum := "002b8bc36ed130b7169daf685621e39d4bc031c94427e2f6b7a55598ff59baba", func := "loop.example/g00405/laws.FnExactMulMatrix", spec := "fnExactMulMatrix", unfollowed := true, recurses := true, apart := false }
def FnExactMulMatrixSaid : Prop := fnExactMulMatrixRow.holds Try.pinned (OpenSpec.ofChange fnExactMulMatrixSpec)

/-- ITS FALSE NEIGHBOUR: 'it returns false'. Refute it at one input. -/
def fnExactMulMatrixWrong : ChangeSpec := { name := "fnExactMulMatrix", fn := fun _ => fun
  | [d1, d2] => { results := [.lit (.bool false)], args := [d1, d2] }
  | _ => none }
def FnExactMulMatrixWrongFalsely : Prop := fnExactMulMatrixRow.holds Try.pinned (OpenSpec.ofChange fnExactMulMatrixWrong)

/-- 'laws.FnExactLocatorOf': WHATEVER THE INPUT: true; the input reads as it did. -/
def fnExactLocatorOfSpec : ChangeSpec := { name := "fnExactLocatorOf", fn := fun _ => fun
  | [d] => { results := [.lit (.bool true)], args := [d] }
  | _ => none }
def fnExactLocatorOfRow : OpenClaim := { program := "ytncgojfhaagkkaa", sum := "002b8bc36ed130b7169daf685621e39d4bc031c94427e2f6b7a55598ff59baba", func := "loop.example/g00405/laws.FnExactLocatorOf", spec := "fnExactLocatorOf", unfollowed := true, recurses := true, apart := false }
def FnExactLocatorOfSaid : Prop := fnExactLocatorOfRow.holds Try.pinned (OpenSpec.ofChange fnExactLocatorOfSpec)

/-- ITS FALSE NEIGHBOUR: 'it returns false'. Refute it at one input. -/
def fnExactLocatorOfWrong : ChangeSpec := { name := "fnExactLocatorOf", fn := fun _ => fun
  | [d] => { results := [.lit (.bool false)], args := [d] }
  | _ => none }
def FnExactLocatorOfWrongFalsely : Prop := fnExactLocatorOfRow.holds Try.pinned (OpenSpec.ofChange fnExactLocatorOfWrong)

/-- 'laws.FnExactEncodeWord': WHATEVER THE INPUT: true; the input reads as it did. -/
def fnExactEncodeWordSpec : ChangeSpec := { name := "fnExactEncodeWord", fn := fun _ => fun
  | [d1, d2] => { results := [.lit (.bool true)], args := [d1, d2] }
  | _ => none }
def fnExactEncodeWordRow : OpenClaim := { program := "ytncgojfhaagkkaa", sum := "002b8bc36ed130b7169daf685621e39d4bc031c94427e2f6b7a55598ff59baba", func := "loop.example/g00405/laws.FnExactEncodeWord", spec := "fnExactEncodeWord", unfollowed := true, recurses := true, apart := false }
def FnExactEncodeWordSaid : Prop := fnExactEncodeWordRow.holds Try.pinned (OpenSpec.ofChange fnExactEncodeWordSpec)

/-- ITS FALSE NEIGHBOUR: 'it returns false'. Refute it at one input. -/
def fnExactEncodeWordWrong : ChangeSpec := { name := "fnExactEncodeWord", fn := fun _ => fun
  | [d1, d2] => { results := [.lit (.bool false)], args := [d1, d2] }
  | _ => none }
def FnExactEncodeWordWrongFalsely : Prop := fnExactEncodeWordRow.holds Try.pinned (OpenSpec.ofChange fnExactEncodeWordWrong)

/-- 'laws.FnExactRankOf': WHATEVER THE INPUT: true; the input reads as it did. -/
def fnExactRankOfSpec : ChangeSpec := { name := "fnExactRankOf", fn := fun _ => fun
  | [d] => { results := [.lit (.bool true)], args := [d] }
  | _ => none }
def fnExactRankOfRow : OpenClaim := { program := "ytncgojfhaagkkaa", sum := "002b8bc36ed130b7169daf685621e39d4bc031c94427e2f6b7a55598ff59baba", func := "loop.example/g00405/laws.FnExactRankOf", spec := "fnExactRankOf", unfollowed := true, recurses := true, apart := false }
def FnExactRankOfSaid : Prop := fnExactRankOfRow.holds Try.pinned (OpenSpec.ofChange fnExactRankOfSpec)

/-- ITS FALSE NEIGHBOUR: 'it returns false'. Refute it at one input. -/
def fnExactRankOfWrong : ChangeSpec := { name := "fnExactRankOf", fn := fun _ => fun
  | [d] => { results := [.lit (.bool false)], args := [d] }
  | _ => none }
def FnExactRankOfWrongFalsely : Prop := fnExactRankOfRow.holds Try.pinned (OpenSpec.ofChange fnExactRankOfWrong)

/-- 'laws.FnFrames': WHATEVER THE INPUT: true; the input reads as it did. -/
def fnFramesSpec : ChangeSpec := { name := "fnFrames", fn := fun _ => fun
  | [d1, d2] => { results := [.lit (.bool true)], args := [d1, d2] }
  | _ => none }
def fnFramesRow : OpenClaim := { program := "ytncgojfhaagkkaa", sum := "002b8bc36ed130b7169daf685621e39d4bc031c94427e2f6b7a55598ff59baba", func := "loop.example/g00405/laws.FnFrames", spec := "fnFrames", apart := false }
def FnFramesSaid : Prop := fnFramesRow.holds Try.pinned (OpenSpec.ofChange fnFramesSpec)

/-- ITS FALSE NEIGHBOUR: 'it returns false'. Refute it at one input. -/
def fnFramesWrong : ChangeSpec := { name := "fnFrames", fn := fun _ => fun
  | [d1, d2] => { results := [.lit (.bool false)], args := [d1, d2] }
  | _ => none }
def FnFramesWrongFalsely : Prop := fnFramesRow.holds Try.pinned (OpenSpec.ofChange fnFramesWrong)

/-- 'laws.FnExactEncodePieces': WHATEVER THE INPUT: true; the input reads as it did. -/
def fnExactEncodePiecesSpec : ChangeSpec := { name := "fnExactEncodePieces", fn := fun _ => fun
  | [d1, d2] => { results := [.lit (.bool true)], args := [d1, d2] }
  | _ => none }
def fnExactEncodePiecesRow : OpenClaim := { program := "ytncgojfhaagkkaa", sum := "002b8bc36ed130b7169daf685621e39d4bc031c94427e2f6b7a55598ff59baba", func := "loop.example/g00405/laws.FnExactEncodePieces", spec := "fnExactEncodePieces", unfollowed := true, recurses := true, apart := false }
def FnExactEncodePiecesSaid : Prop := fnExactEncodePiecesRow.holds Try.pinned (OpenSpec.ofChange fnExactEncodePiecesSpec)

/-- ITS FALSE NEIGHBOUR: 'it returns false'. Refute it at one input. -/
def fnExactEncodePiecesWrong : ChangeSpec := { name := "fnExactEncodePieces", fn := fun _ => fun
  | [d1, d2] => { results := [.lit (.bool false)], args := [d1, d2] }
  | _ => none }
def FnExactEncodePiecesWrongFalsely : Prop := fnExactEncodePiecesRow.holds Try.pinned (OpenSpec.ofChange fnExactEncodePiecesWrong)

/-- 'laws.FnExactUpdatePiece': WHATEVER THE INPUT: true; the input reads as it did. -/
def fnExactUpdatePieceSpec : ChangeSpec := { name := "fnExactUpdatePiece", fn := fun _ => fun
  | [d1, d2, d3, d4, d5] => { results := [.lit (.bool true)], args := [d1, d2, d3, d4, d5] }
  | _ => none }
def fnExactUpdatePieceRow : OpenClaim := { program := "ytncgojfhaagkkaa", sum := "002b8bc36ed130b7169daf685621e39d4bc031c94427e2f6b7a55598ff59baba", func := "loop.example/g00405/laws.FnExactUpdatePiece", spec := "fnExactUpdatePiece", unfollowed := true, recurses := true, apart := false }
def FnExactUpdatePieceSaid : Prop := fnExactUpdatePieceRow.holds Try.pinned (OpenSpec.ofChange fnExactUpdatePieceSpec)

/-- ITS FALSE NEIGHBOUR: 'it returns false'. Refute it at one input. -/
def fnExactUpdatePieceWrong : ChangeSpec := { name := "fnExactUpdatePiece", fn := fun _ => fun
  | [d1, d2, d3, d4, d5] => { results := [.lit (.bool false)], args := [d1, d2, d3, d4, d5] }
  | _ => none }
def FnExactUpdatePieceWrongFalsely : Prop := fnExactUpdatePieceRow.holds Try.pinned (OpenSpec.ofChange fnExactUpdatePieceWrong)

/-- 'laws.FnPolys': WHATEVER THE INPUT: true; the input reads as it did. -/
def fnPolysSpec : ChangeSpec := { name := "fnPolys", fn := fun _ => fun
  | [d1, d2] => { results := [.lit (.bool true)], args := [d1, d2] }
  | _ => none }
def fnPolysRow : OpenClaim := { program := "ytncgojfhaagkkaa", sum := "002b8bc36ed130b7169daf685621e39d4bc031c94427e2f6b7a55598ff59baba", func := "loop.example/g00405/laws.FnPolys", spec := "fnPolys", unfollowed := true, recurses := true, apart := false }
def FnPolysSaid : Prop := fnPolysRow.holds Try.pinned (OpenSpec.ofChange fnPolysSpec)

/-- ITS FALSE NEIGHBOUR: 'it returns false'. Refute it at one input. -/
def fnPolysWrong : ChangeSpec := { name := "fnPolys", fn := fun _ => fun
  | [d1, d2] => { results := [.lit (.bool false)], args := [d1, d2] }
  | _ => none }
def FnPolysWrongFalsely : Prop := fnPolysRow.holds Try.pinned (OpenSpec.ofChange fnPolysWrong)

/-- 'laws.FnExactCheckPieces': WHATEVER THE INPUT: true; the input reads as it did. -/
def fnExactCheckPiecesSpec : ChangeSpec := { name := "fnExactCheckPieces", fn := fun _ => fun
  | [d1, d2, d3] => { results := [.lit (.bool true)], args := [d1, d2, d3] }
  | _ => none }
def fnExactCheckPiecesRow : OpenClaim := { program := "ytncgojfhaagkkaa", sum := "002b8bc36ed130b7169daf685621e39d4bc031c94427e2f6b7a55598ff59baba", func := "loop.example/g00405/laws.FnExactCheckPieces", spec := "fnExactCheckPieces", unfollowed := true, recurses := true, apart := false }
def FnExactCheckPiecesSaid : Prop := fnExactCheckPiecesRow.holds Try.pinned (OpenSpec.ofChange fnExactCheckPiecesSpec)

/-- ITS FALSE NEIGHBOUR: 'it returns false'. Refute it at one input. -/
def fnExactCheckPiecesWrong : ChangeSpec := { name := "fnExactCheckPieces", fn := fun _ => fun
  | [d1, d2, d3] => { results := [.lit (.bool false)], args := [d1, d2, d3] }
  | _ => none }
def FnExactCheckPiecesWrongFalsely : Prop := fnExactCheckPiecesRow.holds Try.pinned (OpenSpec.ofChange fnExactCheckPiecesWrong)

/-- 'laws.FnExactInvertMatrix': WHATEVER THE INPUT: true; the input reads as it did. -/
def fnExactInvertMatrixSpec : ChangeSpec := { name := "fnExactInvertMatrix", fn := fun _ => fun
  | [d] => { results := [.lit (.bool true)], args := [d] }
  | _ => none }
def fnExactInvertMatrixRow : OpenClaim := { program := "ytncgojfhaagkkaa", sum := "002b8bc36ed130b7169daf685621e39d4bc031c94427e2f6b7a55598ff59baba", func := "loop.example/g00405/laws.FnExactInvertMatrix", spec := "fnExactInvertMatrix", unfollowed := true, recurses := true, apart := false }
def FnExactInvertMatrixSaid : Prop := fnExactInvertMatrixRow.holds Try.pinned (OpenSpec.ofChange fnExactInvertMatrixSpec)

/-- ITS FALSE NEIGHBOUR: 'it returns false'. Refute it at one input. -/
def fnExactInvertMatrixWrong : ChangeSpec := { name := "fnExactInvertMatrix", fn := fun _ => fun
  | [d] => { results := [.lit (.bool false)], args := [d] }
  | _ => none }
def FnExactInvertMatrixWrongFalsely : Prop := fnExactInvertMatrixRow.holds Try.pinned (OpenSpec.ofChange fnExactInvertMatrixWrong)

/-- 'laws.FnExactReadAll': WHATEVER THE INPUT: true; the input reads as it did. -/
def fnExactReadAllSpec : ChangeSpec := { name := "fnExactReadAll", fn := fun _ => fun
  | [d1, d2, d3, d4] => { results := [.lit (.bool true)], args := [d1, d2, d3, d4] }
  | _ => none }
def fnExactReadAllRow : OpenClaim := { program := "ytncgojfhaagkkaa", sum := "002b8bc36ed130b7169daf685621e39d4bc031c94427e2f6b7a55598ff59baba", func := "loop.example/g00405/laws.FnExactReadAll", spec := "fnExactReadAll", inPlace := ["internal/abi.NoEscape", "internal/bytealg.MakeNoZero"], apart := false }
def FnExactReadAllSaid : Prop := fnExactReadAllRow.holds Try.pinned (OpenSpec.ofChange fnExactReadAllSpec)

/-- ITS FALSE NEIGHBOUR: 'it returns false'. Refute it at one input. -/
def fnExactReadAllWrong : ChangeSpec := { name := "fnExactReadAll", fn := fun _ => fun
  | [d1, d2, d3, d4] => { results := [.lit (.bool false)], args := [d1, d2, d3, d4] }
  | _ => none }
def FnExactReadAllWrongFalsely : Prop := fnExactReadAllRow.holds Try.pinned (OpenSpec.ofChange fnExactReadAllWrong)

/- THE SECOND FORM. 'bulk': how many values and letters a reading holds, each counted each time it is reached (what is shared counts as often as it is met; a slice's spare places count too). A statement '..UptoSaid' is the law's where the arguments, and the package variables that the reading takes, are together of bulk at most 1048576: NARROWER than '..Said'. Prove '..Said' where nothing that the law and all that it calls make is longer than what came in: it says more and counts as full. Else prove '..UptoSaid'. A law counts once. -/
mutual
def uptoBulk {H : Type} : DataW H → Nat
  | .lit (.string bytes) => bytes.length + 1
  | .lit _ => 1
  | .nil => 1
  | .ptr d => uptoBulk d + 1
  | .slice elems spare => uptoBulkAll elems + uptoBulkAll spare + 1
  | .agg parts => uptoBulkAll parts + 1
  | .iface _ d => uptoBulk d + 1
  | .map entries => uptoBulkEntries entries + 1
  | .held _ => 1
def uptoBulkAll {H : Type} : List (DataW H) → Nat
  | [] => 0
  | d :: r => uptoBulk d + uptoBulkAll r
def uptoBulkEntries {H : Type} : List (Lit × DataW H) → Nat
  | [] => 0
  | x :: r => uptoBulkEntry x + uptoBulkEntries r
def uptoBulkEntry {H : Type} : Lit × DataW H → Nat
  | (.string bytes, d) => bytes.length + uptoBulk d + 1
  | (_, d) => uptoBulk d + 1
 end
def uptoSmall : (H : Type) → List (DataW H) → Bool := fun _ ds => decide (uptoBulkAll ds ≤ 1048576)
def OpenSpec.upto (s : _root_.Go.ChangeSpec) : _root_.Go.OpenSpec := { _root_.Go.OpenSpec.ofChange s with cond := some uptoSmall }

/-- 'laws.FnField', WHERE WHAT IT READS IS OF BULK AT MOST 1048576: true; the input reads as it did. -/
def fnFieldUptoRow : OpenClaim := { program := "ytncgojfhaagkkaa", sum := "002b8bc36ed130b7169daf685621e39d4bc031c94427e2f6b7a55598ff59baba", func := "loop.example/g00405/laws.FnField", spec := "fnField", apart := false, narrowed := true }
def FnFieldUptoSaid : Prop := fnFieldUptoRow.holds Try.pinned (OpenSpec.upto fnFieldSpec)

/-- 'laws.FnExactMulMatrix', WHERE WHAT IT READS IS OF BULK AT MOST 1048576: true; the input reads as it did. -/
def fnExactMulMatrixUptoRow : OpenClaim := { program := "ytncgojfhaagkkaa", sum := "002b8bc36ed130b7169daf685621e39d4bc031c94427e2f6b7a55598ff59baba", func := "loop.example/g00405/laws.FnExactMulMatrix", spec := "fnExactMulMatrix", unfollowed := true, recurses := true, apart := false, narrowed := true }
def FnExactMulMatrixUptoSaid : Prop := fnExactMulMatrixUptoRow.holds Try.pinned (OpenSpec.upto fnExactMulMatrixSpec)

/-- 'laws.FnExactLocatorOf', WHERE WHAT IT READS IS OF BULK AT MOST 1048576: true; the input reads as it did. -/
def fnExactLocatorOfUptoRow : OpenClaim := { program := "ytncgojfhaagkkaa", sum := "002b8bc36ed130b7169daf685621e39d4bc031c94427e2f6b7a55598ff59baba", func := "loop.example/g00405/laws.FnExactLocatorOf", spec := "fnExactLocatorOf", unfollowed := true, recurses := true, apart := false, narrowed := true }
def FnExactLocatorOfUptoSaid : Prop := fnExactLocatorOfUptoRow.holds Try.pinned (OpenSpec.upto fnExactLocatorOfSpec)

/-- 'laws.FnExactEncodeWord', WHERE WHAT IT READS IS OF BULK AT MOST 1048576: true; the input reads as it did. -/
def fnExactEncodeWordUptoRow : OpenClaim := { program := "ytncgojfhaagkkaa", sum := "002b8bc36ed130b7169daf685621e39d4bc031c94427e2f6b7a55598ff59baba", func := "loop.example/g00405/laws.FnExactEncodeWord", spec := "fnExactEncodeWord", unfollowed := true, recurses := true, apart := false, narrowed := true }
def FnExactEncodeWordUptoSaid : Prop := fnExactEncodeWordUptoRow.holds Try.pinned (OpenSpec.upto fnExactEncodeWordSpec)

/-- 'laws.FnExactRankOf', WHERE WHAT IT READS IS OF BULK AT MOST 1048576: true; the input reads as it did. -/
def fnExactRankOfUptoRow : OpenClaim := { program := "ytncgojfhaagkkaa", sum := "002b8bc36ed130b7169daf685621e39d4bc031c94427e2f6b7a55598ff59baba", func := "loop.example/g00405/laws.FnExactRankOf", spec := "fnExactRankOf", unfollowed := true, recurses := true, apart := false, narrowed := true }
def FnExactRankOfUptoSaid : Prop := fnExactRankOfUptoRow.holds Try.pinned (OpenSpec.upto fnExactRankOfSpec)

/-- 'laws.FnFrames', WHERE WHAT IT READS IS OF BULK AT MOST 1048576: true; the input reads as it did. -/
def fnFramesUptoRow : OpenClaim := { program := "ytncgojfhaagkkaa", sum := "002b8bc36ed130b7169daf685621e39d4bc031c94427e2f6b7a55598ff59baba", func := "loop.example/g00405/laws.FnFrames", spec := "fnFrames", apart := false, narrowed := true }
def FnFramesUptoSaid : Prop := fnFramesUptoRow.holds Try.pinned (OpenSpec.upto fnFramesSpec)

/-- 'laws.FnExactEncodePieces', WHERE WHAT IT READS IS OF BULK AT MOST 1048576: true; the input reads as it did. -/
def fnExactEncodePiecesUptoRow : OpenClaim := { program := "ytncgojfhaagkkaa", sum := "002b8bc36ed130b7169daf685621e39d4bc031c94427e2f6b7a55598ff59baba", func := "loop.example/g00405/laws.FnExactEncodePieces", spec := "fnExactEncodePieces", unfollowed := true, recurses := true, apart := false, narrowed := true }
def FnExactEncodePiecesUptoSaid : Prop := fnExactEncodePiecesUptoRow.holds Try.pinned (OpenSpec.upto fnExactEncodePiecesSpec)

/-- 'laws.FnExactUpdatePiece', WHERE WHAT IT READS IS OF BULK AT MOST 1048576: true; the input reads as it did. -/
def fnExactUpdatePieceUptoRow : OpenClaim := { program := "ytncgojfhaagkkaa", sum := "002b8bc36ed130b7169daf685621e39d4bc031c94427e2f6b7a55598ff59baba", func := "loop.example/g00405/laws.FnExactUpdatePiece", spec := "fnExactUpdatePiece", unfollowed := true, recurses := true, apart := false, narrowed := true }
def FnExactUpdatePieceUptoSaid : Prop := fnExactUpdatePieceUptoRow.holds Try.pinned (OpenSpec.upto fnExactUpdatePieceSpec)

/-- 'laws.FnPolys', WHERE WHAT IT READS IS OF BULK AT MOST 1048576: true; the input reads as it did. -/
def fnPolysUptoRow : OpenClaim := { program := "ytncgojfhaagkkaa", sum := "002b8bc36ed130b7169daf685621e39d4bc031c94427e2f6b7a55598ff59baba", func := "loop.example/g00405/laws.FnPolys", spec := "fnPolys", unfollowed := true, recurses := true, apart := false, narrowed := true }
def FnPolysUptoSaid : Prop := fnPolysUptoRow.holds Try.pinned (OpenSpec.upto fnPolysSpec)

/-- 'laws.FnExactCheckPieces', WHERE WHAT IT READS IS OF BULK AT MOST 1048576: true; the input reads as it did. -/
def fnExactCheckPiecesUptoRow : OpenClaim := { program := "ytncgojfhaagkkaa", sum := "002b8bc36ed130b7169daf685621e39d4bc031c94427e2f6b7a55598ff59baba", func := "loop.example/g00405/laws.FnExactCheckPieces", spec := "fnExactCheckPieces", unfollowed := true, recurses := true, apart := false, narrowed := true }
def FnExactCheckPiecesUptoSaid : Prop := fnExactCheckPiecesUptoRow.holds Try.pinned (OpenSpec.upto fnExactCheckPiecesSpec)

/-- 'laws.FnExactInvertMatrix', WHERE WHAT IT READS IS OF BULK AT MOST 1048576: true; the input reads as it did. -/
def fnExactInvertMatrixUptoRow : OpenClaim := { program := "ytncgojfhaagkkaa", sum := "002b8bc36ed130b7169daf685621e39d4bc031c94427e2f6b7a55598ff59baba", func := "loop.example/g00405/laws.FnExactInvertMatrix", spec := "fnExactInvertMatrix", unfollowed := true, recurses := true, apart := false, narrowed := true }
def FnExactInvertMatrixUptoSaid : Prop := fnExactInvertMatrixUptoRow.holds Try.pinned (OpenSpec.upto fnExactInvertMatrixSpec)

/-- 'laws.FnExactReadAll', WHERE WHAT IT READS IS OF BULK AT MOST 1048576: true; the input reads as it did. -/
def fnExactReadAllUptoRow : OpenClaim := { program := "ytncgojfhaagkkaa", sum := "002b8bc36ed130b7169daf685621e39d4bc031c94427e2f6b7a55598ff59baba", func := "loop.example/g00405/laws.FnExactReadAll", spec := "fnExactReadAll", inPlace := ["internal/abi.NoEscape", "internal/bytealg.MakeNoZero"], apart := false, narrowed := true }
def FnExactReadAllUptoSaid : Prop := fnExactReadAllUptoRow.holds Try.pinned (OpenSpec.upto fnExactReadAllSpec)

end Rows
end Go.Proofs.Ytncgojfhaagkkaa
