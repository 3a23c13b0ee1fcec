/-
  No cell of these rows narrows 'for every input' (looked for: loops, veiled, ifaces, maps, wideKeys, modest, calm, conditions, laid).
  DERIVED. THE GIVEN ROWS OF THIS SEAT. 8 by the template 'for every input the law returns true; each argument reads behind the call as it read before'; 0 by the template 'total and deterministic' (their statements: YtldlldfoaicjcaaTotals.lean).
  GIVEN WITH THE SEED: the statements are not yours to turn. If you find one false, say at which input.
  Laid BY PROGRAM, IN A SANDBOX (cutbox-rows.mjs): the forced cells as the released guide's own fill.sh prints them over the translation f7d63da558838705… (all of the seat's roots in one cut). By AI agents, Wed Nov 11 2026. No macro, syntax, notation, axiom, sorry.
-/
import Derived.Test.YtldlldfoaicjcaaChecked
import GoSem.Claim
import GoSem.ClaimJoined
import GoSem.ClaimMapViews
import Derived.JoinedTies
import Derived.KernelRfl
namespace Go.Proofs.Ytldlldfoaicjcaa
/- THE CELL 'sum', in the pinned program and in every row, IS THE sha256 OF THE DUMP (.gsa) THAT YtldlldfoaicjcaaProg.lean LOADS. Nothing in Lean hashes anything: it is a label: what it is worth is what the hold of that sum in a sandbox is worth. -/
noncomputable def Try.pinned : Pinned := { name := "ytldlldfoaicjcaa", sum := "f7d63da558838705152b49c8bbeac12460125bca389da8391ed41ede4d7cf3af", checked := Try.checked }
namespace Rows
def none {H : Type} : Left H := { results := [], args := [] }

/-- 'laws.FnExactSolveBy': WHATEVER THE INPUT: true; the input reads as it did. -/
def fnExactSolveBySpec : ChangeSpec := { name := "fnExactSolveBy", fn := fun _ => fun
  | [d1, d2] => { results := [.lit (.bool true)], args := [d1, d2] }
  | _ => none }
def fnExactSolveByRow : OpenClaim := { program := "ytldlldfoaicjcaa", sum := "f7d63da558838705152b49c8bbeac12460125bca389da8391ed41ede4d7cf3af", func := "loop.example/g00405/laws.FnExactSolveBy", spec := "fnExactSolveBy", unfollowed := true, recurses := true, apart := false }
def FnExactSolveBySaid : Prop := fnExactSolveByRow.holds Try.pinned (OpenSpec.ofChange fnExactSolveBySpec)

/-- ITS FALSE NEIGHBOUR: 'it returns false'. Refute it at one input. -/
def fnExactSolveByWrong : ChangeSpec := { name := "fnExactSolveBy", fn := fun _ => fun
  | [d1, d2] => { results := [.lit (.bool false)], args := [d1, d2] }
  | _ => none }
def FnExactSolveByWrongFalsely : Prop := fnExactSolveByRow.holds Try.pinned (OpenSpec.ofChange fnExactSolveByWrong)

/-- 'laws.FnMatrix': WHATEVER THE INPUT: true; the input reads as it did. -/
def fnMatrixSpec : ChangeSpec := { name := "fnMatrix", fn := fun _ => fun
  | [d1, d2] => { results := [.lit (.bool true)], args := [d1, d2] }
  | _ => none }
def fnMatrixRow : OpenClaim := { program := "ytldlldfoaicjcaa", sum := "f7d63da558838705152b49c8bbeac12460125bca389da8391ed41ede4d7cf3af", func := "loop.example/g00405/laws.FnMatrix", spec := "fnMatrix", unfollowed := true, recurses := true, apart := false }
def FnMatrixSaid : Prop := fnMatrixRow.holds Try.pinned (OpenSpec.ofChange fnMatrixSpec)

/-- ITS FALSE NEIGHBOUR: 'it returns false'. Refute it at one input. -/
def fnMatrixWrong : ChangeSpec := { name := "fnMatrix", fn := fun _ => fun
  | [d1, d2] => { results := [.lit (.bool false)], args := [d1, d2] }
  | _ => none }
def FnMatrixWrongFalsely : Prop := fnMatrixRow.holds Try.pinned (OpenSpec.ofChange fnMatrixWrong)

/-- 'laws.FnBodies': WHATEVER THE INPUT: true; the input reads as it did. -/
def fnBodiesSpec : ChangeSpec := { name := "fnBodies", fn := fun _ => fun
  | [d1, d2] => { results := [.lit (.bool true)], args := [d1, d2] }
  | _ => none }
def fnBodiesRow : OpenClaim := { program := "ytldlldfoaicjcaa", sum := "f7d63da558838705152b49c8bbeac12460125bca389da8391ed41ede4d7cf3af", func := "loop.example/g00405/laws.FnBodies", spec := "fnBodies", inPlace := ["internal/abi.NoEscape", "internal/bytealg.MakeNoZero"], apart := false }
def FnBodiesSaid : Prop := fnBodiesRow.holds Try.pinned (OpenSpec.ofChange fnBodiesSpec)

/-- ITS FALSE NEIGHBOUR: 'it returns false'. Refute it at one input. -/
def fnBodiesWrong : ChangeSpec := { name := "fnBodies", fn := fun _ => fun
  | [d1, d2] => { results := [.lit (.bool false)], args := [d1, d2] }
  | _ => none }
def FnBodiesWrongFalsely : Prop := fnBodiesRow.holds Try.pinned (OpenSpec.ofChange fnBodiesWrong)

/-- 'laws.FnExactDecodePieces': WHATEVER THE INPUT: true; the input reads as it did. -/
def fnExactDecodePiecesSpec : ChangeSpec := { name := "fnExactDecodePieces", fn := fun _ => fun
  | [d1, d2, d3, d4] => { results := [.lit (.bool true)], args := [d1, d2, d3, d4] }
  | _ => none }
def fnExactDecodePiecesRow : OpenClaim := { program := "ytldlldfoaicjcaa", sum := "f7d63da558838705152b49c8bbeac12460125bca389da8391ed41ede4d7cf3af", func := "loop.example/g00405/laws.FnExactDecodePieces", spec := "fnExactDecodePieces", unfollowed := true, recurses := true, apart := false }
def FnExactDecodePiecesSaid : Prop := fnExactDecodePiecesRow.holds Try.pinned (OpenSpec.ofChange fnExactDecodePiecesSpec)

/-- ITS FALSE NEIGHBOUR: 'it returns false'. Refute it at one input. -/
def fnExactDecodePiecesWrong : ChangeSpec := { name := "fnExactDecodePieces", fn := fun _ => fun
  | [d1, d2, d3, d4] => { results := [.lit (.bool false)], args := [d1, d2, d3, d4] }
  | _ => none }
def FnExactDecodePiecesWrongFalsely : Prop := fnExactDecodePiecesRow.holds Try.pinned (OpenSpec.ofChange fnExactDecodePiecesWrong)

/-- 'laws.FnPieces': WHATEVER THE INPUT: true; the input reads as it did. -/
def fnPiecesSpec : ChangeSpec := { name := "fnPieces", fn := fun _ => fun
  | [d1, d2] => { results := [.lit (.bool true)], args := [d1, d2] }
  | _ => none }
def fnPiecesRow : OpenClaim := { program := "ytldlldfoaicjcaa", sum := "f7d63da558838705152b49c8bbeac12460125bca389da8391ed41ede4d7cf3af", func := "loop.example/g00405/laws.FnPieces", spec := "fnPieces", unfollowed := true, recurses := true, apart := false }
def FnPiecesSaid : Prop := fnPiecesRow.holds Try.pinned (OpenSpec.ofChange fnPiecesSpec)

/-- ITS FALSE NEIGHBOUR: 'it returns false'. Refute it at one input. -/
def fnPiecesWrong : ChangeSpec := { name := "fnPieces", fn := fun _ => fun
  | [d1, d2] => { results := [.lit (.bool false)], args := [d1, d2] }
  | _ => none }
def FnPiecesWrongFalsely : Prop := fnPiecesRow.holds Try.pinned (OpenSpec.ofChange fnPiecesWrong)

/-- 'laws.FnLocators': WHATEVER THE INPUT: true; the input reads as it did. -/
def fnLocatorsSpec : ChangeSpec := { name := "fnLocators", fn := fun _ => fun
  | [d1, d2] => { results := [.lit (.bool true)], args := [d1, d2] }
  | _ => none }
def fnLocatorsRow : OpenClaim := { program := "ytldlldfoaicjcaa", sum := "f7d63da558838705152b49c8bbeac12460125bca389da8391ed41ede4d7cf3af", func := "loop.example/g00405/laws.FnLocators", spec := "fnLocators", unfollowed := true, recurses := true, apart := false }
def FnLocatorsSaid : Prop := fnLocatorsRow.holds Try.pinned (OpenSpec.ofChange fnLocatorsSpec)

/-- ITS FALSE NEIGHBOUR: 'it returns false'. Refute it at one input. -/
def fnLocatorsWrong : ChangeSpec := { name := "fnLocators", fn := fun _ => fun
  | [d1, d2] => { results := [.lit (.bool false)], args := [d1, d2] }
  | _ => none }
def FnLocatorsWrongFalsely : Prop := fnLocatorsRow.holds Try.pinned (OpenSpec.ofChange fnLocatorsWrong)

/-- 'laws.FnExactDecodeWord': WHATEVER THE INPUT: true; the input reads as it did. -/
def fnExactDecodeWordSpec : ChangeSpec := { name := "fnExactDecodeWord", fn := fun _ => fun
  | [d1, d2] => { results := [.lit (.bool true)], args := [d1, d2] }
  | _ => none }
def fnExactDecodeWordRow : OpenClaim := { program := "ytldlldfoaicjcaa", sum := "f7d63da558838705152b49c8bbeac12460125bca389da8391ed41ede4d7cf3af", func := "loop.example/g00405/laws.FnExactDecodeWord", spec := "fnExactDecodeWord", unfollowed := true, recurses := true, apart := false }
def FnExactDecodeWordSaid : Prop := fnExactDecodeWordRow.holds Try.pinned (OpenSpec.ofChange fnExactDecodeWordSpec)

/-- ITS FALSE NEIGHBOUR: 'it returns false'. Refute it at one input. -/
def fnExactDecodeWordWrong : ChangeSpec := { name := "fnExactDecodeWord", fn := fun _ => fun
  | [d1, d2] => { results := [.lit (.bool false)], args := [d1, d2] }
  | _ => none }
def FnExactDecodeWordWrongFalsely : Prop := fnExactDecodeWordRow.holds Try.pinned (OpenSpec.ofChange fnExactDecodeWordWrong)

/-- 'laws.FnWords': WHATEVER THE INPUT: true; the input reads as it did. -/
def fnWordsSpec : ChangeSpec := { name := "fnWords", fn := fun _ => fun
  | [d1, d2] => { results := [.lit (.bool true)], args := [d1, d2] }
  | _ => none }
def fnWordsRow : OpenClaim := { program := "ytldlldfoaicjcaa", sum := "f7d63da558838705152b49c8bbeac12460125bca389da8391ed41ede4d7cf3af", func := "loop.example/g00405/laws.FnWords", spec := "fnWords", unfollowed := true, recurses := true, apart := false }
def FnWordsSaid : Prop := fnWordsRow.holds Try.pinned (OpenSpec.ofChange fnWordsSpec)

/-- ITS FALSE NEIGHBOUR: 'it returns false'. Refute it at one input. -/
def fnWordsWrong : ChangeSpec := { name := "fnWords", fn := fun _ => fun
  | [d1, d2] => { results := [.lit (.bool false)], args := [d1, d2] }
  | _ => none }
def FnWordsWrongFalsely : Prop := fnWordsRow.holds Try.pinned (OpenSpec.ofChange fnWordsWrong)

/- THE SECOND FORM. 'bulk': how many values and letters a reading holds, each counted each time it is reached (what is shared counts as often as it is met; a slice's spare places count too). A statement '..UptoSaid' is the law's where the arguments, and the package variables that the reading takes, are together of bulk at most 1048576: NARROWER than '..Said'. Prove '..Said' where nothing that the law and all that it calls make is longer than what came in: it says more and counts as full. Else prove '..UptoSaid'. A law counts once. -/
mutual
def uptoBulk {H : Type} : DataW H → Nat
  | .lit (.string bytes) => bytes.length + 1
  | .lit _ => 1
  | .nil => 1
  | .ptr d => uptoBulk d + 1
  | .slice elems spare => uptoBulkAll elems + uptoBulkAll spare + 1
  | .agg parts => uptoBulkAll parts + 1
  | .iface _ d => uptoBulk d + 1
  | .map entries => uptoBulkEntries entries + 1
  | .held _ => 1
def uptoBulkAll {H : Type} : List (DataW H) → Nat
  | [] => 0
  | d :: r => uptoBulk d + uptoBulkAll r
def uptoBulkEntries {H : Type} : List (Lit × DataW H) → Nat
  | [] => 0
  | x :: r => uptoBulkEntry x + uptoBulkEntries r
def uptoBulkEntry {H : Type} : Lit × DataW H → Nat
  | (.string bytes, d) => bytes.length + uptoBulk d + 1
  | (_, d) => uptoBulk d + 1
 end
def uptoSmall : (H : Type) → List (DataW H) → Bool := fun _ ds => decide (uptoBulkAll ds ≤ 1048576)
def OpenSpec.upto (s : _root_.Go.ChangeSpec) : _root_.Go.OpenSpec := { _root_.Go.OpenSpec.ofChange s with cond := some uptoSmall }

/-- 'laws.FnExactSolveBy', WHERE WHAT IT READS IS OF BULK AT MOST 1048576: true; the input reads as it did. -/
def fnExactSolveByUptoRow : OpenClaim := { program := "ytldlldfoaicjcaa", sum := "f7d63da558838705152b49c8bbeac12460125bca389da8391ed41ede4d7cf3af", func := "loop.example/g00405/laws.FnExactSolveBy", spec := "fnExactSolveBy", unfollowed := true, recurses := true, apart := false, narrowed := true }
def FnExactSolveByUptoSaid : Prop := fnExactSolveByUptoRow.holds Try.pinned (OpenSpec.upto fnExactSolveBySpec)

/-- 'laws.FnMatrix', WHERE WHAT IT READS IS OF BULK AT MOST 1048576: true; the input reads as it did. -/
def fnMatrixUptoRow : OpenClaim := { program := "ytldlldfoaicjcaa", sum := "f7d63da558838705152b49c8bbeac12460125bca389da8391ed41ede4d7cf3af", func := "loop.example/g00405/laws.FnMatrix", spec := "fnMatrix", unfollowed := true, recurses := true, apart := false, narrowed := true }
def FnMatrixUptoSaid : Prop := fnMatrixUptoRow.holds Try.pinned (OpenSpec.upto fnMatrixSpec)

/-- 'laws.FnBodies', WHERE WHAT IT READS IS OF BULK AT MOST 1048576: true; the input reads as it did. -/
def fnBodiesUptoRow : OpenClaim := { program := "ytldlldfoaicjcaa", sum := "f7d63da558838705152b49c8bbeac12460125bca389da8391ed41ede4d7cf3af", func := "loop.example/g00405/laws.FnBodies", spec := "fnBodies", inPlace := ["internal/abi.NoEscape", "internal/bytealg.MakeNoZero"], apart := false, narrowed := true }
def FnBodiesUptoSaid : Prop := fnBodiesUptoRow.holds Try.pinned (OpenSpec.upto fnBodiesSpec)

/-- 'laws.FnExactDecodePieces', WHERE WHAT IT READS IS OF BULK AT MOST 1048576: true; the input reads as it did. -/
def fnExactDecodePiecesUptoRow : OpenClaim := { program := "ytldlldfoaicjcaa", sum := "f7d63da558838705152b49c8bbeac12460125bca389da8391ed41ede4d7cf3af", func := "loop.example/g00405/laws.FnExactDecodePieces", spec := "fnExactDecodePieces", unfollowed := true, recurses := true, apart := false, narrowed := true }
def FnExactDecodePiecesUptoSaid : Prop := fnExactDecodePiecesUptoRow.holds Try.pinned (OpenSpec.upto fnExactDecodePiecesSpec)

/-- 'laws.FnPieces', WHERE WHAT IT READS IS OF BULK AT MOST 1048576: true; the input reads as it did. -/
def fnPiecesUptoRow : OpenClaim := { program := "ytldlldfoaicjcaa", sum := "f7d63da558838705152b49c8bbeac12460125bca389da8391ed41ede4d7cf3af", func := "loop.example/g00405/laws.FnPieces", spec := "fnPieces", unfollowed := true, recurses := true, apart := false, narrowed := true }
def FnPiecesUptoSaid : Prop := fnPiecesUptoRow.holds Try.pinned (OpenSpec.upto fnPiecesSpec)

/-- 'laws.FnLocators', WHERE WHAT IT READS IS OF BULK AT MOST 1048576: true; the input reads as it did. -/
def fnLocatorsUptoRow : OpenClaim := { program := "ytldlldfoaicjcaa", sum := "f7d63da558838705152b49c8bbeac12460125bca389da8391ed41ede4d7cf3af", func := "loop.example/g00405/laws.FnLocators", spec := "fnLocators", unfollowed := true, recurses := true, apart := false, narrowed := true }
def FnLocatorsUptoSaid : Prop := fnLocatorsUptoRow.holds Try.pinned (OpenSpec.upto fnLocatorsSpec)

/-- 'laws.FnExactDecodeWord', WHERE WHAT IT READS IS OF BULK AT MOST 1048576: true; the input reads as it did. -/
def fnExactDecodeWordUptoRow : OpenClaim := { program := "ytldlldfoaicjcaa", sum := "f7d63da558838705152b49c8bbeac12460125bca389da8391ed41ede4d7cf3af", func := "loop.example/g00405/laws.FnExactDecodeWord", spec := "fnExactDecodeWord", unfollowed := true, recurses := true, apart := false, narrowed := true }
def FnExactDecodeWordUptoSaid : Prop := fnExactDecodeWordUptoRow.holds Try.pinned (OpenSpec.upto fnExactDecodeWordSpec)

/-- 'laws.FnWords', WHERE WHAT IT READS IS OF BULK AT MOST 1048576: true; the input reads as it did. -/
def fnWordsUptoRow : OpenClaim := { program := "ytldlldfoaicjcaa", sum := "f7d63da558838705152b49c8bbeac12460125bca389da8391ed41ede4d7cf3af", func := "loop.example/g00405/laws.FnWords", spec := "fnWords", unfollowed := true, recurses := true, apart := false, narrowed := true }
def FnWordsUptoSaid : Prop := fnWordsUptoRow.holds Try.pinned (OpenSpec.upto fnWordsSpec)

end Rows
end Go.Proofs.Ytldlldfoaicjcaa
