/-
  No cell of these rows narrows 'for every input' (looked for: loops, veiled, ifaces, maps, wideKeys, modest, calm, conditions, laid).
  DERIVED. THE GIVEN ROWS OF THIS SEAT. 12 by the template 'for every input the law returns true; each argument reads behind the call as it read before'; 0 by the template 'total and deterministic' (their statements: YtekadhniinpdfaaTotals.lean).
  GIVEN WITH THE SEED: the statements are not yours to turn. If you find one false, say at which input.
  Laid BY PROGRAM, IN A SANDBOX (cutbox-rows.mjs): the forced cells as the released guide's own fill.sh prints them over the translation f9ecffa475c8b53b… (all of the seat's roots in one cut). By AI agents, Wed Nov 11 2026. No macro, syntax, notation, axiom, sorry.
-/
import Derived.Test.YtekadhniinpdfaaChecked
import GoSem.Claim
import GoSem.ClaimJoined
import GoSem.ClaimMapViews
import Derived.JoinedTies
import Derived.KernelRfl
namespace Go.Proofs.Ytekadhniinpdfaa
/- THE CELL 'sum', in the pinned program and in every row, IS THE sha256 OF THE DUMP (.gsa) THAT YtekadhniinpdfaaProg.lean LOADS. Nothing in Lean hashes anything: it is a label: what it is worth is what the hold of that sum in a sandbox is worth. -/
noncomputable def Try.pinned : Pinned := { name := "ytekadhniinpdfaa", sum := "f9ecffa475c8b53b358f1531f8650371e2867a16c0f4c660ae2a048c0bca0a20", checked := Try.checked }
namespace Rows
def none {H : Type} : Left H := { results := [], args := [] }

/-- 'laws.FnBursts': WHATEVER THE INPUT: true; the input reads as it did. -/
def fnBurstsSpec : ChangeSpec := { name := "fnBursts", fn := fun _ => fun
  | [d1, d2] => { results := [.lit (.bool true)], args := [d1, d2] }
  | _ => none }
def fnBurstsRow : OpenClaim := { program := "ytekadhniinpdfaa", sum := "f9ecffa475c8b53b358f1531f8650371e2867a16c0f4c660ae2a048c0bca0a20", func := "loop.example/g00405/laws.FnBursts", spec := "fnBursts", apart := false }
def FnBurstsSaid : Prop := fnBurstsRow.holds Try.pinned (OpenSpec.ofChange fnBurstsSpec)

/-- ITS FALSE NEIGHBOUR: 'it returns false'. Refute it at one input. -/
def fnBurstsWrong : ChangeSpec := { name := "fnBursts", fn := fun _ => fun
  | [d1, d2] => { results := [.lit (.bool false)], args := [d1, d2] }
  | _ => none }
def FnBurstsWrongFalsely : Prop := fnBurstsRow.holds Try.pinned (OpenSpec.ofChange fnBurstsWrong)

/-- 'laws.FnExactMulPoly': WHATEVER THE INPUT: true; the input reads as it did. -/
def fnExactMulPolySpec : ChangeSpec := { name := "fnExactMulPoly", fn := fun _ => fun
  | [d1, d2] => { results := [.lit (.bool true)], args := [d1, d2] }
  | _ => none }
def fnExactMulPolyRow : OpenClaim := { program := "ytekadhniinpdfaa", sum := "f9ecffa475c8b53b358f1531f8650371e2867a16c0f4c660ae2a048c0bca0a20", func := "loop.example/g00405/laws.FnExactMulPoly", spec := "fnExactMulPoly", unfollowed := true, recurses := true, apart := false }
def FnExactMulPolySaid : Prop := fnExactMulPolyRow.holds Try.pinned (OpenSpec.ofChange fnExactMulPolySpec)

/-- ITS FALSE NEIGHBOUR: 'it returns false'. Refute it at one input. -/
def fnExactMulPolyWrong : ChangeSpec := { name := "fnExactMulPoly", fn := fun _ => fun
  | [d1, d2] => { results := [.lit (.bool false)], args := [d1, d2] }
  | _ => none }
def FnExactMulPolyWrongFalsely : Prop := fnExactMulPolyRow.holds Try.pinned (OpenSpec.ofChange fnExactMulPolyWrong)

/-- 'laws.FnExactJoinBody': WHATEVER THE INPUT: true; the input reads as it did. -/
def fnExactJoinBodySpec : ChangeSpec := { name := "fnExactJoinBody", fn := fun _ => fun
  | [d] => { results := [.lit (.bool true)], args := [d] }
  | _ => none }
def fnExactJoinBodyRow : OpenClaim := { program := "ytekadhniinpdfaa", sum := "f9ecffa475c8b53b358f1531f8650371e2867a16c0f4c660ae2a048c0bca0a20", func := "loop.example/g00405/laws.FnExactJoinBody", spec := "fnExactJoinBody", inPlace := ["internal/abi.NoEscape", "internal/bytealg.MakeNoZero"], apart := false }
def FnExactJoinBodySaid : Prop := fnExactJoinBodyRow.holds Try.pinned (OpenSpec.ofChange fnExactJoinBodySpec)

/-- ITS FALSE NEIGHBOUR: 'it returns false'. Refute it at one input. -/
def fnExactJoinBodyWrong : ChangeSpec := { name := "fnExactJoinBody", fn := fun _ => fun
  | [d] => { results := [.lit (.bool false)], args := [d] }
  | _ => none }
def FnExactJoinBodyWrongFalsely : Prop := fnExactJoinBodyRow.holds Try.pinned (OpenSpec.ofChange fnExactJoinBodyWrong)

/-- 'laws.FnSums': WHATEVER THE INPUT: true; the input reads as it did. -/
def fnSumsSpec : ChangeSpec := { name := "fnSums", fn := fun _ => fun
  | [d1, d2] => { results := [.lit (.bool true)], args := [d1, d2] }
  | _ => none }
def fnSumsRow : OpenClaim := { program := "ytekadhniinpdfaa", sum := "f9ecffa475c8b53b358f1531f8650371e2867a16c0f4c660ae2a048c0bca0a20", func := "loop.example/g00405/laws.FnSums", spec := "fnSums", apart := false }
def FnSumsSaid : Prop := fnSumsRow.holds Try.pinned (OpenSpec.ofChange fnSumsSpec)

/-- ITS FALSE NEIGHBOUR: 'it returns false'. Refute it at one input. -/
def fnSumsWrong : ChangeSpec := { name := "fnSums", fn := fun _ => fun
  | [d1, d2] => { results := [.lit (.bool false)], args := [d1, d2] }
  | _ => none }
def FnSumsWrongFalsely : Prop := fnSumsRow.holds Try.pinned (OpenSpec.ofChange fnSumsWrong)

/-- 'laws.FnExactSyndromesOf': WHATEVER THE INPUT: true; the input reads as it did. -/
def fnExactSyndromesOfSpec : ChangeSpec := { name := "fnExactSyndromesOf", fn := fun _ => fun
  | [d1, d2] => { results := [.lit (.bool true)], args := [d1, d2] }
  | _ => none }
def fnExactSyndromesOfRow : OpenClaim := { program := "ytekadhniinpdfaa", sum := "f9ecffa475c8b53b358f1531f8650371e2867a16c0f4c660ae2a048c0bca0a20", func := "loop.example/g00405/laws.FnExactSyndromesOf", spec := "fnExactSyndromesOf", unfollowed := true, recurses := true, apart := false }
def FnExactSyndromesOfSaid : Prop := fnExactSyndromesOfRow.holds Try.pinned (OpenSpec.ofChange fnExactSyndromesOfSpec)

/-- ITS FALSE NEIGHBOUR: 'it returns false'. Refute it at one input. -/
def fnExactSyndromesOfWrong : ChangeSpec := { name := "fnExactSyndromesOf", fn := fun _ => fun
  | [d1, d2] => { results := [.lit (.bool false)], args := [d1, d2] }
  | _ => none }
def FnExactSyndromesOfWrongFalsely : Prop := fnExactSyndromesOfRow.holds Try.pinned (OpenSpec.ofChange fnExactSyndromesOfWrong)

/-- 'laws.FnExactCheckFrame': WHATEVER THE INPUT: true; the input reads as it did. -/
def fnExactCheckFrameSpec : ChangeSpec := { name := "fnExactCheckFrame", fn := fun _ => fun
  | [d1, d2, d3, d4] => { results := [.lit (.bool true)], args := [d1, d2, d3, d4] }
  | _ => none }
def fnExactCheckFrameRow : OpenClaim := { program := "ytekadhniinpdfaa", sum := "f9ecffa475c8b53b358f1531f8650371e2867a16c0f4c660ae2a048c0bca0a20", func := "loop.example/g00405/laws.FnExactCheckFrame", spec := "fnExactCheckFrame", apart := false }
def FnExactCheckFrameSaid : Prop := fnExactCheckFrameRow.holds Try.pinned (OpenSpec.ofChange fnExactCheckFrameSpec)

/-- ITS FALSE NEIGHBOUR: 'it returns false'. Refute it at one input. -/
def fnExactCheckFrameWrong : ChangeSpec := { name := "fnExactCheckFrame", fn := fun _ => fun
  | [d1, d2, d3, d4] => { results := [.lit (.bool false)], args := [d1, d2, d3, d4] }
  | _ => none }
def FnExactCheckFrameWrongFalsely : Prop := fnExactCheckFrameRow.holds Try.pinned (OpenSpec.ofChange fnExactCheckFrameWrong)

/-- 'laws.FnExactDistanceOf': WHATEVER THE INPUT: true; the input reads as it did. -/
def fnExactDistanceOfSpec : ChangeSpec := { name := "fnExactDistanceOf", fn := fun _ => fun
  | [d1, d2] => { results := [.lit (.bool true)], args := [d1, d2] }
  | _ => none }
def fnExactDistanceOfRow : OpenClaim := { program := "ytekadhniinpdfaa", sum := "f9ecffa475c8b53b358f1531f8650371e2867a16c0f4c660ae2a048c0bca0a20", func := "loop.example/g00405/laws.FnExactDistanceOf", spec := "fnExactDistanceOf", unfollowed := true, recurses := true, apart := false }
def FnExactDistanceOfSaid : Prop := fnExactDistanceOfRow.holds Try.pinned (OpenSpec.ofChange fnExactDistanceOfSpec)

/-- ITS FALSE NEIGHBOUR: 'it returns false'. Refute it at one input. -/
def fnExactDistanceOfWrong : ChangeSpec := { name := "fnExactDistanceOf", fn := fun _ => fun
  | [d1, d2] => { results := [.lit (.bool false)], args := [d1, d2] }
  | _ => none }
def FnExactDistanceOfWrongFalsely : Prop := fnExactDistanceOfRow.holds Try.pinned (OpenSpec.ofChange fnExactDistanceOfWrong)

/-- 'laws.FnExactIsWord': WHATEVER THE INPUT: true; the input reads as it did. -/
def fnExactIsWordSpec : ChangeSpec := { name := "fnExactIsWord", fn := fun _ => fun
  | [d1, d2] => { results := [.lit (.bool true)], args := [d1, d2] }
  | _ => none }
def fnExactIsWordRow : OpenClaim := { program := "ytekadhniinpdfaa", sum := "f9ecffa475c8b53b358f1531f8650371e2867a16c0f4c660ae2a048c0bca0a20", func := "loop.example/g00405/laws.FnExactIsWord", spec := "fnExactIsWord", unfollowed := true, recurses := true, apart := false }
def FnExactIsWordSaid : Prop := fnExactIsWordRow.holds Try.pinned (OpenSpec.ofChange fnExactIsWordSpec)

/-- ITS FALSE NEIGHBOUR: 'it returns false'. Refute it at one input. -/
def fnExactIsWordWrong : ChangeSpec := { name := "fnExactIsWord", fn := fun _ => fun
  | [d1, d2] => { results := [.lit (.bool false)], args := [d1, d2] }
  | _ => none }
def FnExactIsWordWrongFalsely : Prop := fnExactIsWordRow.holds Try.pinned (OpenSpec.ofChange fnExactIsWordWrong)

/-- 'laws.FnExactFrameAll': WHATEVER THE INPUT: true; the input reads as it did. -/
def fnExactFrameAllSpec : ChangeSpec := { name := "fnExactFrameAll", fn := fun _ => fun
  | [d1, d2, d3, d4] => { results := [.lit (.bool true)], args := [d1, d2, d3, d4] }
  | _ => none }
def fnExactFrameAllRow : OpenClaim := { program := "ytekadhniinpdfaa", sum := "f9ecffa475c8b53b358f1531f8650371e2867a16c0f4c660ae2a048c0bca0a20", func := "loop.example/g00405/laws.FnExactFrameAll", spec := "fnExactFrameAll", apart := false }
def FnExactFrameAllSaid : Prop := fnExactFrameAllRow.holds Try.pinned (OpenSpec.ofChange fnExactFrameAllSpec)

/-- ITS FALSE NEIGHBOUR: 'it returns false'. Refute it at one input. -/
def fnExactFrameAllWrong : ChangeSpec := { name := "fnExactFrameAll", fn := fun _ => fun
  | [d1, d2, d3, d4] => { results := [.lit (.bool false)], args := [d1, d2, d3, d4] }
  | _ => none }
def FnExactFrameAllWrongFalsely : Prop := fnExactFrameAllRow.holds Try.pinned (OpenSpec.ofChange fnExactFrameAllWrong)

/-- 'laws.FnExactRowsOf': WHATEVER THE INPUT: true; the input reads as it did. -/
def fnExactRowsOfSpec : ChangeSpec := { name := "fnExactRowsOf", fn := fun _ => fun
  | [d1, d2] => { results := [.lit (.bool true)], args := [d1, d2] }
  | _ => none }
def fnExactRowsOfRow : OpenClaim := { program := "ytekadhniinpdfaa", sum := "f9ecffa475c8b53b358f1531f8650371e2867a16c0f4c660ae2a048c0bca0a20", func := "loop.example/g00405/laws.FnExactRowsOf", spec := "fnExactRowsOf", unfollowed := true, recurses := true, apart := false }
def FnExactRowsOfSaid : Prop := fnExactRowsOfRow.holds Try.pinned (OpenSpec.ofChange fnExactRowsOfSpec)

/-- ITS FALSE NEIGHBOUR: 'it returns false'. Refute it at one input. -/
def fnExactRowsOfWrong : ChangeSpec := { name := "fnExactRowsOf", fn := fun _ => fun
  | [d1, d2] => { results := [.lit (.bool false)], args := [d1, d2] }
  | _ => none }
def FnExactRowsOfWrongFalsely : Prop := fnExactRowsOfRow.holds Try.pinned (OpenSpec.ofChange fnExactRowsOfWrong)

/-- 'laws.FnExactCodeMatrix': WHATEVER THE INPUT: true; the input reads as it did. -/
def fnExactCodeMatrixSpec : ChangeSpec := { name := "fnExactCodeMatrix", fn := fun _ => fun
  | [d1, d2] => { results := [.lit (.bool true)], args := [d1, d2] }
  | _ => none }
def fnExactCodeMatrixRow : OpenClaim := { program := "ytekadhniinpdfaa", sum := "f9ecffa475c8b53b358f1531f8650371e2867a16c0f4c660ae2a048c0bca0a20", func := "loop.example/g00405/laws.FnExactCodeMatrix", spec := "fnExactCodeMatrix", apart := false }
def FnExactCodeMatrixSaid : Prop := fnExactCodeMatrixRow.holds Try.pinned (OpenSpec.ofChange fnExactCodeMatrixSpec)

/-- ITS FALSE NEIGHBOUR: 'it returns false'. Refute it at one input. -/
def fnExactCodeMatrixWrong : ChangeSpec := { name := "fnExactCodeMatrix", fn := fun _ => fun
  | [d1, d2] => { results := [.lit (.bool false)], args := [d1, d2] }
  | _ => none }
def FnExactCodeMatrixWrongFalsely : Prop := fnExactCodeMatrixRow.holds Try.pinned (OpenSpec.ofChange fnExactCodeMatrixWrong)

/-- 'laws.FnExactDivPoly': WHATEVER THE INPUT: true; the input reads as it did. -/
def fnExactDivPolySpec : ChangeSpec := { name := "fnExactDivPoly", fn := fun _ => fun
  | [d1, d2] => { results := [.lit (.bool true)], args := [d1, d2] }
  | _ => none }
def fnExactDivPolyRow : OpenClaim := { program := "ytekadhniinpdfaa", sum := "f9ecffa475c8b53b358f1531f8650371e2867a16c0f4c660ae2a048c0bca0a20", func := "loop.example/g00405/laws.FnExactDivPoly", spec := "fnExactDivPoly", unfollowed := true, recurses := true, apart := false }
def FnExactDivPolySaid : Prop := fnExactDivPolyRow.holds Try.pinned (OpenSpec.ofChange fnExactDivPolySpec)

/-- ITS FALSE NEIGHBOUR: 'it returns false'. Refute it at one input. -/
def fnExactDivPolyWrong : ChangeSpec := { name := "fnExactDivPoly", fn := fun _ => fun
  | [d1, d2] => { results := [.lit (.bool false)], args := [d1, d2] }
  | _ => none }
def FnExactDivPolyWrongFalsely : Prop := fnExactDivPolyRow.holds Try.pinned (OpenSpec.ofChange fnExactDivPolyWrong)

/- THE SECOND FORM. 'bulk': how many values and letters a reading holds, each counted each time it is reached (what is shared counts as often as it is met; a slice's spare places count too). A statement '..UptoSaid' is the law's where the arguments, and the package variables that the reading takes, are together of bulk at most 1048576: NARROWER than '..Said'. Prove '..Said' where nothing that the law and all that it calls make is longer than what came in: it says more and counts as full. Else prove '..UptoSaid'. A law counts once. -/
mutual
def uptoBulk {H : Type} : DataW H → Nat
  | .lit (.string bytes) => bytes.length + 1
  | .lit _ => 1
  | .nil => 1
  | .ptr d => uptoBulk d + 1
  | .slice elems spare => uptoBulkAll elems + uptoBulkAll spare + 1
  | .agg parts => uptoBulkAll parts + 1
  | .iface _ d => uptoBulk d + 1
  | .map entries => uptoBulkEntries entries + 1
  | .held _ => 1
def uptoBulkAll {H : Type} : List (DataW H) → Nat
  | [] => 0
  | d :: r => uptoBulk d + uptoBulkAll r
def uptoBulkEntries {H : Type} : List (Lit × DataW H) → Nat
  | [] => 0
  | x :: r => uptoBulkEntry x + uptoBulkEntries r
def uptoBulkEntry {H : Type} : Lit × DataW H → Nat
  | (.string bytes, d) => bytes.length + uptoBulk d + 1
  | (_, d) => uptoBulk d + 1
 end
def uptoSmall : (H : Type) → List (DataW H) → Bool := fun _ ds => decide (uptoBulkAll ds ≤ 1048576)
def OpenSpec.upto (s : _root_.Go.ChangeSpec) : _root_.Go.OpenSpec := { _root_.Go.OpenSpec.ofChange s with cond := some uptoSmall }

/-- 'laws.FnBursts', WHERE WHAT IT READS IS OF BULK AT MOST 1048576: true; the input reads as it did. -/
def fnBurstsUptoRow : OpenClaim := { program := "ytekadhniinpdfaa", sum := "f9ecffa475c8b53b358f1531f8650371e2867a16c0f4c660ae2a048c0bca0a20", func := "loop.example/g00405/laws.FnBursts", spec := "fnBursts", apart := false, narrowed := true }
def FnBurstsUptoSaid : Prop := fnBurstsUptoRow.holds Try.pinned (OpenSpec.upto fnBurstsSpec)

/-- 'laws.FnExactMulPoly', WHERE WHAT IT READS IS OF BULK AT MOST 1048576: true; the input reads as it did. -/
def fnExactMulPolyUptoRow : OpenClaim := { program := "ytekadhniinpdfaa", sum := "f9ecffa475c8b53b358f1531f8650371e2867a16c0f4c660ae2a048c0bca0a20", func := "loop.example/g00405/laws.FnExactMulPoly", spec := "fnExactMulPoly", unfollowed := true, recurses := true, apart := false, narrowed := true }
def FnExactMulPolyUptoSaid : Prop := fnExactMulPolyUptoRow.holds Try.pinned (OpenSpec.upto fnExactMulPolySpec)

/-- 'laws.FnExactJoinBody', WHERE WHAT IT READS IS OF BULK AT MOST 1048576: true; the input reads as it did. -/
def fnExactJoinBodyUptoRow : OpenClaim := { program := "ytekadhniinpdfaa", sum := "f9ecffa475c8b53b358f1531f8650371e2867a16c0f4c660ae2a048c0bca0a20", func := "loop.example/g00405/laws.FnExactJoinBody", spec := "fnExactJoinBody", inPlace := ["internal/abi.NoEscape", "internal/bytealg.MakeNoZero"], apart := false, narrowed := true }
def FnExactJoinBodyUptoSaid : Prop := fnExactJoinBodyUptoRow.holds Try.pinned (OpenSpec.upto fnExactJoinBodySpec)

/-- 'laws.FnSums', WHERE WHAT IT READS IS OF BULK AT MOST 1048576: true; the input reads as it did. -/
def fnSumsUptoRow : OpenClaim := { program := "ytekadhniinpdfaa", sum := "f9ecffa475c8b53b358f1531f8650371e2867a16c0f4c660ae2a048c0bca0a20", func := "loop.example/g00405/laws.FnSums", spec := "fnSums", apart := false, narrowed := true }
def FnSumsUptoSaid : Prop := fnSumsUptoRow.holds Try.pinned (OpenSpec.upto fnSumsSpec)

/-- 'laws.FnExactSyndromesOf', WHERE WHAT IT READS IS OF BULK AT MOST 1048576: true; the input reads as it did. -/
def fnExactSyndromesOfUptoRow : OpenClaim := { program := "ytekadhniinpdfaa", sum := "f9ecffa475c8b53b358f1531f8650371e2867a16c0f4c660ae2a048c0bca0a20", func := "loop.example/g00405/laws.FnExactSyndromesOf", spec := "fnExactSyndromesOf", unfollowed := true, recurses := true, apart := false, narrowed := true }
def FnExactSyndromesOfUptoSaid : Prop := fnExactSyndromesOfUptoRow.holds Try.pinned (OpenSpec.upto fnExactSyndromesOfSpec)

/-- 'laws.FnExactCheckFrame', WHERE WHAT IT READS IS OF BULK AT MOST 1048576: true; the input reads as it did. -/
def fnExactCheckFrameUptoRow : OpenClaim := { program := "ytekadhniinpdfaa", sum := "f9ecffa475c8b53b358f1531f8650371e2867a16c0f4c660ae2a048c0bca0a20", func := "loop.example/g00405/laws.FnExactCheckFrame", spec := "fnExactCheckFrame", apart := false, narrowed := true }
def FnExactCheckFrameUptoSaid : Prop := fnExactCheckFrameUptoRow.holds Try.pinned (OpenSpec.upto fnExactCheckFrameSpec)

/-- 'laws.FnExactDistanceOf', WHERE WHAT IT READS IS OF BULK AT MOST 1048576: true; the input reads as it did. -/
def fnExactDistanceOfUptoRow : OpenClaim := { program := "ytekadhniinpdfaa", sum := "f9ecffa475c8b53b358f1531f8650371e2867a16c0f4c660ae2a048c0bca0a20", func := "loop.example/g00405/laws.FnExactDistanceOf", spec := "fnExactDistanceOf", unfollowed := true, recurses := true, apart := false, narrowed := true }
def FnExactDistanceOfUptoSaid : Prop := fnExactDistanceOfUptoRow.holds Try.pinned (OpenSpec.upto fnExactDistanceOfSpec)

/-- 'laws.FnExactIsWord', WHERE WHAT IT READS IS OF BULK AT MOST 1048576: true; the input reads as it did. -/
def fnExactIsWordUptoRow : OpenClaim := { program := "ytekadhniinpdfaa", sum := "f9ecffa475c8b53b358f1531f8650371e2867a16c0f4c660ae2a048c0bca0a20", func := "loop.example/g00405/laws.FnExactIsWord", spec := "fnExactIsWord", unfollowed := true, recurses := true, apart := false, narrowed := true }
def FnExactIsWordUptoSaid : Prop := fnExactIsWordUptoRow.holds Try.pinned (OpenSpec.upto fnExactIsWordSpec)

/-- 'laws.FnExactFrameAll', WHERE WHAT IT READS IS OF BULK AT MOST 1048576: true; the input reads as it did. -/
def fnExactFrameAllUptoRow : OpenClaim := { program := "ytekadhniinpdfaa", sum := "f9ecffa475c8b53b358f1531f8650371e2867a16c0f4c660ae2a048c0bca0a20", func := "loop.example/g00405/laws.FnExactFrameAll", spec := "fnExactFrameAll", apart := false, narrowed := true }
def FnExactFrameAllUptoSaid : Prop := fnExactFrameAllUptoRow.holds Try.pinned (OpenSpec.upto fnExactFrameAllSpec)

/-- 'laws.FnExactRowsOf', WHERE WHAT IT READS IS OF BULK AT MOST 1048576: true; the input reads as it did. -/
def fnExactRowsOfUptoRow : OpenClaim := { program := "ytekadhniinpdfaa", sum := "f9ecffa475c8b53b358f1531f8650371e2867a16c0f4c660ae2a048c0bca0a20", func := "loop.example/g00405/laws.FnExactRowsOf", spec := "fnExactRowsOf", unfollowed := true, recurses := true, apart := false, narrowed := true }
def FnExactRowsOfUptoSaid : Prop := fnExactRowsOfUptoRow.holds Try.pinned (OpenSpec.upto fnExactRowsOfSpec)

/-- 'laws.FnExactCodeMatrix', WHERE WHAT IT READS IS OF BULK AT MOST 1048576: true; the input reads as it did. -/
def fnExactCodeMatrixUptoRow : OpenClaim := { program := "ytekadhniinpdfaa", sum := "f9ecffa475c8b53b358f1531f8650371e2867a16c0f4c660ae2a048c0bca0a20", func := "loop.example/g00405/laws.FnExactCodeMatrix", spec := "fnExactCodeMatrix", apart := false, narrowed := true }
def FnExactCodeMatrixUptoSaid : Prop := fnExactCodeMatrixUptoRow.holds Try.pinned (OpenSpec.upto fnExactCodeMatrixSpec)

/-- 'laws.FnExactDivPoly', WHERE WHAT IT READS IS OF BULK AT MOST 1048576: true; the input reads as it did. -/
def fnExactDivPolyUptoRow : OpenClaim := { program := "ytekadhniinpdfaa", sum := "f9ecffa475c8b53b358f1531f8650371e2867a16c0f4c660ae2a048c0bca0a20", func := "loop.example/g00405/laws.FnExactDivPoly", spec := "fnExactDivPoly", unfollowed := true, recurses := true, apart := false, narrowed := true }
def FnExactDivPolyUptoSaid : Prop := fnExactDivPolyUptoRow.holds Try.pinned (OpenSpec.upto fnExactDivPolySpec)

end Rows
end Go.Proofs.Ytekadhniinpdfaa
