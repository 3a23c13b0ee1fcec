/-
  No cell of these rows narrows 'for every input' (looked for: loops, veiled, ifaces, maps, wideKeys, modest, calm, conditions, laid).
  DERIVED. THE GIVEN ROWS OF THIS SEAT. 12 by the template 'for every input the law returns true; each argument reads behind the call as it read before'; 0 by the template 'total and deterministic' (their statements: YthaffjolcghkoaaTotals.lean).
  GIVEN WITH THE SEED: the statements are not yours to turn. If you find one false, say at which input.
  Laid BY PROGRAM, IN A SANDBOX (cutbox-rows.mjs): the forced cells as the released guide's own fill.sh prints them over the translation 2d00ec3e3c2e6f3c… (all of the seat's roots in one cut). By AI agents, Wed Nov 11 2026. No macro, syntax, notation, axiom, sorry.
-/
import Derived.Test.YthaffjolcghkoaaChecked
import GoSem.Claim
import GoSem.ClaimJoined
import GoSem.ClaimMapViews
import Derived.JoinedTies
import Derived.KernelRfl
namespace Go.Proofs.Ythaffjolcghkoaa
/- THE CELL 'sum', in the pinned program and in every row, IS THE sha256 OF THE DUMP (.gsa) THAT YthaffjolcghkoaaProg.lean LOADS. Nothing in Lean hashes anything: it is a label: what it is worth is what the hold of that sum in a sandbox is worth. -/
noncomputable def Try.pinned : Pinned := { name := "ythaffjolcghkoaa", sum := "2d00ec3e3c2e6f3c58113c31a7cd4e8c0a72122f6b9fdb3b4718cca70b4eb3d8", checked := Try.checked }
namespace Rows
def none {H : Type} : Left H := { results := [], args := [] }

/-- 'laws.FnExactConstants': WHATEVER THE INPUT: true; the input reads as it did. -/
def fnExactConstantsSpec : ChangeSpec := { name := "fnExactConstants", fn := fun _ => fun
  | [] => { results := [.lit (.bool true)], args := [] }
  | _ => none }
def fnExactConstantsRow : OpenClaim := { program := "ythaffjolcghkoaa", sum := "2d00ec3e3c2e6f3c58113c31a7cd4e8c0a72122f6b9fdb3b4718cca70b4eb3d8", func := "loop.example/g00405/laws.FnExactConstants", spec := "fnExactConstants", apart := false }
def FnExactConstantsSaid : Prop := fnExactConstantsRow.holds Try.pinned (OpenSpec.ofChange fnExactConstantsSpec)

/-- ITS FALSE NEIGHBOUR: 'it returns false'. Refute it at one input. -/
def fnExactConstantsWrong : ChangeSpec := { name := "fnExactConstants", fn := fun _ => fun
  | [] => { results := [.lit (.bool false)], args := [] }
  | _ => none }
def FnExactConstantsWrongFalsely : Prop := fnExactConstantsRow.holds Try.pinned (OpenSpec.ofChange fnExactConstantsWrong)

/-- 'laws.FnExactAddGf': WHATEVER THE INPUT: true; the input reads as it did. -/
def fnExactAddGfSpec : ChangeSpec := { name := "fnExactAddGf", fn := fun _ => fun
  | [d1, d2] => { results := [.lit (.bool true)], args := [d1, d2] }
  | _ => none }
def fnExactAddGfRow : OpenClaim := { program := "ythaffjolcghkoaa", sum := "2d00ec3e3c2e6f3c58113c31a7cd4e8c0a72122f6b9fdb3b4718cca70b4eb3d8", func := "loop.example/g00405/laws.FnExactAddGf", spec := "fnExactAddGf", apart := false }
def FnExactAddGfSaid : Prop := fnExactAddGfRow.holds Try.pinned (OpenSpec.ofChange fnExactAddGfSpec)

/-- ITS FALSE NEIGHBOUR: 'it returns false'. Refute it at one input. -/
def fnExactAddGfWrong : ChangeSpec := { name := "fnExactAddGf", fn := fun _ => fun
  | [d1, d2] => { results := [.lit (.bool false)], args := [d1, d2] }
  | _ => none }
def FnExactAddGfWrongFalsely : Prop := fnExactAddGfRow.holds Try.pinned (OpenSpec.ofChange fnExactAddGfWrong)

/-- 'laws.FnExactGoodFrame': WHATEVER THE INPUT: true; the input reads as it did. -/
def fnExactGoodFrameSpec : ChangeSpec := { name := "fnExactGoodFrame", fn := fun _ => fun
  | [d] => { results := [.lit (.bool true)], args := [d] }
  | _ => none }
def fnExactGoodFrameRow : OpenClaim := { program := "ythaffjolcghkoaa", sum := "2d00ec3e3c2e6f3c58113c31a7cd4e8c0a72122f6b9fdb3b4718cca70b4eb3d8", func := "loop.example/g00405/laws.FnExactGoodFrame", spec := "fnExactGoodFrame", apart := false }
def FnExactGoodFrameSaid : Prop := fnExactGoodFrameRow.holds Try.pinned (OpenSpec.ofChange fnExactGoodFrameSpec)

/-- ITS FALSE NEIGHBOUR: 'it returns false'. Refute it at one input. -/
def fnExactGoodFrameWrong : ChangeSpec := { name := "fnExactGoodFrame", fn := fun _ => fun
  | [d] => { results := [.lit (.bool false)], args := [d] }
  | _ => none }
def FnExactGoodFrameWrongFalsely : Prop := fnExactGoodFrameRow.holds Try.pinned (OpenSpec.ofChange fnExactGoodFrameWrong)

/-- 'laws.FnExactBurstAt': WHATEVER THE INPUT: true; the input reads as it did. -/
def fnExactBurstAtSpec : ChangeSpec := { name := "fnExactBurstAt", fn := fun _ => fun
  | [d1, d2, d3] => { results := [.lit (.bool true)], args := [d1, d2, d3] }
  | _ => none }
def fnExactBurstAtRow : OpenClaim := { program := "ythaffjolcghkoaa", sum := "2d00ec3e3c2e6f3c58113c31a7cd4e8c0a72122f6b9fdb3b4718cca70b4eb3d8", func := "loop.example/g00405/laws.FnExactBurstAt", spec := "fnExactBurstAt", apart := false }
def FnExactBurstAtSaid : Prop := fnExactBurstAtRow.holds Try.pinned (OpenSpec.ofChange fnExactBurstAtSpec)

/-- ITS FALSE NEIGHBOUR: 'it returns false'. Refute it at one input. -/
def fnExactBurstAtWrong : ChangeSpec := { name := "fnExactBurstAt", fn := fun _ => fun
  | [d1, d2, d3] => { results := [.lit (.bool false)], args := [d1, d2, d3] }
  | _ => none }
def FnExactBurstAtWrongFalsely : Prop := fnExactBurstAtRow.holds Try.pinned (OpenSpec.ofChange fnExactBurstAtWrong)

/-- 'laws.FnExactMulGf': WHATEVER THE INPUT: true; the input reads as it did. -/
def fnExactMulGfSpec : ChangeSpec := { name := "fnExactMulGf", fn := fun _ => fun
  | [d1, d2] => { results := [.lit (.bool true)], args := [d1, d2] }
  | _ => none }
def fnExactMulGfRow : OpenClaim := { program := "ythaffjolcghkoaa", sum := "2d00ec3e3c2e6f3c58113c31a7cd4e8c0a72122f6b9fdb3b4718cca70b4eb3d8", func := "loop.example/g00405/laws.FnExactMulGf", spec := "fnExactMulGf", apart := false }
def FnExactMulGfSaid : Prop := fnExactMulGfRow.holds Try.pinned (OpenSpec.ofChange fnExactMulGfSpec)

/-- ITS FALSE NEIGHBOUR: 'it returns false'. Refute it at one input. -/
def fnExactMulGfWrong : ChangeSpec := { name := "fnExactMulGf", fn := fun _ => fun
  | [d1, d2] => { results := [.lit (.bool false)], args := [d1, d2] }
  | _ => none }
def FnExactMulGfWrongFalsely : Prop := fnExactMulGfRow.holds Try.pinned (OpenSpec.ofChange fnExactMulGfWrong)

/-- 'laws.FnExactJoinSums': WHATEVER THE INPUT: true; the input reads as it did. -/
def fnExactJoinSumsSpec : ChangeSpec := { name := "fnExactJoinSums", fn := fun _ => fun
  | [d1, d2, d3] => { results := [.lit (.bool true)], args := [d1, d2, d3] }
  | _ => none }
def fnExactJoinSumsRow : OpenClaim := { program := "ythaffjolcghkoaa", sum := "2d00ec3e3c2e6f3c58113c31a7cd4e8c0a72122f6b9fdb3b4718cca70b4eb3d8", func := "loop.example/g00405/laws.FnExactJoinSums", spec := "fnExactJoinSums", apart := false }
def FnExactJoinSumsSaid : Prop := fnExactJoinSumsRow.holds Try.pinned (OpenSpec.ofChange fnExactJoinSumsSpec)

/-- ITS FALSE NEIGHBOUR: 'it returns false'. Refute it at one input. -/
def fnExactJoinSumsWrong : ChangeSpec := { name := "fnExactJoinSums", fn := fun _ => fun
  | [d1, d2, d3] => { results := [.lit (.bool false)], args := [d1, d2, d3] }
  | _ => none }
def FnExactJoinSumsWrongFalsely : Prop := fnExactJoinSumsRow.holds Try.pinned (OpenSpec.ofChange fnExactJoinSumsWrong)

/-- 'laws.FnExactOrderGf': WHATEVER THE INPUT: true; the input reads as it did. -/
def fnExactOrderGfSpec : ChangeSpec := { name := "fnExactOrderGf", fn := fun _ => fun
  | [d] => { results := [.lit (.bool true)], args := [d] }
  | _ => none }
def fnExactOrderGfRow : OpenClaim := { program := "ythaffjolcghkoaa", sum := "2d00ec3e3c2e6f3c58113c31a7cd4e8c0a72122f6b9fdb3b4718cca70b4eb3d8", func := "loop.example/g00405/laws.FnExactOrderGf", spec := "fnExactOrderGf", apart := false }
def FnExactOrderGfSaid : Prop := fnExactOrderGfRow.holds Try.pinned (OpenSpec.ofChange fnExactOrderGfSpec)

/-- ITS FALSE NEIGHBOUR: 'it returns false'. Refute it at one input. -/
def fnExactOrderGfWrong : ChangeSpec := { name := "fnExactOrderGf", fn := fun _ => fun
  | [d] => { results := [.lit (.bool false)], args := [d] }
  | _ => none }
def FnExactOrderGfWrongFalsely : Prop := fnExactOrderGfRow.holds Try.pinned (OpenSpec.ofChange fnExactOrderGfWrong)

/-- 'laws.FnExactZeroSum': WHATEVER THE INPUT: true; the input reads as it did. -/
def fnExactZeroSumSpec : ChangeSpec := { name := "fnExactZeroSum", fn := fun _ => fun
  | [d] => { results := [.lit (.bool true)], args := [d] }
  | _ => none }
def fnExactZeroSumRow : OpenClaim := { program := "ythaffjolcghkoaa", sum := "2d00ec3e3c2e6f3c58113c31a7cd4e8c0a72122f6b9fdb3b4718cca70b4eb3d8", func := "loop.example/g00405/laws.FnExactZeroSum", spec := "fnExactZeroSum", apart := false }
def FnExactZeroSumSaid : Prop := fnExactZeroSumRow.holds Try.pinned (OpenSpec.ofChange fnExactZeroSumSpec)

/-- ITS FALSE NEIGHBOUR: 'it returns false'. Refute it at one input. -/
def fnExactZeroSumWrong : ChangeSpec := { name := "fnExactZeroSum", fn := fun _ => fun
  | [d] => { results := [.lit (.bool false)], args := [d] }
  | _ => none }
def FnExactZeroSumWrongFalsely : Prop := fnExactZeroSumRow.holds Try.pinned (OpenSpec.ofChange fnExactZeroSumWrong)

/-- 'laws.FnExactPatchSum': WHATEVER THE INPUT: true; the input reads as it did. -/
def fnExactPatchSumSpec : ChangeSpec := { name := "fnExactPatchSum", fn := fun _ => fun
  | [d1, d2, d3] => { results := [.lit (.bool true)], args := [d1, d2, d3] }
  | _ => none }
def fnExactPatchSumRow : OpenClaim := { program := "ythaffjolcghkoaa", sum := "2d00ec3e3c2e6f3c58113c31a7cd4e8c0a72122f6b9fdb3b4718cca70b4eb3d8", func := "loop.example/g00405/laws.FnExactPatchSum", spec := "fnExactPatchSum", apart := false }
def FnExactPatchSumSaid : Prop := fnExactPatchSumRow.holds Try.pinned (OpenSpec.ofChange fnExactPatchSumSpec)

/-- ITS FALSE NEIGHBOUR: 'it returns false'. Refute it at one input. -/
def fnExactPatchSumWrong : ChangeSpec := { name := "fnExactPatchSum", fn := fun _ => fun
  | [d1, d2, d3] => { results := [.lit (.bool false)], args := [d1, d2, d3] }
  | _ => none }
def FnExactPatchSumWrongFalsely : Prop := fnExactPatchSumRow.holds Try.pinned (OpenSpec.ofChange fnExactPatchSumWrong)

/-- 'laws.FnExactCanDecode': WHATEVER THE INPUT: true; the input reads as it did. -/
def fnExactCanDecodeSpec : ChangeSpec := { name := "fnExactCanDecode", fn := fun _ => fun
  | [d1, d2, d3] => { results := [.lit (.bool true)], args := [d1, d2, d3] }
  | _ => none }
def fnExactCanDecodeRow : OpenClaim := { program := "ythaffjolcghkoaa", sum := "2d00ec3e3c2e6f3c58113c31a7cd4e8c0a72122f6b9fdb3b4718cca70b4eb3d8", func := "loop.example/g00405/laws.FnExactCanDecode", spec := "fnExactCanDecode", apart := false }
def FnExactCanDecodeSaid : Prop := fnExactCanDecodeRow.holds Try.pinned (OpenSpec.ofChange fnExactCanDecodeSpec)

/-- ITS FALSE NEIGHBOUR: 'it returns false'. Refute it at one input. -/
def fnExactCanDecodeWrong : ChangeSpec := { name := "fnExactCanDecode", fn := fun _ => fun
  | [d1, d2, d3] => { results := [.lit (.bool false)], args := [d1, d2, d3] }
  | _ => none }
def FnExactCanDecodeWrongFalsely : Prop := fnExactCanDecodeRow.holds Try.pinned (OpenSpec.ofChange fnExactCanDecodeWrong)

/-- 'laws.FnExactSumOn': WHATEVER THE INPUT: true; the input reads as it did. -/
def fnExactSumOnSpec : ChangeSpec := { name := "fnExactSumOn", fn := fun _ => fun
  | [d1, d2] => { results := [.lit (.bool true)], args := [d1, d2] }
  | _ => none }
def fnExactSumOnRow : OpenClaim := { program := "ythaffjolcghkoaa", sum := "2d00ec3e3c2e6f3c58113c31a7cd4e8c0a72122f6b9fdb3b4718cca70b4eb3d8", func := "loop.example/g00405/laws.FnExactSumOn", spec := "fnExactSumOn", apart := false }
def FnExactSumOnSaid : Prop := fnExactSumOnRow.holds Try.pinned (OpenSpec.ofChange fnExactSumOnSpec)

/-- ITS FALSE NEIGHBOUR: 'it returns false'. Refute it at one input. -/
def fnExactSumOnWrong : ChangeSpec := { name := "fnExactSumOn", fn := fun _ => fun
  | [d1, d2] => { results := [.lit (.bool false)], args := [d1, d2] }
  | _ => none }
def FnExactSumOnWrongFalsely : Prop := fnExactSumOnRow.holds Try.pinned (OpenSpec.ofChange fnExactSumOnWrong)

/-- 'laws.FnExactSumOf': WHATEVER THE INPUT: true; the input reads as it did. -/
def fnExactSumOfSpec : ChangeSpec := { name := "fnExactSumOf", fn := fun _ => fun
  | [d] => { results := [.lit (.bool true)], args := [d] }
  | _ => none }
def fnExactSumOfRow : OpenClaim := { program := "ythaffjolcghkoaa", sum := "2d00ec3e3c2e6f3c58113c31a7cd4e8c0a72122f6b9fdb3b4718cca70b4eb3d8", func := "loop.example/g00405/laws.FnExactSumOf", spec := "fnExactSumOf", apart := false }
def FnExactSumOfSaid : Prop := fnExactSumOfRow.holds Try.pinned (OpenSpec.ofChange fnExactSumOfSpec)

/-- ITS FALSE NEIGHBOUR: 'it returns false'. Refute it at one input. -/
def fnExactSumOfWrong : ChangeSpec := { name := "fnExactSumOf", fn := fun _ => fun
  | [d] => { results := [.lit (.bool false)], args := [d] }
  | _ => none }
def FnExactSumOfWrongFalsely : Prop := fnExactSumOfRow.holds Try.pinned (OpenSpec.ofChange fnExactSumOfWrong)

/- THE SECOND FORM. 'bulk': how many values and letters a reading holds, each counted each time it is reached (what is shared counts as often as it is met; a slice's spare places count too). A statement '..UptoSaid' is the law's where the arguments, and the package variables that the reading takes, are together of bulk at most 1048576: NARROWER than '..Said'. Prove '..Said' where nothing that the law and all that it calls make is longer than what came in: it says more and counts as full. Else prove '..UptoSaid'. A law counts once. -/
mutual
def uptoBulk {H : Type} : DataW H → Nat
  | .lit (.string bytes) => bytes.length + 1
  | .lit _ => 1
  | .nil => 1
  | .ptr d => uptoBulk d + 1
  | .slice elems spare => uptoBulkAll elems + uptoBulkAll spare + 1
  | .agg parts => uptoBulkAll parts + 1
  | .iface _ d => uptoBulk d + 1
  | .map entries => uptoBulkEntries entries + 1
  | .held _ => 1
def uptoBulkAll {H : Type} : List (DataW H) → Nat
  | [] => 0
  | d :: r => uptoBulk d + uptoBulkAll r
def uptoBulkEntries {H : Type} : List (Lit × DataW H) → Nat
  | [] => 0
  | x :: r => uptoBulkEntry x + uptoBulkEntries r
def uptoBulkEntry {H : Type} : Lit × DataW H → Nat
  | (.string bytes, d) => bytes.length + uptoBulk d + 1
  | (_, d) => uptoBulk d + 1
 end
def uptoSmall : (H : Type) → List (DataW H) → Bool := fun _ ds => decide (uptoBulkAll ds ≤ 1048576)
def OpenSpec.upto (s : _root_.Go.ChangeSpec) : _root_.Go.OpenSpec := { _root_.Go.OpenSpec.ofChange s with cond := some uptoSmall }

/-- 'laws.FnExactConstants', WHERE WHAT IT READS IS OF BULK AT MOST 1048576: true; the input reads as it did. -/
def fnExactConstantsUptoRow : OpenClaim := { program := "ythaffjolcghkoaa", sum := "2d00ec3e3c2e6f3c58113c31a7cd4e8c0a72122f6b9fdb3b4718cca70b4eb3d8", func := "loop.example/g00405/laws.FnExactConstants", spec := "fnExactConstants", apart := false, narrowed := true }
def FnExactConstantsUptoSaid : Prop := fnExactConstantsUptoRow.holds Try.pinned (OpenSpec.upto fnExactConstantsSpec)

/-- 'laws.FnExactAddGf', WHERE WHAT IT READS IS OF BULK AT MOST 1048576: true; the input reads as it did. -/
def fnExactAddGfUptoRow : OpenClaim := { program := "ythaffjolcghkoaa", sum := "2d00ec3e3c2e6f3c58113c31a7cd4e8c0a72122f6b9fdb3b4718cca70b4eb3d8", func := "loop.example/g00405/laws.FnExactAddGf", spec := "fnExactAddGf", apart := false, narrowed := true }
def FnExactAddGfUptoSaid : Prop := fnExactAddGfUptoRow.holds Try.pinned (OpenSpec.upto fnExactAddGfSpec)

/-- 'laws.FnExactGoodFrame', WHERE WHAT IT READS IS OF BULK AT MOST 1048576: true; the input reads as it did. -/
def fnExactGoodFrameUptoRow : OpenClaim := { program := "ythaffjolcghkoaa", sum := "2d00ec3e3c2e6f3c58113c31a7cd4e8c0a72122f6b9fdb3b4718cca70b4eb3d8", func := "loop.example/g00405/laws.FnExactGoodFrame", spec := "fnExactGoodFrame", apart := false, narrowed := true }
def FnExactGoodFrameUptoSaid : Prop := fnExactGoodFrameUptoRow.holds Try.pinned (OpenSpec.upto fnExactGoodFrameSpec)

/-- 'laws.FnExactBurstAt', WHERE WHAT IT READS IS OF BULK AT MOST 1048576: true; the input reads as it did. -/
def fnExactBurstAtUptoRow : OpenClaim := { program := "ythaffjolcghkoaa", sum := "2d00ec3e3c2e6f3c58113c31a7cd4e8c0a72122f6b9fdb3b4718cca70b4eb3d8", func := "loop.example/g00405/laws.FnExactBurstAt", spec := "fnExactBurstAt", apart := false, narrowed := true }
def FnExactBurstAtUptoSaid : Prop := fnExactBurstAtUptoRow.holds Try.pinned (OpenSpec.upto fnExactBurstAtSpec)

/-- 'laws.FnExactMulGf', WHERE WHAT IT READS IS OF BULK AT MOST 1048576: true; the input reads as it did. -/
def fnExactMulGfUptoRow : OpenClaim := { program := "ythaffjolcghkoaa", sum := "2d00ec3e3c2e6f3c58113c31a7cd4e8c0a72122f6b9fdb3b4718cca70b4eb3d8", func := "loop.example/g00405/laws.FnExactMulGf", spec := "fnExactMulGf", apart := false, narrowed := true }
def FnExactMulGfUptoSaid : Prop := fnExactMulGfUptoRow.holds Try.pinned (OpenSpec.upto fnExactMulGfSpec)

/-- 'laws.FnExactJoinSums', WHERE WHAT IT READS IS OF BULK AT MOST 1048576: true; the input reads as it did. -/
def fnExactJoinSumsUptoRow : OpenClaim := { program := "ythaffjolcghkoaa", sum := "2d00ec3e3c2e6f3c58113c31a7cd4e8c0a72122f6b9fdb3b4718cca70b4eb3d8", func := "loop.example/g00405/laws.FnExactJoinSums", spec := "fnExactJoinSums", apart := false, narrowed := true }
def FnExactJoinSumsUptoSaid : Prop := fnExactJoinSumsUptoRow.holds Try.pinned (OpenSpec.upto fnExactJoinSumsSpec)

/-- 'laws.FnExactOrderGf', WHERE WHAT IT READS IS OF BULK AT MOST 1048576: true; the input reads as it did. -/
def fnExactOrderGfUptoRow : OpenClaim := { program := "ythaffjolcghkoaa", sum := "2d00ec3e3c2e6f3c58113c31a7cd4e8c0a72122f6b9fdb3b4718cca70b4eb3d8", func := "loop.example/g00405/laws.FnExactOrderGf", spec := "fnExactOrderGf", apart := false, narrowed := true }
def FnExactOrderGfUptoSaid : Prop := fnExactOrderGfUptoRow.holds Try.pinned (OpenSpec.upto fnExactOrderGfSpec)

/-- 'laws.FnExactZeroSum', WHERE WHAT IT READS IS OF BULK AT MOST 1048576: true; the input reads as it did. -/
def fnExactZeroSumUptoRow : OpenClaim := { program := "ythaffjolcghkoaa", sum := "2d00ec3e3c2e6f3c58113c31a7cd4e8c0a72122f6b9fdb3b4718cca70b4eb3d8", func := "loop.example/g00405/laws.FnExactZeroSum", spec := "fnExactZeroSum", apart := false, narrowed := true }
def FnExactZeroSumUptoSaid : Prop := fnExactZeroSumUptoRow.holds Try.pinned (OpenSpec.upto fnExactZeroSumSpec)

/-- 'laws.FnExactPatchSum', WHERE WHAT IT READS IS OF BULK AT MOST 1048576: true; the input reads as it did. -/
def fnExactPatchSumUptoRow : OpenClaim := { program := "ythaffjolcghkoaa", sum := "2d00ec3e3c2e6f3c58113c31a7cd4e8c0a72122f6b9fdb3b4718cca70b4eb3d8", func := "loop.example/g00405/laws.FnExactPatchSum", spec := "fnExactPatchSum", apart := false, narrowed := true }
def FnExactPatchSumUptoSaid : Prop := fnExactPatchSumUptoRow.holds Try.pinned (OpenSpec.upto fnExactPatchSumSpec)

/-- 'laws.FnExactCanDecode', WHERE WHAT IT READS IS OF BULK AT MOST 1048576: true; the input reads as it did. -/
def fnExactCanDecodeUptoRow : OpenClaim := { program := "ythaffjolcghkoaa", sum := "2d00ec3e3c2e6f3c58113c31a7cd4e8c0a72122f6b9fdb3b4718cca70b4eb3d8", func := "loop.example/g00405/laws.FnExactCanDecode", spec := "fnExactCanDecode", apart := false, narrowed := true }
def FnExactCanDecodeUptoSaid : Prop := fnExactCanDecodeUptoRow.holds Try.pinned (OpenSpec.upto fnExactCanDecodeSpec)

/-- 'laws.FnExactSumOn', WHERE WHAT IT READS IS OF BULK AT MOST 1048576: true; the input reads as it did. -/
def fnExactSumOnUptoRow : OpenClaim := { program := "ythaffjolcghkoaa", sum := "2d00ec3e3c2e6f3c58113c31a7cd4e8c0a72122f6b9fdb3b4718cca70b4eb3d8", func := "loop.example/g00405/laws.FnExactSumOn", spec := "fnExactSumOn", apart := false, narrowed := true }
def FnExactSumOnUptoSaid : Prop := fnExactSumOnUptoRow.holds Try.pinned (OpenSpec.upto fnExactSumOnSpec)

/-- 'laws.FnExactSumOf', WHERE WHAT IT READS IS OF BULK AT MOST 1048576: true; the input reads as it did. -/
def fnExactSumOfUptoRow : OpenClaim := { program := "ythaffjolcghkoaa", sum := "2d00ec3e3c2e6f3c58113c31a7cd4e8c0a72122f6b9fdb3b4718cca70b4eb3d8", func := "loop.example/g00405/laws.FnExactSumOf", spec := "fnExactSumOf", apart := false, narrowed := true }
def FnExactSumOfUptoSaid : Prop := fnExactSumOfUptoRow.holds Try.pinned (OpenSpec.upto fnExactSumOfSpec)

end Rows
end Go.Proofs.Ythaffjolcghkoaa
