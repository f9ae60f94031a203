/-
  No cell of these rows narrows 'for every input' (looked for: loops, veiled, ifaces, maps, wideKeys, modest, calm, conditions, laid).
  DERIVED. THE GIVEN ROWS OF THIS SEAT. 12 by the template 'for every input the law returns true; each argument reads behind the call as it read before'; 0 by the template 'total and deterministic' (their statements: YtgchbajhceddnaaTotals.lean).
  GIVEN WITH THE SEED: the statements are not yours to turn. If you find one false, say at which input.
  Laid BY PROGRAM, IN A SANDBOX (cutbox-rows.mjs): the forced cells as the released guide's own fill.sh prints them over the translation 7076ba5e7bda1472… (all of the seat's roots in one cut). By AI agents, Wed Nov 11 2026. No macro, syntax, notation, axiom, sorry.
-/
import Derived.Test.YtgchbajhceddnaaChecked
import GoSem.Claim
import GoSem.ClaimJoined
import GoSem.ClaimMapViews
import Derived.JoinedTies
import Derived.KernelRfl
namespace Go.Proofs.Ytgchbajhceddnaa
/- THE CELL 'sum', in the pinned program and in every row, IS THE sha256 OF THE DUMP (.gsa) THAT YtgchbajhceddnaaProg.lean LOADS. Nothing in Lean hashes anything: it is a label: what it is worth is what the hold of that sum in a sandbox is worth. -/
noncomputable def Try.pinned : Pinned := { name := "ytgchbajhceddnaa", sum := "7076ba5e7bda1472d322c18a23f8b755c1b38e16f55d171254a0654e9823cd51", checked := Try.checked }
namespace Rows
def none {H : Type} : Left H := { results := [], args := [] }

/-- 'laws.FnExactNeededRatio': WHATEVER THE INPUT: true; the input reads as it did. -/
def fnExactNeededRatioSpec : ChangeSpec := { name := "fnExactNeededRatio", fn := fun _ => fun
  | [d1, d2] => { results := [.lit (.bool true)], args := [d1, d2] }
  | _ => none }
def fnExactNeededRatioRow : OpenClaim := { program := "ytgchbajhceddnaa", sum := "7076ba5e7bda1472d322c18a23f8b755c1b38e16f55d171254a0654e9823cd51", func := "loop.example/g00852/laws.FnExactNeededRatio", spec := "fnExactNeededRatio", apart := false }
def FnExactNeededRatioSaid : Prop := fnExactNeededRatioRow.holds Try.pinned (OpenSpec.ofChange fnExactNeededRatioSpec)

/-- ITS FALSE NEIGHBOUR: 'it returns false'. Refute it at one input. -/
def fnExactNeededRatioWrong : ChangeSpec := { name := "fnExactNeededRatio", fn := fun _ => fun
  | [d1, d2] => { results := [.lit (.bool false)], args := [d1, d2] }
  | _ => none }
def FnExactNeededRatioWrongFalsely : Prop := fnExactNeededRatioRow.holds Try.pinned (OpenSpec.ofChange fnExactNeededRatioWrong)

/-- 'laws.FnExactIsCompressor': WHATEVER THE INPUT: true; the input reads as it did. -/
def fnExactIsCompressorSpec : ChangeSpec := { name := "fnExactIsCompressor", fn := fun _ => fun
  | [d] => { results := [.lit (.bool true)], args := [d] }
  | _ => none }
def fnExactIsCompressorRow : OpenClaim := { program := "ytgchbajhceddnaa", sum := "7076ba5e7bda1472d322c18a23f8b755c1b38e16f55d171254a0654e9823cd51", func := "loop.example/g00852/laws.FnExactIsCompressor", spec := "fnExactIsCompressor", apart := false }
def FnExactIsCompressorSaid : Prop := fnExactIsCompressorRow.holds Try.pinned (OpenSpec.ofChange fnExactIsCompressorSpec)

/-- ITS FALSE NEIGHBOUR: 'it returns false'. Refute it at one input. -/
def fnExactIsCompressorWrong : ChangeSpec := { name := "fnExactIsCompressor", fn := fun _ => fun
  | [d] => { results := [.lit (.bool false)], args := [d] }
  | _ => none }
def FnExactIsCompressorWrongFalsely : Prop := fnExactIsCompressorRow.holds Try.pinned (OpenSpec.ofChange fnExactIsCompressorWrong)

/-- 'laws.FnExactIsPossible': WHATEVER THE INPUT: true; the input reads as it did. -/
def fnExactIsPossibleSpec : ChangeSpec := { name := "fnExactIsPossible", fn := fun _ => fun
  | [d1, d2, d3] => { results := [.lit (.bool true)], args := [d1, d2, d3] }
  | _ => none }
def fnExactIsPossibleRow : OpenClaim := { program := "ytgchbajhceddnaa", sum := "7076ba5e7bda1472d322c18a23f8b755c1b38e16f55d171254a0654e9823cd51", func := "loop.example/g00852/laws.FnExactIsPossible", spec := "fnExactIsPossible", apart := false }
def FnExactIsPossibleSaid : Prop := fnExactIsPossibleRow.holds Try.pinned (OpenSpec.ofChange fnExactIsPossibleSpec)

/-- ITS FALSE NEIGHBOUR: 'it returns false'. Refute it at one input. -/
def fnExactIsPossibleWrong : ChangeSpec := { name := "fnExactIsPossible", fn := fun _ => fun
  | [d1, d2, d3] => { results := [.lit (.bool false)], args := [d1, d2, d3] }
  | _ => none }
def FnExactIsPossibleWrongFalsely : Prop := fnExactIsPossibleRow.holds Try.pinned (OpenSpec.ofChange fnExactIsPossibleWrong)

/-- 'laws.FnExactFuelFor': WHATEVER THE INPUT: true; the input reads as it did. -/
def fnExactFuelForSpec : ChangeSpec := { name := "fnExactFuelFor", fn := fun _ => fun
  | [d1, d2, d3] => { results := [.lit (.bool true)], args := [d1, d2, d3] }
  | _ => none }
def fnExactFuelForRow : OpenClaim := { program := "ytgchbajhceddnaa", sum := "7076ba5e7bda1472d322c18a23f8b755c1b38e16f55d171254a0654e9823cd51", func := "loop.example/g00852/laws.FnExactFuelFor", spec := "fnExactFuelFor", apart := false }
def FnExactFuelForSaid : Prop := fnExactFuelForRow.holds Try.pinned (OpenSpec.ofChange fnExactFuelForSpec)

/-- ITS FALSE NEIGHBOUR: 'it returns false'. Refute it at one input. -/
def fnExactFuelForWrong : ChangeSpec := { name := "fnExactFuelFor", fn := fun _ => fun
  | [d1, d2, d3] => { results := [.lit (.bool false)], args := [d1, d2, d3] }
  | _ => none }
def FnExactFuelForWrongFalsely : Prop := fnExactFuelForRow.holds Try.pinned (OpenSpec.ofChange fnExactFuelForWrong)

/-- 'laws.FnExactFlowRange': WHATEVER THE INPUT: true; the input reads as it did. -/
def fnExactFlowRangeSpec : ChangeSpec := { name := "fnExactFlowRange", fn := fun _ => fun
  | [d1, d2] => { results := [.lit (.bool true)], args := [d1, d2] }
  | _ => none }
def fnExactFlowRangeRow : OpenClaim := { program := "ytgchbajhceddnaa", sum := "7076ba5e7bda1472d322c18a23f8b755c1b38e16f55d171254a0654e9823cd51", func := "loop.example/g00852/laws.FnExactFlowRange", spec := "fnExactFlowRange", apart := false }
def FnExactFlowRangeSaid : Prop := fnExactFlowRangeRow.holds Try.pinned (OpenSpec.ofChange fnExactFlowRangeSpec)

/-- ITS FALSE NEIGHBOUR: 'it returns false'. Refute it at one input. -/
def fnExactFlowRangeWrong : ChangeSpec := { name := "fnExactFlowRange", fn := fun _ => fun
  | [d1, d2] => { results := [.lit (.bool false)], args := [d1, d2] }
  | _ => none }
def FnExactFlowRangeWrongFalsely : Prop := fnExactFlowRangeRow.holds Try.pinned (OpenSpec.ofChange fnExactFlowRangeWrong)

/-- 'laws.FnExactTightFaces': WHATEVER THE INPUT: true; the input reads as it did. -/
def fnExactTightFacesSpec : ChangeSpec := { name := "fnExactTightFaces", fn := fun _ => fun
  | [d1, d2, d3] => { results := [.lit (.bool true)], args := [d1, d2, d3] }
  | _ => none }
def fnExactTightFacesRow : OpenClaim := { program := "ytgchbajhceddnaa", sum := "7076ba5e7bda1472d322c18a23f8b755c1b38e16f55d171254a0654e9823cd51", func := "loop.example/g00852/laws.FnExactTightFaces", spec := "fnExactTightFaces", apart := false }
def FnExactTightFacesSaid : Prop := fnExactTightFacesRow.holds Try.pinned (OpenSpec.ofChange fnExactTightFacesSpec)

/-- ITS FALSE NEIGHBOUR: 'it returns false'. Refute it at one input. -/
def fnExactTightFacesWrong : ChangeSpec := { name := "fnExactTightFaces", fn := fun _ => fun
  | [d1, d2, d3] => { results := [.lit (.bool false)], args := [d1, d2, d3] }
  | _ => none }
def FnExactTightFacesWrongFalsely : Prop := fnExactTightFacesRow.holds Try.pinned (OpenSpec.ofChange fnExactTightFacesWrong)

/-- 'laws.FnExactRatioRange': WHATEVER THE INPUT: true; the input reads as it did. -/
def fnExactRatioRangeSpec : ChangeSpec := { name := "fnExactRatioRange", fn := fun _ => fun
  | [d1, d2] => { results := [.lit (.bool true)], args := [d1, d2] }
  | _ => none }
def fnExactRatioRangeRow : OpenClaim := { program := "ytgchbajhceddnaa", sum := "7076ba5e7bda1472d322c18a23f8b755c1b38e16f55d171254a0654e9823cd51", func := "loop.example/g00852/laws.FnExactRatioRange", spec := "fnExactRatioRange", apart := false }
def FnExactRatioRangeSaid : Prop := fnExactRatioRangeRow.holds Try.pinned (OpenSpec.ofChange fnExactRatioRangeSpec)

/-- ITS FALSE NEIGHBOUR: 'it returns false'. Refute it at one input. -/
def fnExactRatioRangeWrong : ChangeSpec := { name := "fnExactRatioRange", fn := fun _ => fun
  | [d1, d2] => { results := [.lit (.bool false)], args := [d1, d2] }
  | _ => none }
def FnExactRatioRangeWrongFalsely : Prop := fnExactRatioRangeRow.holds Try.pinned (OpenSpec.ofChange fnExactRatioRangeWrong)

/-- 'laws.FnFlowRanges': WHATEVER THE INPUT: true; the input reads as it did. -/
def fnFlowRangesSpec : ChangeSpec := { name := "fnFlowRanges", fn := fun _ => fun
  | [d] => { results := [.lit (.bool true)], args := [d] }
  | _ => none }
def fnFlowRangesRow : OpenClaim := { program := "ytgchbajhceddnaa", sum := "7076ba5e7bda1472d322c18a23f8b755c1b38e16f55d171254a0654e9823cd51", func := "loop.example/g00852/laws.FnFlowRanges", spec := "fnFlowRanges", apart := false }
def FnFlowRangesSaid : Prop := fnFlowRangesRow.holds Try.pinned (OpenSpec.ofChange fnFlowRangesSpec)

/-- ITS FALSE NEIGHBOUR: 'it returns false'. Refute it at one input. -/
def fnFlowRangesWrong : ChangeSpec := { name := "fnFlowRanges", fn := fun _ => fun
  | [d] => { results := [.lit (.bool false)], args := [d] }
  | _ => none }
def FnFlowRangesWrongFalsely : Prop := fnFlowRangesRow.holds Try.pinned (OpenSpec.ofChange fnFlowRangesWrong)

/-- 'laws.FnEnvelopes': WHATEVER THE INPUT: true; the input reads as it did. -/
def fnEnvelopesSpec : ChangeSpec := { name := "fnEnvelopes", fn := fun _ => fun
  | [d] => { results := [.lit (.bool true)], args := [d] }
  | _ => none }
def fnEnvelopesRow : OpenClaim := { program := "ytgchbajhceddnaa", sum := "7076ba5e7bda1472d322c18a23f8b755c1b38e16f55d171254a0654e9823cd51", func := "loop.example/g00852/laws.FnEnvelopes", spec := "fnEnvelopes", apart := false }
def FnEnvelopesSaid : Prop := fnEnvelopesRow.holds Try.pinned (OpenSpec.ofChange fnEnvelopesSpec)

/-- ITS FALSE NEIGHBOUR: 'it returns false'. Refute it at one input. -/
def fnEnvelopesWrong : ChangeSpec := { name := "fnEnvelopes", fn := fun _ => fun
  | [d] => { results := [.lit (.bool false)], args := [d] }
  | _ => none }
def FnEnvelopesWrongFalsely : Prop := fnEnvelopesRow.holds Try.pinned (OpenSpec.ofChange fnEnvelopesWrong)

/-- 'laws.FnTightFaces': WHATEVER THE INPUT: true; the input reads as it did. -/
def fnTightFacesSpec : ChangeSpec := { name := "fnTightFaces", fn := fun _ => fun
  | [d] => { results := [.lit (.bool true)], args := [d] }
  | _ => none }
def fnTightFacesRow : OpenClaim := { program := "ytgchbajhceddnaa", sum := "7076ba5e7bda1472d322c18a23f8b755c1b38e16f55d171254a0654e9823cd51", func := "loop.example/g00852/laws.FnTightFaces", spec := "fnTightFaces", apart := false }
def FnTightFacesSaid : Prop := fnTightFacesRow.holds Try.pinned (OpenSpec.ofChange fnTightFacesSpec)

/-- ITS FALSE NEIGHBOUR: 'it returns false'. Refute it at one input. -/
def fnTightFacesWrong : ChangeSpec := { name := "fnTightFaces", fn := fun _ => fun
  | [d] => { results := [.lit (.bool false)], args := [d] }
  | _ => none }
def FnTightFacesWrongFalsely : Prop := fnTightFacesRow.holds Try.pinned (OpenSpec.ofChange fnTightFacesWrong)

/-- 'laws.FnExactLift': WHATEVER THE INPUT: true; the input reads as it did. -/
def fnExactLiftSpec : ChangeSpec := { name := "fnExactLift", fn := fun _ => fun
  | [d1, d2, d3, d4] => { results := [.lit (.bool true)], args := [d1, d2, d3, d4] }
  | _ => none }
def fnExactLiftRow : OpenClaim := { program := "ytgchbajhceddnaa", sum := "7076ba5e7bda1472d322c18a23f8b755c1b38e16f55d171254a0654e9823cd51", func := "loop.example/g00852/laws.FnExactLift", spec := "fnExactLift", apart := false }
def FnExactLiftSaid : Prop := fnExactLiftRow.holds Try.pinned (OpenSpec.ofChange fnExactLiftSpec)

/-- ITS FALSE NEIGHBOUR: 'it returns false'. Refute it at one input. -/
def fnExactLiftWrong : ChangeSpec := { name := "fnExactLift", fn := fun _ => fun
  | [d1, d2, d3, d4] => { results := [.lit (.bool false)], args := [d1, d2, d3, d4] }
  | _ => none }
def FnExactLiftWrongFalsely : Prop := fnExactLiftRow.holds Try.pinned (OpenSpec.ofChange fnExactLiftWrong)

/-- 'laws.FnLifts': WHATEVER THE INPUT: true; the input reads as it did. -/
def fnLiftsSpec : ChangeSpec := { name := "fnLifts", fn := fun _ => fun
  | [d] => { results := [.lit (.bool true)], args := [d] }
  | _ => none }
def fnLiftsRow : OpenClaim := { program := "ytgchbajhceddnaa", sum := "7076ba5e7bda1472d322c18a23f8b755c1b38e16f55d171254a0654e9823cd51", func := "loop.example/g00852/laws.FnLifts", spec := "fnLifts", apart := false }
def FnLiftsSaid : Prop := fnLiftsRow.holds Try.pinned (OpenSpec.ofChange fnLiftsSpec)

/-- ITS FALSE NEIGHBOUR: 'it returns false'. Refute it at one input. -/
def fnLiftsWrong : ChangeSpec := { name := "fnLifts", fn := fun _ => fun
  | [d] => { results := [.lit (.bool false)], args := [d] }
  | _ => none }
def FnLiftsWrongFalsely : Prop := fnLiftsRow.holds Try.pinned (OpenSpec.ofChange fnLiftsWrong)

/- THE SECOND FORM. 'bulk': how many values and letters a reading holds, each counted each time it is reached (what is shared counts as often as it is met; a slice's spare places count too). A statement '..UptoSaid' is the law's where the arguments, and the package variables that the reading takes, are together of bulk at most 1048576: NARROWER than '..Said'. Prove '..Said' where nothing that the law and all that it calls make is longer than what came in: it says more and counts as full. Else prove '..UptoSaid'. A law counts once. -/
mutual
def uptoBulk {H : Type} : DataW H → Nat
  | .lit (.string bytes) => bytes.length + 1
  | .lit _ => 1
  | .nil => 1
  | .ptr d => uptoBulk d + 1
  | .slice elems spare => uptoBulkAll elems + uptoBulkAll spare + 1
  | .agg parts => uptoBulkAll parts + 1
  | .iface _ d => uptoBulk d + 1
  | .map entries => uptoBulkEntries entries + 1
  | .held _ => 1
def uptoBulkAll {H : Type} : List (DataW H) → Nat
  | [] => 0
  | d :: r => uptoBulk d + uptoBulkAll r
def uptoBulkEntries {H : Type} : List (Lit × DataW H) → Nat
  | [] => 0
  | x :: r => uptoBulkEntry x + uptoBulkEntries r
def uptoBulkEntry {H : Type} : Lit × DataW H → Nat
  | (.string bytes, d) => bytes.length + uptoBulk d + 1
  | (_, d) => uptoBulk d + 1
 end
def uptoSmall : (H : Type) → List (DataW H) → Bool := fun _ ds => decide (uptoBulkAll ds ≤ 1048576)
def OpenSpec.upto (s : _root_.Go.ChangeSpec) : _root_.Go.OpenSpec := { _root_.Go.OpenSpec.ofChange s with cond := some uptoSmall }

/-- 'laws.FnExactNeededRatio', WHERE WHAT IT READS IS OF BULK AT MOST 1048576: true; the input reads as it did. -/
def fnExactNeededRatioUptoRow : OpenClaim := { program := "ytgchbajhceddnaa", sum := "7076ba5e7bda1472d322c18a23f8b755c1b38e16f55d171254a0654e9823cd51", func := "loop.example/g00852/laws.FnExactNeededRatio", spec := "fnExactNeededRatio", apart := false, narrowed := true }
def FnExactNeededRatioUptoSaid : Prop := fnExactNeededRatioUptoRow.holds Try.pinned (OpenSpec.upto fnExactNeededRatioSpec)

/-- 'laws.FnExactIsCompressor', WHERE WHAT IT READS IS OF BULK AT MOST 1048576: true; the input reads as it did. -/
def fnExactIsCompressorUptoRow : OpenClaim := { program := "ytgchbajhceddnaa", sum := "7076ba5e7bda1472d322c18a23f8b755c1b38e16f55d171254a0654e9823cd51", func := "loop.example/g00852/laws.FnExactIsCompressor", spec := "fnExactIsCompressor", apart := false, narrowed := true }
def FnExactIsCompressorUptoSaid : Prop := fnExactIsCompressorUptoRow.holds Try.pinned (OpenSpec.upto fnExactIsCompressorSpec)

/-- 'laws.FnExactIsPossible', WHERE WHAT IT READS IS OF BULK AT MOST 1048576: true; the input reads as it did. -/
def fnExactIsPossibleUptoRow : OpenClaim := { program := "ytgchbajhceddnaa", sum := "7076ba5e7bda1472d322c18a23f8b755c1b38e16f55d171254a0654e9823cd51", func := "loop.example/g00852/laws.FnExactIsPossible", spec := "fnExactIsPossible", apart := false, narrowed := true }
def FnExactIsPossibleUptoSaid : Prop := fnExactIsPossibleUptoRow.holds Try.pinned (OpenSpec.upto fnExactIsPossibleSpec)

/-- 'laws.FnExactFuelFor', WHERE WHAT IT READS IS OF BULK AT MOST 1048576: true; the input reads as it did. -/
def fnExactFuelForUptoRow : OpenClaim := { program := "ytgchbajhceddnaa", sum := "7076ba5e7bda1472d322c18a23f8b755c1b38e16f55d171254a0654e9823cd51", func := "loop.example/g00852/laws.FnExactFuelFor", spec := "fnExactFuelFor", apart := false, narrowed := true }
def FnExactFuelForUptoSaid : Prop := fnExactFuelForUptoRow.holds Try.pinned (OpenSpec.upto fnExactFuelForSpec)

/-- 'laws.FnExactFlowRange', WHERE WHAT IT READS IS OF BULK AT MOST 1048576: true; the input reads as it did. -/
def fnExactFlowRangeUptoRow : OpenClaim := { program := "ytgchbajhceddnaa", sum := "7076ba5e7bda1472d322c18a23f8b755c1b38e16f55d171254a0654e9823cd51", func := "loop.example/g00852/laws.FnExactFlowRange", spec := "fnExactFlowRange", apart := false, narrowed := true }
def FnExactFlowRangeUptoSaid : Prop := fnExactFlowRangeUptoRow.holds Try.pinned (OpenSpec.upto fnExactFlowRangeSpec)

/-- 'laws.FnExactTightFaces', WHERE WHAT IT READS IS OF BULK AT MOST 1048576: true; the input reads as it did. -/
def fnExactTightFacesUptoRow : OpenClaim := { program := "ytgchbajhceddnaa", sum := "7076ba5e7bda1472d322c18a23f8b755c1b38e16f55d171254a0654e9823cd51", func := "loop.example/g00852/laws.FnExactTightFaces", spec := "fnExactTightFaces", apart := false, narrowed := true }
def FnExactTightFacesUptoSaid : Prop := fnExactTightFacesUptoRow.holds Try.pinned (OpenSpec.upto fnExactTightFacesSpec)

/-- 'laws.FnExactRatioRange', WHERE WHAT IT READS IS OF BULK AT MOST 1048576: true; the input reads as it did. -/
def fnExactRatioRangeUptoRow : OpenClaim := { program := "ytgchbajhceddnaa", sum := "7076ba5e7bda1472d322c18a23f8b755c1b38e16f55d171254a0654e9823cd51", func := "loop.example/g00852/laws.FnExactRatioRange", spec := "fnExactRatioRange", apart := false, narrowed := true }
def FnExactRatioRangeUptoSaid : Prop := fnExactRatioRangeUptoRow.holds Try.pinned (OpenSpec.upto fnExactRatioRangeSpec)

/-- 'laws.FnFlowRanges', WHERE WHAT IT READS IS OF BULK AT MOST 1048576: true; the input reads as it did. -/
def fnFlowRangesUptoRow : OpenClaim := { program := "ytgchbajhceddnaa", sum := "7076ba5e7bda1472d322c18a23f8b755c1b38e16f55d171254a0654e9823cd51", func := "loop.example/g00852/laws.FnFlowRanges", spec := "fnFlowRanges", apart := false, narrowed := true }
def FnFlowRangesUptoSaid : Prop := fnFlowRangesUptoRow.holds Try.pinned (OpenSpec.upto fnFlowRangesSpec)

/-- 'laws.FnEnvelopes', WHERE WHAT IT READS IS OF BULK AT MOST 1048576: true; the input reads as it did. -/
def fnEnvelopesUptoRow : OpenClaim := { program := "ytgchbajhceddnaa", sum := "7076ba5e7bda1472d322c18a23f8b755c1b38e16f55d171254a0654e9823cd51", func := "loop.example/g00852/laws.FnEnvelopes", spec := "fnEnvelopes", apart := false, narrowed := true }
def FnEnvelopesUptoSaid : Prop := fnEnvelopesUptoRow.holds Try.pinned (OpenSpec.upto fnEnvelopesSpec)

/-- 'laws.FnTightFaces', WHERE WHAT IT READS IS OF BULK AT MOST 1048576: true; the input reads as it did. -/
def fnTightFacesUptoRow : OpenClaim := { program := "ytgchbajhceddnaa", sum := "7076ba5e7bda1472d322c18a23f8b755c1b38e16f55d171254a0654e9823cd51", func := "loop.example/g00852/laws.FnTightFaces", spec := "fnTightFaces", apart := false, narrowed := true }
def FnTightFacesUptoSaid : Prop := fnTightFacesUptoRow.holds Try.pinned (OpenSpec.upto fnTightFacesSpec)

/-- 'laws.FnExactLift', WHERE WHAT IT READS IS OF BULK AT MOST 1048576: true; the input reads as it did. -/
def fnExactLiftUptoRow : OpenClaim := { program := "ytgchbajhceddnaa", sum := "7076ba5e7bda1472d322c18a23f8b755c1b38e16f55d171254a0654e9823cd51", func := "loop.example/g00852/laws.FnExactLift", spec := "fnExactLift", apart := false, narrowed := true }
def FnExactLiftUptoSaid : Prop := fnExactLiftUptoRow.holds Try.pinned (OpenSpec.upto fnExactLiftSpec)

/-- 'laws.FnLifts', WHERE WHAT IT READS IS OF BULK AT MOST 1048576: true; the input reads as it did. -/
def fnLiftsUptoRow : OpenClaim := { program := "ytgchbajhceddnaa", sum := "7076ba5e7bda1472d322c18a23f8b755c1b38e16f55d171254a0654e9823cd51", func := "loop.example/g00852/laws.FnLifts", spec := "fnLifts", apart := false, narrowed := true }
def FnLiftsUptoSaid : Prop := fnLiftsUptoRow.holds Try.pinned (OpenSpec.upto fnLiftsSpec)

end Rows
end Go.Proofs.Ytgchbajhceddnaa
