/-
  No cell of these rows narrows 'for every input' (looked for: loops, veiled, ifaces, maps, wideKeys, modest, calm, conditions, laid).
  DERIVED. THE GIVEN ROWS OF THIS SEAT. 11 by the template 'for every input the law returns true; each argument reads behind the call as it read before'; 0 by the template 'total and deterministic' (their statements: YtpgegfnhokhlmaaGreatTotals.lean).
  GIVEN WITH THE SEED: the statements are not yours to turn. If you find one false, say at which input.
  Laid BY PROGRAM, IN A SANDBOX (cutbox-rows.mjs): the forced cells as the released guide's own fill.sh prints them over the translation 82f5d924b4506513… (all of the seat's roots in one cut). By AI agents, Wed Nov 11 2026. No macro, syntax, notation, axiom, sorry.
-/
import Derived.Test.YtpgegfnhokhlmaaGreatChecked
import GoSem.Claim
import GoSem.ClaimJoined
import GoSem.ClaimMapViews
import Derived.JoinedTies
import Derived.KernelRfl
namespace Go.Proofs.YtpgegfnhokhlmaaGreat
/- THE CELL 'sum', in the pinned program and in every row, IS THE sha256 OF THE DUMP (.gsa) THAT YtpgegfnhokhlmaaGreatProg.lean LOADS. Nothing in Lean hashes anything: it is a label: what it is worth is what the hold of that sum in a sandbox is worth. -/
noncomputable def Tryz.pinned : Pinned := { name := "ytpgegfnhokhlmaagreat", sum := "82f5d924b45065131e70e2ff3a943ae9bcdd9dc8fcfb4a522de3eaa9f705cee7", checked := Tryz.checked }
namespace Rows
def none {H : Type} : Left H := { results := [], args := [] }

/-- 'laws.FnExactMovesNeeded': WHATEVER THE INPUT: true; the input reads as it did. -/
def fnExactMovesNeededSpec : ChangeSpec := { name := "fnExactMovesNeeded", fn := fun _ => fun
  | [d1, d2] => { results := [.lit (.bool true)], args := [d1, d2] }
  | _ => none }
def fnExactMovesNeededRow : OpenClaim := { program := "ytpgegfnhokhlmaagreat", sum := "82f5d924b45065131e70e2ff3a943ae9bcdd9dc8fcfb4a522de3eaa9f705cee7", func := "loop.example/g00852/laws.FnExactMovesNeeded", spec := "fnExactMovesNeeded", unfollowed := true, recurses := true, apart := false }
def FnExactMovesNeededSaid : Prop := fnExactMovesNeededRow.holds Tryz.pinned (OpenSpec.ofChange fnExactMovesNeededSpec)

/-- ITS FALSE NEIGHBOUR: 'it returns false'. Refute it at one input. -/
def fnExactMovesNeededWrong : ChangeSpec := { name := "fnExactMovesNeeded", fn := fun _ => fun
  | [d1, d2] => { results := [.lit (.bool false)], args := [d1, d2] }
  | _ => none }
def FnExactMovesNeededWrongFalsely : Prop := fnExactMovesNeededRow.holds Tryz.pinned (OpenSpec.ofChange fnExactMovesNeededWrong)

/-- 'laws.FnExactRelaxChord': WHATEVER THE INPUT: true; the input reads as it did. -/
def fnExactRelaxChordSpec : ChangeSpec := { name := "fnExactRelaxChord", fn := fun _ => fun
  | [d1, d2, d3] => { results := [.lit (.bool true)], args := [d1, d2, d3] }
  | _ => none }
def fnExactRelaxChordRow : OpenClaim := { program := "ytpgegfnhokhlmaagreat", sum := "82f5d924b45065131e70e2ff3a943ae9bcdd9dc8fcfb4a522de3eaa9f705cee7", func := "loop.example/g00852/laws.FnExactRelaxChord", spec := "fnExactRelaxChord", unfollowed := true, recurses := true, apart := false }
def FnExactRelaxChordSaid : Prop := fnExactRelaxChordRow.holds Tryz.pinned (OpenSpec.ofChange fnExactRelaxChordSpec)

/-- ITS FALSE NEIGHBOUR: 'it returns false'. Refute it at one input. -/
def fnExactRelaxChordWrong : ChangeSpec := { name := "fnExactRelaxChord", fn := fun _ => fun
  | [d1, d2, d3] => { results := [.lit (.bool false)], args := [d1, d2, d3] }
  | _ => none }
def FnExactRelaxChordWrongFalsely : Prop := fnExactRelaxChordRow.holds Tryz.pinned (OpenSpec.ofChange fnExactRelaxChordWrong)

/-- 'laws.FnExactSolveLoops': WHATEVER THE INPUT: true; the input reads as it did. -/
def fnExactSolveLoopsSpec : ChangeSpec := { name := "fnExactSolveLoops", fn := fun _ => fun
  | [d1, d2] => { results := [.lit (.bool true)], args := [d1, d2] }
  | _ => none }
def fnExactSolveLoopsRow : OpenClaim := { program := "ytpgegfnhokhlmaagreat", sum := "82f5d924b45065131e70e2ff3a943ae9bcdd9dc8fcfb4a522de3eaa9f705cee7", func := "loop.example/g00852/laws.FnExactSolveLoops", spec := "fnExactSolveLoops", unfollowed := true, recurses := true, apart := false }
def FnExactSolveLoopsSaid : Prop := fnExactSolveLoopsRow.holds Tryz.pinned (OpenSpec.ofChange fnExactSolveLoopsSpec)

/-- ITS FALSE NEIGHBOUR: 'it returns false'. Refute it at one input. -/
def fnExactSolveLoopsWrong : ChangeSpec := { name := "fnExactSolveLoops", fn := fun _ => fun
  | [d1, d2] => { results := [.lit (.bool false)], args := [d1, d2] }
  | _ => none }
def FnExactSolveLoopsWrongFalsely : Prop := fnExactSolveLoopsRow.holds Tryz.pinned (OpenSpec.ofChange fnExactSolveLoopsWrong)

/-- 'laws.FnExactSolveStep': WHATEVER THE INPUT: true; the input reads as it did. -/
def fnExactSolveStepSpec : ChangeSpec := { name := "fnExactSolveStep", fn := fun _ => fun
  | [d1, d2, d3] => { results := [.lit (.bool true)], args := [d1, d2, d3] }
  | _ => none }
def fnExactSolveStepRow : OpenClaim := { program := "ytpgegfnhokhlmaagreat", sum := "82f5d924b45065131e70e2ff3a943ae9bcdd9dc8fcfb4a522de3eaa9f705cee7", func := "loop.example/g00852/laws.FnExactSolveStep", spec := "fnExactSolveStep", unfollowed := true, recurses := true, apart := false }
def FnExactSolveStepSaid : Prop := fnExactSolveStepRow.holds Tryz.pinned (OpenSpec.ofChange fnExactSolveStepSpec)

/-- ITS FALSE NEIGHBOUR: 'it returns false'. Refute it at one input. -/
def fnExactSolveStepWrong : ChangeSpec := { name := "fnExactSolveStep", fn := fun _ => fun
  | [d1, d2, d3] => { results := [.lit (.bool false)], args := [d1, d2, d3] }
  | _ => none }
def FnExactSolveStepWrongFalsely : Prop := fnExactSolveStepRow.holds Tryz.pinned (OpenSpec.ofChange fnExactSolveStepWrong)

/-- 'laws.FnExactCheckProof': WHATEVER THE INPUT: true; the input reads as it did. -/
def fnExactCheckProofSpec : ChangeSpec := { name := "fnExactCheckProof", fn := fun _ => fun
  | [d1, d2, d3] => { results := [.lit (.bool true)], args := [d1, d2, d3] }
  | _ => none }
def fnExactCheckProofRow : OpenClaim := { program := "ytpgegfnhokhlmaagreat", sum := "82f5d924b45065131e70e2ff3a943ae9bcdd9dc8fcfb4a522de3eaa9f705cee7", func := "loop.example/g00852/laws.FnExactCheckProof", spec := "fnExactCheckProof", unfollowed := true, recurses := true, apart := false }
def FnExactCheckProofSaid : Prop := fnExactCheckProofRow.holds Tryz.pinned (OpenSpec.ofChange fnExactCheckProofSpec)

/-- ITS FALSE NEIGHBOUR: 'it returns false'. Refute it at one input. -/
def fnExactCheckProofWrong : ChangeSpec := { name := "fnExactCheckProof", fn := fun _ => fun
  | [d1, d2, d3] => { results := [.lit (.bool false)], args := [d1, d2, d3] }
  | _ => none }
def FnExactCheckProofWrongFalsely : Prop := fnExactCheckProofRow.holds Tryz.pinned (OpenSpec.ofChange fnExactCheckProofWrong)

/-- 'laws.FnExactReasonOf': WHATEVER THE INPUT: true; the input reads as it did. -/
def fnExactReasonOfSpec : ChangeSpec := { name := "fnExactReasonOf", fn := fun _ => fun
  | [d1, d2] => { results := [.lit (.bool true)], args := [d1, d2] }
  | _ => none }
def fnExactReasonOfRow : OpenClaim := { program := "ytpgegfnhokhlmaagreat", sum := "82f5d924b45065131e70e2ff3a943ae9bcdd9dc8fcfb4a522de3eaa9f705cee7", func := "loop.example/g00852/laws.FnExactReasonOf", spec := "fnExactReasonOf", unfollowed := true, recurses := true, apart := false }
def FnExactReasonOfSaid : Prop := fnExactReasonOfRow.holds Tryz.pinned (OpenSpec.ofChange fnExactReasonOfSpec)

/-- ITS FALSE NEIGHBOUR: 'it returns false'. Refute it at one input. -/
def fnExactReasonOfWrong : ChangeSpec := { name := "fnExactReasonOf", fn := fun _ => fun
  | [d1, d2] => { results := [.lit (.bool false)], args := [d1, d2] }
  | _ => none }
def FnExactReasonOfWrongFalsely : Prop := fnExactReasonOfRow.holds Tryz.pinned (OpenSpec.ofChange fnExactReasonOfWrong)

/-- 'laws.FnExactIsOperable': WHATEVER THE INPUT: true; the input reads as it did. -/
def fnExactIsOperableSpec : ChangeSpec := { name := "fnExactIsOperable", fn := fun _ => fun
  | [d1, d2] => { results := [.lit (.bool true)], args := [d1, d2] }
  | _ => none }
def fnExactIsOperableRow : OpenClaim := { program := "ytpgegfnhokhlmaagreat", sum := "82f5d924b45065131e70e2ff3a943ae9bcdd9dc8fcfb4a522de3eaa9f705cee7", func := "loop.example/g00852/laws.FnExactIsOperable", spec := "fnExactIsOperable", unfollowed := true, recurses := true, apart := false }
def FnExactIsOperableSaid : Prop := fnExactIsOperableRow.holds Tryz.pinned (OpenSpec.ofChange fnExactIsOperableSpec)

/-- ITS FALSE NEIGHBOUR: 'it returns false'. Refute it at one input. -/
def fnExactIsOperableWrong : ChangeSpec := { name := "fnExactIsOperable", fn := fun _ => fun
  | [d1, d2] => { results := [.lit (.bool false)], args := [d1, d2] }
  | _ => none }
def FnExactIsOperableWrongFalsely : Prop := fnExactIsOperableRow.holds Tryz.pinned (OpenSpec.ofChange fnExactIsOperableWrong)

/-- 'laws.FnExactMakeProof': WHATEVER THE INPUT: true; the input reads as it did. -/
def fnExactMakeProofSpec : ChangeSpec := { name := "fnExactMakeProof", fn := fun _ => fun
  | [d1, d2, d3] => { results := [.lit (.bool true)], args := [d1, d2, d3] }
  | _ => none }
def fnExactMakeProofRow : OpenClaim := { program := "ytpgegfnhokhlmaagreat", sum := "82f5d924b45065131e70e2ff3a943ae9bcdd9dc8fcfb4a522de3eaa9f705cee7", func := "loop.example/g00852/laws.FnExactMakeProof", spec := "fnExactMakeProof", unfollowed := true, recurses := true, apart := false }
def FnExactMakeProofSaid : Prop := fnExactMakeProofRow.holds Tryz.pinned (OpenSpec.ofChange fnExactMakeProofSpec)

/-- ITS FALSE NEIGHBOUR: 'it returns false'. Refute it at one input. -/
def fnExactMakeProofWrong : ChangeSpec := { name := "fnExactMakeProof", fn := fun _ => fun
  | [d1, d2, d3] => { results := [.lit (.bool false)], args := [d1, d2, d3] }
  | _ => none }
def FnExactMakeProofWrongFalsely : Prop := fnExactMakeProofRow.holds Tryz.pinned (OpenSpec.ofChange fnExactMakeProofWrong)

/-- 'laws.FnExactOperatingPoint': WHATEVER THE INPUT: true; the input reads as it did. -/
def fnExactOperatingPointSpec : ChangeSpec := { name := "fnExactOperatingPoint", fn := fun _ => fun
  | [d1, d2] => { results := [.lit (.bool true)], args := [d1, d2] }
  | _ => none }
def fnExactOperatingPointRow : OpenClaim := { program := "ytpgegfnhokhlmaagreat", sum := "82f5d924b45065131e70e2ff3a943ae9bcdd9dc8fcfb4a522de3eaa9f705cee7", func := "loop.example/g00852/laws.FnExactOperatingPoint", spec := "fnExactOperatingPoint", unfollowed := true, recurses := true, apart := false }
def FnExactOperatingPointSaid : Prop := fnExactOperatingPointRow.holds Tryz.pinned (OpenSpec.ofChange fnExactOperatingPointSpec)

/-- ITS FALSE NEIGHBOUR: 'it returns false'. Refute it at one input. -/
def fnExactOperatingPointWrong : ChangeSpec := { name := "fnExactOperatingPoint", fn := fun _ => fun
  | [d1, d2] => { results := [.lit (.bool false)], args := [d1, d2] }
  | _ => none }
def FnExactOperatingPointWrongFalsely : Prop := fnExactOperatingPointRow.holds Tryz.pinned (OpenSpec.ofChange fnExactOperatingPointWrong)

/-- 'laws.FnExactLowestPoint': WHATEVER THE INPUT: true; the input reads as it did. -/
def fnExactLowestPointSpec : ChangeSpec := { name := "fnExactLowestPoint", fn := fun _ => fun
  | [d1, d2] => { results := [.lit (.bool true)], args := [d1, d2] }
  | _ => none }
def fnExactLowestPointRow : OpenClaim := { program := "ytpgegfnhokhlmaagreat", sum := "82f5d924b45065131e70e2ff3a943ae9bcdd9dc8fcfb4a522de3eaa9f705cee7", func := "loop.example/g00852/laws.FnExactLowestPoint", spec := "fnExactLowestPoint", unfollowed := true, recurses := true, apart := false }
def FnExactLowestPointSaid : Prop := fnExactLowestPointRow.holds Tryz.pinned (OpenSpec.ofChange fnExactLowestPointSpec)

/-- ITS FALSE NEIGHBOUR: 'it returns false'. Refute it at one input. -/
def fnExactLowestPointWrong : ChangeSpec := { name := "fnExactLowestPoint", fn := fun _ => fun
  | [d1, d2] => { results := [.lit (.bool false)], args := [d1, d2] }
  | _ => none }
def FnExactLowestPointWrongFalsely : Prop := fnExactLowestPointRow.holds Tryz.pinned (OpenSpec.ofChange fnExactLowestPointWrong)

/-- 'laws.FnExactSettledFlows': WHATEVER THE INPUT: true; the input reads as it did. -/
def fnExactSettledFlowsSpec : ChangeSpec := { name := "fnExactSettledFlows", fn := fun _ => fun
  | [d1, d2, d3] => { results := [.lit (.bool true)], args := [d1, d2, d3] }
  | _ => none }
def fnExactSettledFlowsRow : OpenClaim := { program := "ytpgegfnhokhlmaagreat", sum := "82f5d924b45065131e70e2ff3a943ae9bcdd9dc8fcfb4a522de3eaa9f705cee7", func := "loop.example/g00852/laws.FnExactSettledFlows", spec := "fnExactSettledFlows", unfollowed := true, recurses := true, apart := false }
def FnExactSettledFlowsSaid : Prop := fnExactSettledFlowsRow.holds Tryz.pinned (OpenSpec.ofChange fnExactSettledFlowsSpec)

/-- ITS FALSE NEIGHBOUR: 'it returns false'. Refute it at one input. -/
def fnExactSettledFlowsWrong : ChangeSpec := { name := "fnExactSettledFlows", fn := fun _ => fun
  | [d1, d2, d3] => { results := [.lit (.bool false)], args := [d1, d2, d3] }
  | _ => none }
def FnExactSettledFlowsWrongFalsely : Prop := fnExactSettledFlowsRow.holds Tryz.pinned (OpenSpec.ofChange fnExactSettledFlowsWrong)

/- THE SECOND FORM. 'bulk': how many values and letters a reading holds, each counted each time it is reached (what is shared counts as often as it is met; a slice's spare places count too). A statement '..UptoSaid' is the law's where the arguments, and the package variables that the reading takes, are together of bulk at most 1048576: NARROWER than '..Said'. Prove '..Said' where nothing that the law and all that it calls make is longer than what came in: it says more and counts as full. Else prove '..UptoSaid'. A law counts once. -/
mutual
def uptoBulk {H : Type} : DataW H → Nat
  | .lit (.string bytes) => bytes.length + 1
  | .lit _ => 1
  | .nil => 1
  | .ptr d => uptoBulk d + 1
  | .slice elems spare => uptoBulkAll elems + uptoBulkAll spare + 1
  | .agg parts => uptoBulkAll parts + 1
  | .iface _ d => uptoBulk d + 1
  | .map entries => uptoBulkEntries entries + 1
  | .held _ => 1
def uptoBulkAll {H : Type} : List (DataW H) → Nat
  | [] => 0
  | d :: r => uptoBulk d + uptoBulkAll r
def uptoBulkEntries {H : Type} : List (Lit × DataW H) → Nat
  | [] => 0
  | x :: r => uptoBulkEntry x + uptoBulkEntries r
def uptoBulkEntry {H : Type} : Lit × DataW H → Nat
  | (.string bytes, d) => bytes.length + uptoBulk d + 1
  | (_, d) => uptoBulk d + 1
 end
def uptoSmall : (H : Type) → List (DataW H) → Bool := fun _ ds => decide (uptoBulkAll ds ≤ 1048576)
def OpenSpec.upto (s : _root_.Go.ChangeSpec) : _root_.Go.OpenSpec := { _root_.Go.OpenSpec.ofChange s with cond := some uptoSmall }

/-- 'laws.FnExactMovesNeeded', WHERE WHAT IT READS IS OF BULK AT MOST 1048576: true; the input reads as it did. -/
def fnExactMovesNeededUptoRow : OpenClaim := { program := "ytpgegfnhokhlmaagreat", sum := "82f5d924b45065131e70e2ff3a943ae9bcdd9dc8fcfb4a522de3eaa9f705cee7", func := "loop.example/g00852/laws.FnExactMovesNeeded", spec := "fnExactMovesNeeded", unfollowed := true, recurses := true, apart := false, narrowed := true }
def FnExactMovesNeededUptoSaid : Prop := fnExactMovesNeededUptoRow.holds Tryz.pinned (OpenSpec.upto fnExactMovesNeededSpec)

/-- 'laws.FnExactRelaxChord', WHERE WHAT IT READS IS OF BULK AT MOST 1048576: true; the input reads as it did. -/
def fnExactRelaxChordUptoRow : OpenClaim := { program := "ytpgegfnhokhlmaagreat", sum := "82f5d924b45065131e70e2ff3a943ae9bcdd9dc8fcfb4a522de3eaa9f705cee7", func := "loop.example/g00852/laws.FnExactRelaxChord", spec := "fnExactRelaxChord", unfollowed := true, recurses := true, apart := false, narrowed := true }
def FnExactRelaxChordUptoSaid : Prop := fnExactRelaxChordUptoRow.holds Tryz.pinned (OpenSpec.upto fnExactRelaxChordSpec)

/-- 'laws.FnExactSolveLoops', WHERE WHAT IT READS IS OF BULK AT MOST 1048576: true; the input reads as it did. -/
def fnExactSolveLoopsUptoRow : OpenClaim := { program := "ytpgegfnhokhlmaagreat", sum := "82f5d924b45065131e70e2ff3a943ae9bcdd9dc8fcfb4a522de3eaa9f705cee7", func := "loop.example/g00852/laws.FnExactSolveLoops", spec := "fnExactSolveLoops", unfollowed := true, recurses := true, apart := false, narrowed := true }
def FnExactSolveLoopsUptoSaid : Prop := fnExactSolveLoopsUptoRow.holds Tryz.pinned (OpenSpec.upto fnExactSolveLoopsSpec)

/-- 'laws.FnExactSolveStep', WHERE WHAT IT READS IS OF BULK AT MOST 1048576: true; the input reads as it did. -/
def fnExactSolveStepUptoRow : OpenClaim := { program := "ytpgegfnhokhlmaagreat", sum := "82f5d924b45065131e70e2ff3a943ae9bcdd9dc8fcfb4a522de3eaa9f705cee7", func := "loop.example/g00852/laws.FnExactSolveStep", spec := "fnExactSolveStep", unfollowed := true, recurses := true, apart := false, narrowed := true }
def FnExactSolveStepUptoSaid : Prop := fnExactSolveStepUptoRow.holds Tryz.pinned (OpenSpec.upto fnExactSolveStepSpec)

/-- 'laws.FnExactCheckProof', WHERE WHAT IT READS IS OF BULK AT MOST 1048576: true; the input reads as it did. -/
def fnExactCheckProofUptoRow : OpenClaim := { program := "ytpgegfnhokhlmaagreat", sum := "82f5d924b45065131e70e2ff3a943ae9bcdd9dc8fcfb4a522de3eaa9f705cee7", func := "loop.example/g00852/laws.FnExactCheckProof", spec := "fnExactCheckProof", unfollowed := true, recurses := true, apart := false, narrowed := true }
def FnExactCheckProofUptoSaid : Prop := fnExactCheckProofUptoRow.holds Tryz.pinned (OpenSpec.upto fnExactCheckProofSpec)

/-- 'laws.FnExactReasonOf', WHERE WHAT IT READS IS OF BULK AT MOST 1048576: true; the input reads as it did. -/
def fnExactReasonOfUptoRow : OpenClaim := { program := "ytpgegfnhokhlmaagreat", sum := "82f5d924b45065131e70e2ff3a943ae9bcdd9dc8fcfb4a522de3eaa9f705cee7", func := "loop.example/g00852/laws.FnExactReasonOf", spec := "fnExactReasonOf", unfollowed := true, recurses := true, apart := false, narrowed := true }
def FnExactReasonOfUptoSaid : Prop := fnExactReasonOfUptoRow.holds Tryz.pinned (OpenSpec.upto fnExactReasonOfSpec)

/-- 'laws.FnExactIsOperable', WHERE WHAT IT READS IS OF BULK AT MOST 1048576: true; the input reads as it did. -/
def fnExactIsOperableUptoRow : OpenClaim := { program := "ytpgegfnhokhlmaagreat", sum := "82f5d924b45065131e70e2ff3a943ae9bcdd9dc8fcfb4a522de3eaa9f705cee7", func := "loop.example/g00852/laws.FnExactIsOperable", spec := "fnExactIsOperable", unfollowed := true, recurses := true, apart := false, narrowed := true }
def FnExactIsOperableUptoSaid : Prop := fnExactIsOperableUptoRow.holds Tryz.pinned (OpenSpec.upto fnExactIsOperableSpec)

/-- 'laws.FnExactMakeProof', WHERE WHAT IT READS IS OF BULK AT MOST 1048576: true; the input reads as it did. -/
def fnExactMakeProofUptoRow : OpenClaim := { program := "ytpgegfnhokhlmaagreat", sum := "82f5d924b45065131e70e2ff3a943ae9bcdd9dc8fcfb4a522de3eaa9f705cee7", func := "loop.example/g00852/laws.FnExactMakeProof", spec := "fnExactMakeProof", unfollowed := true, recurses := true, apart := false, narrowed := true }
def FnExactMakeProofUptoSaid : Prop := fnExactMakeProofUptoRow.holds Tryz.pinned (OpenSpec.upto fnExactMakeProofSpec)

/-- 'laws.FnExactOperatingPoint', WHERE WHAT IT READS IS OF BULK AT MOST 1048576: true; the input reads as it did. -/
def fnExactOperatingPointUptoRow : OpenClaim := { program := "ytpgegfnhokhlmaagreat", sum := "82f5d924b45065131e70e2ff3a943ae9bcdd9dc8fcfb4a522de3eaa9f705cee7", func := "loop.example/g00852/laws.FnExactOperatingPoint", spec := "fnExactOperatingPoint", unfollowed := true, recurses := true, apart := false, narrowed := true }
def FnExactOperatingPointUptoSaid : Prop := fnExactOperatingPointUptoRow.holds Tryz.pinned (OpenSpec.upto fnExactOperatingPointSpec)

/-- 'laws.FnExactLowestPoint', WHERE WHAT IT READS IS OF BULK AT MOST 1048576: true; the input reads as it did. -/
def fnExactLowestPointUptoRow : OpenClaim := { program := "ytpgegfnhokhlmaagreat", sum := "82f5d924b45065131e70e2ff3a943ae9bcdd9dc8fcfb4a522de3eaa9f705cee7", func := "loop.example/g00852/laws.FnExactLowestPoint", spec := "fnExactLowestPoint", unfollowed := true, recurses := true, apart := false, narrowed := true }
def FnExactLowestPointUptoSaid : Prop := fnExactLowestPointUptoRow.holds Tryz.pinned (OpenSpec.upto fnExactLowestPointSpec)

/-- 'laws.FnExactSettledFlows', WHERE WHAT IT READS IS OF BULK AT MOST 1048576: true; the input reads as it did. -/
def fnExactSettledFlowsUptoRow : OpenClaim := { program := "ytpgegfnhokhlmaagreat", sum := "82f5d924b45065131e70e2ff3a943ae9bcdd9dc8fcfb4a522de3eaa9f705cee7", func := "loop.example/g00852/laws.FnExactSettledFlows", spec := "fnExactSettledFlows", unfollowed := true, recurses := true, apart := false, narrowed := true }
def FnExactSettledFlowsUptoSaid : Prop := fnExactSettledFlowsUptoRow.holds Tryz.pinned (OpenSpec.upto fnExactSettledFlowsSpec)

end Rows
end Go.Proofs.YtpgegfnhokhlmaaGreat
