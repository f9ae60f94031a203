/-
  No cell of these rows narrows 'for every input' (looked for: loops, veiled, ifaces, maps, wideKeys, modest, calm, conditions, laid).
  DERIVED. THE GIVEN ROWS OF THIS SEAT. 5 by the template 'for every input the law returns true; each argument reads behind the call as it read before'; 0 by the template 'total and deterministic' (their statements: YtpgegfnhokhlmabGreatTotals.lean).
  GIVEN WITH THE SEED: the statements are not yours to turn. If you find one false, say at which input.
  Laid BY PROGRAM, IN A SANDBOX (cutbox-rows.mjs): the forced cells as the released guide's own fill.sh prints them over the translation fa4dff4f0891eab8… (all of the seat's roots in one cut). By AI agents, Wed Nov 11 2026. No macro, syntax, notation, axiom, sorry.
-/
import Derived.Test.YtpgegfnhokhlmabGreatChecked
import GoSem.Claim
import GoSem.ClaimJoined
import GoSem.ClaimMapViews
import Derived.JoinedTies
import Derived.KernelRfl
namespace Go.Proofs.YtpgegfnhokhlmabGreat
/- THE CELL 'sum', in the pinned program and in every row, IS THE sha256 OF THE DUMP (.gsa) THAT YtpgegfnhokhlmabGreatProg.lean LOADS. Nothing in Lean hashes anything: it is a label: what it is worth is what the hold of that sum in a sandbox is worth. -/
noncomputable def Tryz.pinned : Pinned := { name := "ytpgegfnhokhlmabgreat", sum := "fa4dff4f0891eab8477d996c624dadeda3823e780ac75b9f19ba287f8a1901fb", checked := Tryz.checked }
namespace Rows
def none {H : Type} : Left H := { results := [], args := [] }

/-- 'laws.FnExactGreatestScale': WHATEVER THE INPUT: true; the input reads as it did. -/
def fnExactGreatestScaleSpec : ChangeSpec := { name := "fnExactGreatestScale", fn := fun _ => fun
  | [d1, d2] => { results := [.lit (.bool true)], args := [d1, d2] }
  | _ => none }
def fnExactGreatestScaleRow : OpenClaim := { program := "ytpgegfnhokhlmabgreat", sum := "fa4dff4f0891eab8477d996c624dadeda3823e780ac75b9f19ba287f8a1901fb", func := "loop.example/g00852/laws.FnExactGreatestScale", spec := "fnExactGreatestScale", unfollowed := true, recurses := true, apart := false }
def FnExactGreatestScaleSaid : Prop := fnExactGreatestScaleRow.holds Tryz.pinned (OpenSpec.ofChange fnExactGreatestScaleSpec)

/-- ITS FALSE NEIGHBOUR: 'it returns false'. Refute it at one input. -/
def fnExactGreatestScaleWrong : ChangeSpec := { name := "fnExactGreatestScale", fn := fun _ => fun
  | [d1, d2] => { results := [.lit (.bool false)], args := [d1, d2] }
  | _ => none }
def FnExactGreatestScaleWrongFalsely : Prop := fnExactGreatestScaleRow.holds Tryz.pinned (OpenSpec.ofChange fnExactGreatestScaleWrong)

/-- 'laws.FnSolvedLoops': WHATEVER THE INPUT: true; the input reads as it did. -/
def fnSolvedLoopsSpec : ChangeSpec := { name := "fnSolvedLoops", fn := fun _ => fun
  | [d] => { results := [.lit (.bool true)], args := [d] }
  | _ => none }
def fnSolvedLoopsRow : OpenClaim := { program := "ytpgegfnhokhlmabgreat", sum := "fa4dff4f0891eab8477d996c624dadeda3823e780ac75b9f19ba287f8a1901fb", func := "loop.example/g00852/laws.FnSolvedLoops", spec := "fnSolvedLoops", unfollowed := true, recurses := true, apart := false }
def FnSolvedLoopsSaid : Prop := fnSolvedLoopsRow.holds Tryz.pinned (OpenSpec.ofChange fnSolvedLoopsSpec)

/-- ITS FALSE NEIGHBOUR: 'it returns false'. Refute it at one input. -/
def fnSolvedLoopsWrong : ChangeSpec := { name := "fnSolvedLoops", fn := fun _ => fun
  | [d] => { results := [.lit (.bool false)], args := [d] }
  | _ => none }
def FnSolvedLoopsWrongFalsely : Prop := fnSolvedLoopsRow.holds Tryz.pinned (OpenSpec.ofChange fnSolvedLoopsWrong)

/-- 'laws.FnSolvedSteps': WHATEVER THE INPUT: true; the input reads as it did. -/
def fnSolvedStepsSpec : ChangeSpec := { name := "fnSolvedSteps", fn := fun _ => fun
  | [d] => { results := [.lit (.bool true)], args := [d] }
  | _ => none }
def fnSolvedStepsRow : OpenClaim := { program := "ytpgegfnhokhlmabgreat", sum := "fa4dff4f0891eab8477d996c624dadeda3823e780ac75b9f19ba287f8a1901fb", func := "loop.example/g00852/laws.FnSolvedSteps", spec := "fnSolvedSteps", unfollowed := true, recurses := true, apart := false }
def FnSolvedStepsSaid : Prop := fnSolvedStepsRow.holds Tryz.pinned (OpenSpec.ofChange fnSolvedStepsSpec)

/-- ITS FALSE NEIGHBOUR: 'it returns false'. Refute it at one input. -/
def fnSolvedStepsWrong : ChangeSpec := { name := "fnSolvedSteps", fn := fun _ => fun
  | [d] => { results := [.lit (.bool false)], args := [d] }
  | _ => none }
def FnSolvedStepsWrongFalsely : Prop := fnSolvedStepsRow.holds Tryz.pinned (OpenSpec.ofChange fnSolvedStepsWrong)

/-- 'laws.FnSettledFlows': WHATEVER THE INPUT: true; the input reads as it did. -/
def fnSettledFlowsSpec : ChangeSpec := { name := "fnSettledFlows", fn := fun _ => fun
  | [d] => { results := [.lit (.bool true)], args := [d] }
  | _ => none }
def fnSettledFlowsRow : OpenClaim := { program := "ytpgegfnhokhlmabgreat", sum := "fa4dff4f0891eab8477d996c624dadeda3823e780ac75b9f19ba287f8a1901fb", func := "loop.example/g00852/laws.FnSettledFlows", spec := "fnSettledFlows", unfollowed := true, recurses := true, apart := false }
def FnSettledFlowsSaid : Prop := fnSettledFlowsRow.holds Tryz.pinned (OpenSpec.ofChange fnSettledFlowsSpec)

/-- ITS FALSE NEIGHBOUR: 'it returns false'. Refute it at one input. -/
def fnSettledFlowsWrong : ChangeSpec := { name := "fnSettledFlows", fn := fun _ => fun
  | [d] => { results := [.lit (.bool false)], args := [d] }
  | _ => none }
def FnSettledFlowsWrongFalsely : Prop := fnSettledFlowsRow.holds Tryz.pinned (OpenSpec.ofChange fnSettledFlowsWrong)

/-- 'laws.FnProofs': WHATEVER THE INPUT: true; the input reads as it did. -/
def fnProofsSpec : ChangeSpec := { name := "fnProofs", fn := fun _ => fun
  | [d] => { results := [.lit (.bool true)], args := [d] }
  | _ => none }
def fnProofsRow : OpenClaim := { program := "ytpgegfnhokhlmabgreat", sum := "fa4dff4f0891eab8477d996c624dadeda3823e780ac75b9f19ba287f8a1901fb", func := "loop.example/g00852/laws.FnProofs", spec := "fnProofs", unfollowed := true, recurses := true, apart := false }
def FnProofsSaid : Prop := fnProofsRow.holds Tryz.pinned (OpenSpec.ofChange fnProofsSpec)

/-- ITS FALSE NEIGHBOUR: 'it returns false'. Refute it at one input. -/
def fnProofsWrong : ChangeSpec := { name := "fnProofs", fn := fun _ => fun
  | [d] => { results := [.lit (.bool false)], args := [d] }
  | _ => none }
def FnProofsWrongFalsely : Prop := fnProofsRow.holds Tryz.pinned (OpenSpec.ofChange fnProofsWrong)

/- THE SECOND FORM. 'bulk': how many values and letters a reading holds, each counted each time it is reached (what is shared counts as often as it is met; a slice's spare places count too). A statement '..UptoSaid' is the law's where the arguments, and the package variables that the reading takes, are together of bulk at most 1048576: NARROWER than '..Said'. Prove '..Said' where nothing that the law and all that it calls make is longer than what came in: it says more and counts as full. Else prove '..UptoSaid'. A law counts once. -/
mutual
def uptoBulk {H : Type} : DataW H → Nat
  | .lit (.string bytes) => bytes.length + 1
  | .lit _ => 1
  | .nil => 1
  | .ptr d => uptoBulk d + 1
  | .slice elems spare => uptoBulkAll elems + uptoBulkAll spare + 1
  | .agg parts => uptoBulkAll parts + 1
  | .iface _ d => uptoBulk d + 1
  | .map entries => uptoBulkEntries entries + 1
  | .held _ => 1
def uptoBulkAll {H : Type} : List (DataW H) → Nat
  | [] => 0
  | d :: r => uptoBulk d + uptoBulkAll r
def uptoBulkEntries {H : Type} : List (Lit × DataW H) → Nat
  | [] => 0
  | x :: r => uptoBulkEntry x + uptoBulkEntries r
def uptoBulkEntry {H : Type} : Lit × DataW H → Nat
  | (.string bytes, d) => bytes.length + uptoBulk d + 1
  | (_, d) => uptoBulk d + 1
 end
def uptoSmall : (H : Type) → List (DataW H) → Bool := fun _ ds => decide (uptoBulkAll ds ≤ 1048576)
def OpenSpec.upto (s : _root_.Go.ChangeSpec) : _root_.Go.OpenSpec := { _root_.Go.OpenSpec.ofChange s with cond := some uptoSmall }

/-- 'laws.FnExactGreatestScale', WHERE WHAT IT READS IS OF BULK AT MOST 1048576: true; the input reads as it did. -/
def fnExactGreatestScaleUptoRow : OpenClaim := { program := "ytpgegfnhokhlmabgreat", sum := "fa4dff4f0891eab8477d996c624dadeda3823e780ac75b9f19ba287f8a1901fb", func := "loop.example/g00852/laws.FnExactGreatestScale", spec := "fnExactGreatestScale", unfollowed := true, recurses := true, apart := false, narrowed := true }
def FnExactGreatestScaleUptoSaid : Prop := fnExactGreatestScaleUptoRow.holds Tryz.pinned (OpenSpec.upto fnExactGreatestScaleSpec)

/-- 'laws.FnSolvedLoops', WHERE WHAT IT READS IS OF BULK AT MOST 1048576: true; the input reads as it did. -/
def fnSolvedLoopsUptoRow : OpenClaim := { program := "ytpgegfnhokhlmabgreat", sum := "fa4dff4f0891eab8477d996c624dadeda3823e780ac75b9f19ba287f8a1901fb", func := "loop.example/g00852/laws.FnSolvedLoops", spec := "fnSolvedLoops", unfollowed := true, recurses := true, apart := false, narrowed := true }
def FnSolvedLoopsUptoSaid : Prop := fnSolvedLoopsUptoRow.holds Tryz.pinned (OpenSpec.upto fnSolvedLoopsSpec)

/-- 'laws.FnSolvedSteps', WHERE WHAT IT READS IS OF BULK AT MOST 1048576: true; the input reads as it did. -/
def fnSolvedStepsUptoRow : OpenClaim := { program := "ytpgegfnhokhlmabgreat", sum := "fa4dff4f0891eab8477d996c624dadeda3823e780ac75b9f19ba287f8a1901fb", func := "loop.example/g00852/laws.FnSolvedSteps", spec := "fnSolvedSteps", unfollowed := true, recurses := true, apart := false, narrowed := true }
def FnSolvedStepsUptoSaid : Prop := fnSolvedStepsUptoRow.holds Tryz.pinned (OpenSpec.upto fnSolvedStepsSpec)

/-- 'laws.FnSettledFlows', WHERE WHAT IT READS IS OF BULK AT MOST 1048576: true; the input reads as it did. -/
def fnSettledFlowsUptoRow : OpenClaim := { program := "ytpgegfnhokhlmabgreat", sum := "fa4dff4f0891eab8477d996c624dadeda3823e780ac75b9f19ba287f8a1901fb", func := "loop.example/g00852/laws.FnSettledFlows", spec := "fnSettledFlows", unfollowed := true, recurses := true, apart := false, narrowed := true }
def FnSettledFlowsUptoSaid : Prop := fnSettledFlowsUptoRow.holds Tryz.pinned (OpenSpec.upto fnSettledFlowsSpec)

/-- 'laws.FnProofs', WHERE WHAT IT READS IS OF BULK AT MOST 1048576: true; the input reads as it did. -/
def fnProofsUptoRow : OpenClaim := { program := "ytpgegfnhokhlmabgreat", sum := "fa4dff4f0891eab8477d996c624dadeda3823e780ac75b9f19ba287f8a1901fb", func := "loop.example/g00852/laws.FnProofs", spec := "fnProofs", unfollowed := true, recurses := true, apart := false, narrowed := true }
def FnProofsUptoSaid : Prop := fnProofsUptoRow.holds Tryz.pinned (OpenSpec.upto fnProofsSpec)

end Rows
end Go.Proofs.YtpgegfnhokhlmabGreat
