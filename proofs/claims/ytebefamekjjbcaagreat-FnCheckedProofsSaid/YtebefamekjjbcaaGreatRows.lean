/-
  No cell of these rows narrows 'for every input' (looked for: loops, veiled, ifaces, maps, wideKeys, modest, calm, conditions, laid).
  DERIVED. THE GIVEN ROWS OF THIS SEAT. 2 by the template 'for every input the law returns true; each argument reads behind the call as it read before'; 0 by the template 'total and deterministic' (their statements: YtebefamekjjbcaaGreatTotals.lean).
  GIVEN WITH THE SEED: the statements are not yours to turn. If you find one false, say at which input.
  Laid BY PROGRAM, IN A SANDBOX (cutbox-rows.mjs): the forced cells as the released guide's own fill.sh prints them over the translation 5704c3839ed8bca0… (all of the seat's roots in one cut). By AI agents, Wed Nov 11 2026. No macro, syntax, notation, axiom, sorry.
-/
import Derived.Test.YtebefamekjjbcaaGreatChecked
import GoSem.Claim
import GoSem.ClaimJoined
import GoSem.ClaimMapViews
import Derived.JoinedTies
import Derived.KernelRfl
namespace Go.Proofs.YtebefamekjjbcaaGreat
/- THE CELL 'sum', in the pinned program and in every row, IS THE sha256 OF THE DUMP (.gsa) THAT YtebefamekjjbcaaGreatProg.lean LOADS. Nothing in Lean hashes anything: it is a label: what it is worth is what the hold of that sum in a sandbox is worth. -/
noncomputable def Tryz.pinned : Pinned := { name := "ytebefamekjjbcaagreat", sum := "5704c3839ed8bca0ab3e8e792d7e1526d38c533b501fd51d66764422b2680a81", checked := Tryz.checked }
namespace Rows
def none {H : Type} : Left H := { results := [], args := [] }

/-- 'laws.FnScales': WHATEVER THE INPUT: true; the input reads as it did. -/
def fnScalesSpec : ChangeSpec := { name := "fnScales", fn := fun _ => fun
  | [d] => { results := [.lit (.bool true)], args := [d] }
  | _ => none }
def fnScalesRow : OpenClaim := { program := "ytebefamekjjbcaagreat", sum := "5704c3839ed8bca0ab3e8e792d7e1526d38c533b501fd51d66764422b2680a81", func := "loop.example/g00852/laws.FnScales", spec := "fnScales", unfollowed := true, recurses := true, apart := false }
def FnScalesSaid : Prop := fnScalesRow.holds Tryz.pinned (OpenSpec.ofChange fnScalesSpec)

/-- ITS FALSE NEIGHBOUR: 'it returns false'. Refute it at one input. -/
def fnScalesWrong : ChangeSpec := { name := "fnScales", fn := fun _ => fun
  | [d] => { results := [.lit (.bool false)], args := [d] }
  | _ => none }
def FnScalesWrongFalsely : Prop := fnScalesRow.holds Tryz.pinned (OpenSpec.ofChange fnScalesWrong)

/-- 'laws.FnCheckedProofs': WHATEVER THE INPUT: true; the input reads as it did. -/
def fnCheckedProofsSpec : ChangeSpec := { name := "fnCheckedProofs", fn := fun _ => fun
  | [d] => { results := [.lit (.bool true)], args := [d] }
  | _ => none }
def fnCheckedProofsRow : OpenClaim := { program := "ytebefamekjjbcaagreat", sum := "5704c3839ed8bca0ab3e8e792d7e1526d38c533b501fd51d66764422b2680a81", func := "loop.example/g00852/laws.FnCheckedProofs", spec := "fnCheckedProofs", unfollowed := true, recurses := true, apart := false }
def FnCheckedProofsSaid : Prop := fnCheckedProofsRow.holds Tryz.pinned (OpenSpec.ofChange fnCheckedProofsSpec)

/-- ITS FALSE NEIGHBOUR: 'it returns false'. Refute it at one input. -/
def fnCheckedProofsWrong : ChangeSpec := { name := "fnCheckedProofs", fn := fun _ => fun
  | [d] => { results := [.lit (.bool false)], args := [d] }
  | _ => none }
def FnCheckedProofsWrongFalsely : Prop := fnCheckedProofsRow.holds Tryz.pinned (OpenSpec.ofChange fnCheckedProofsWrong)

/- THE SECOND FORM. 'bulk': how many values and letters a reading holds, each counted each time it is reached (what is shared counts as often as it is met; a slice's spare places count too). A statement '..UptoSaid' is the law's where the arguments, and the package variables that the reading takes, are together of bulk at most 1048576: NARROWER than '..Said'. Prove '..Said' where nothing that the law and all that it calls make is longer than what came in: it says more and counts as full. Else prove '..UptoSaid'. A law counts once. -/
mutual
def uptoBulk {H : Type} : DataW H → Nat
  | .lit (.string bytes) => bytes.length + 1
  | .lit _ => 1
  | .nil => 1
  | .ptr d => uptoBulk d + 1
  | .slice elems spare => uptoBulkAll elems + uptoBulkAll spare + 1
  | .agg parts => uptoBulkAll parts + 1
  | .iface _ d => uptoBulk d + 1
  | .map entries => uptoBulkEntries entries + 1
  | .held _ => 1
def uptoBulkAll {H : Type} : List (DataW H) → Nat
  | [] => 0
  | d :: r => uptoBulk d + uptoBulkAll r
def uptoBulkEntries {H : Type} : List (Lit × DataW H) → Nat
  | [] => 0
  | x :: r => uptoBulkEntry x + uptoBulkEntries r
def uptoBulkEntry {H : Type} : Lit × DataW H → Nat
  | (.string bytes, d) => bytes.length + uptoBulk d + 1
  | (_, d) => uptoBulk d + 1
 end
def uptoSmall : (H : Type) → List (DataW H) → Bool := fun _ ds => decide (uptoBulkAll ds ≤ 1048576)
def OpenSpec.upto (s : _root_.Go.ChangeSpec) : _root_.Go.OpenSpec := { _root_.Go.OpenSpec.ofChange s with cond := some uptoSmall }

/-- 'laws.FnScales', WHERE WHAT IT READS IS OF BULK AT MOST 1048576: true; the input reads as it did. -/
def fnScalesUptoRow : OpenClaim := { program := "ytebefamekjjbcaagreat", sum := "5704c3839ed8bca0ab3e8e792d7e1526d38c533b501fd51d66764422b2680a81", func := "loop.example/g00852/laws.FnScales", spec := "fnScales", unfollowed := true, recurses := true, apart := false, narrowed := true }
def FnScalesUptoSaid : Prop := fnScalesUptoRow.holds Tryz.pinned (OpenSpec.upto fnScalesSpec)

/-- 'laws.FnCheckedProofs', WHERE WHAT IT READS IS OF BULK AT MOST 1048576: true; the input reads as it did. -/
def fnCheckedProofsUptoRow : OpenClaim := { program := "ytebefamekjjbcaagreat", sum := "5704c3839ed8bca0ab3e8e792d7e1526d38c533b501fd51d66764422b2680a81", func := "loop.example/g00852/laws.FnCheckedProofs", spec := "fnCheckedProofs", unfollowed := true, recurses := true, apart := false, narrowed := true }
def FnCheckedProofsUptoSaid : Prop := fnCheckedProofsUptoRow.holds Tryz.pinned (OpenSpec.upto fnCheckedProofsSpec)

end Rows
end Go.Proofs.YtebefamekjjbcaaGreat
