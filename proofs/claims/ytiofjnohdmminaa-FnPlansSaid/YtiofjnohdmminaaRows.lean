/-
  No cell of these rows narrows 'for every input' (looked for: loops, veiled, ifaces, maps, wideKeys, modest, calm, conditions, laid).
  DERIVED. THE GIVEN ROWS OF THIS SEAT. 12 by the template 'for every input the law returns true; each argument reads behind the call as it read before'; 0 by the template 'total and deterministic' (their statements: YtiofjnohdmminaaTotals.lean).
  GIVEN WITH THE SEED: the statements are not yours to turn. If you find one false, say at which input.
  Laid BY PROGRAM, IN A SANDBOX (cutbox-rows.mjs): the forced cells as the released guide's own fill.sh prints them over the translation 4ebae4064045d668… (all of the seat's roots in one cut). By AI agents, Wed Nov 11 2026. No macro, syntax, notation, axiom, sorry.
-/
import Derived.Test.YtiofjnohdmminaaChecked
import GoSem.Claim
import GoSem.ClaimJoined
import GoSem.ClaimMapViews
import Derived.JoinedTies
import Derived.KernelRfl
namespace Go.Proofs.Ytiofjnohdmminaa
/- THE CELL 'sum', in the pinned program and in every row, IS THE sha256 OF THE DUMP (.gsa) THAT YtiofjnohdmminaaProg.lean LOADS. Nothing in Lean hashes anything: it is a label: what it is worth is what the hold of that sum in a sandbox is worth. -/
noncomputable def Try.pinned : Pinned := { name := "ytiofjnohdmminaa", sum := "4ebae4064045d668fd5b8eba8ae93fd5e31acd7f3d6c671b8b56a2a288439081", checked := Try.checked }
namespace Rows
def none {H : Type} : Left H := { results := [], args := [] }

/-- 'laws.FnExactIsUnit': WHATEVER THE INPUT: true; the input reads as it did. -/
def fnExactIsUnitSpec : ChangeSpec := { name := "fnExactIsUnit", fn := fun _ => fun
  | [d] => { results := [.lit (.bool true)], args := [d] }
  | _ => none }
def fnExactIsUnitRow : OpenClaim := { program := "ytiofjnohdmminaa", sum := "4ebae4064045d668fd5b8eba8ae93fd5e31acd7f3d6c671b8b56a2a288439081", func := "loop.example/g00852/laws.FnExactIsUnit", spec := "fnExactIsUnit", plainKeys := false, apart := false }
def FnExactIsUnitSaid : Prop := fnExactIsUnitRow.holds Try.pinned (OpenSpec.ofChange fnExactIsUnitSpec)

/-- ITS FALSE NEIGHBOUR: 'it returns false'. Refute it at one input. -/
def fnExactIsUnitWrong : ChangeSpec := { name := "fnExactIsUnit", fn := fun _ => fun
  | [d] => { results := [.lit (.bool false)], args := [d] }
  | _ => none }
def FnExactIsUnitWrongFalsely : Prop := fnExactIsUnitRow.holds Try.pinned (OpenSpec.ofChange fnExactIsUnitWrong)

/-- 'laws.FnExactIsStore': WHATEVER THE INPUT: true; the input reads as it did. -/
def fnExactIsStoreSpec : ChangeSpec := { name := "fnExactIsStore", fn := fun _ => fun
  | [d] => { results := [.lit (.bool true)], args := [d] }
  | _ => none }
def fnExactIsStoreRow : OpenClaim := { program := "ytiofjnohdmminaa", sum := "4ebae4064045d668fd5b8eba8ae93fd5e31acd7f3d6c671b8b56a2a288439081", func := "loop.example/g00852/laws.FnExactIsStore", spec := "fnExactIsStore", plainKeys := false, apart := false }
def FnExactIsStoreSaid : Prop := fnExactIsStoreRow.holds Try.pinned (OpenSpec.ofChange fnExactIsStoreSpec)

/-- ITS FALSE NEIGHBOUR: 'it returns false'. Refute it at one input. -/
def fnExactIsStoreWrong : ChangeSpec := { name := "fnExactIsStore", fn := fun _ => fun
  | [d] => { results := [.lit (.bool false)], args := [d] }
  | _ => none }
def FnExactIsStoreWrongFalsely : Prop := fnExactIsStoreRow.holds Try.pinned (OpenSpec.ofChange fnExactIsStoreWrong)

/-- 'laws.FnExactStoreLimits': WHATEVER THE INPUT: true; the input reads as it did. -/
def fnExactStoreLimitsSpec : ChangeSpec := { name := "fnExactStoreLimits", fn := fun _ => fun
  | [d] => { results := [.lit (.bool true)], args := [d] }
  | _ => none }
def fnExactStoreLimitsRow : OpenClaim := { program := "ytiofjnohdmminaa", sum := "4ebae4064045d668fd5b8eba8ae93fd5e31acd7f3d6c671b8b56a2a288439081", func := "loop.example/g00852/laws.FnExactStoreLimits", spec := "fnExactStoreLimits", plainKeys := false, apart := false }
def FnExactStoreLimitsSaid : Prop := fnExactStoreLimitsRow.holds Try.pinned (OpenSpec.ofChange fnExactStoreLimitsSpec)

/-- ITS FALSE NEIGHBOUR: 'it returns false'. Refute it at one input. -/
def fnExactStoreLimitsWrong : ChangeSpec := { name := "fnExactStoreLimits", fn := fun _ => fun
  | [d] => { results := [.lit (.bool false)], args := [d] }
  | _ => none }
def FnExactStoreLimitsWrongFalsely : Prop := fnExactStoreLimitsRow.holds Try.pinned (OpenSpec.ofChange fnExactStoreLimitsWrong)

/-- 'laws.FnExactStartsOf': WHATEVER THE INPUT: true; the input reads as it did. -/
def fnExactStartsOfSpec : ChangeSpec := { name := "fnExactStartsOf", fn := fun _ => fun
  | [d] => { results := [.lit (.bool true)], args := [d] }
  | _ => none }
def fnExactStartsOfRow : OpenClaim := { program := "ytiofjnohdmminaa", sum := "4ebae4064045d668fd5b8eba8ae93fd5e31acd7f3d6c671b8b56a2a288439081", func := "loop.example/g00852/laws.FnExactStartsOf", spec := "fnExactStartsOf", plainKeys := false, apart := false }
def FnExactStartsOfSaid : Prop := fnExactStartsOfRow.holds Try.pinned (OpenSpec.ofChange fnExactStartsOfSpec)

/-- ITS FALSE NEIGHBOUR: 'it returns false'. Refute it at one input. -/
def fnExactStartsOfWrong : ChangeSpec := { name := "fnExactStartsOf", fn := fun _ => fun
  | [d] => { results := [.lit (.bool false)], args := [d] }
  | _ => none }
def FnExactStartsOfWrongFalsely : Prop := fnExactStartsOfRow.holds Try.pinned (OpenSpec.ofChange fnExactStartsOfWrong)

/-- 'laws.FnExactKeepsRules': WHATEVER THE INPUT: true; the input reads as it did. -/
def fnExactKeepsRulesSpec : ChangeSpec := { name := "fnExactKeepsRules", fn := fun _ => fun
  | [d1, d2] => { results := [.lit (.bool true)], args := [d1, d2] }
  | _ => none }
def fnExactKeepsRulesRow : OpenClaim := { program := "ytiofjnohdmminaa", sum := "4ebae4064045d668fd5b8eba8ae93fd5e31acd7f3d6c671b8b56a2a288439081", func := "loop.example/g00852/laws.FnExactKeepsRules", spec := "fnExactKeepsRules", plainKeys := false, apart := false }
def FnExactKeepsRulesSaid : Prop := fnExactKeepsRulesRow.holds Try.pinned (OpenSpec.ofChange fnExactKeepsRulesSpec)

/-- ITS FALSE NEIGHBOUR: 'it returns false'. Refute it at one input. -/
def fnExactKeepsRulesWrong : ChangeSpec := { name := "fnExactKeepsRules", fn := fun _ => fun
  | [d1, d2] => { results := [.lit (.bool false)], args := [d1, d2] }
  | _ => none }
def FnExactKeepsRulesWrongFalsely : Prop := fnExactKeepsRulesRow.holds Try.pinned (OpenSpec.ofChange fnExactKeepsRulesWrong)

/-- 'laws.FnExactPlanCost': WHATEVER THE INPUT: true; the input reads as it did. -/
def fnExactPlanCostSpec : ChangeSpec := { name := "fnExactPlanCost", fn := fun _ => fun
  | [d1, d2, d3] => { results := [.lit (.bool true)], args := [d1, d2, d3] }
  | _ => none }
def fnExactPlanCostRow : OpenClaim := { program := "ytiofjnohdmminaa", sum := "4ebae4064045d668fd5b8eba8ae93fd5e31acd7f3d6c671b8b56a2a288439081", func := "loop.example/g00852/laws.FnExactPlanCost", spec := "fnExactPlanCost", plainKeys := false, apart := false }
def FnExactPlanCostSaid : Prop := fnExactPlanCostRow.holds Try.pinned (OpenSpec.ofChange fnExactPlanCostSpec)

/-- ITS FALSE NEIGHBOUR: 'it returns false'. Refute it at one input. -/
def fnExactPlanCostWrong : ChangeSpec := { name := "fnExactPlanCost", fn := fun _ => fun
  | [d1, d2, d3] => { results := [.lit (.bool false)], args := [d1, d2, d3] }
  | _ => none }
def FnExactPlanCostWrongFalsely : Prop := fnExactPlanCostRow.holds Try.pinned (OpenSpec.ofChange fnExactPlanCostWrong)

/-- 'laws.FnExactFirstBroken': WHATEVER THE INPUT: true; the input reads as it did. -/
def fnExactFirstBrokenSpec : ChangeSpec := { name := "fnExactFirstBroken", fn := fun _ => fun
  | [d1, d2] => { results := [.lit (.bool true)], args := [d1, d2] }
  | _ => none }
def fnExactFirstBrokenRow : OpenClaim := { program := "ytiofjnohdmminaa", sum := "4ebae4064045d668fd5b8eba8ae93fd5e31acd7f3d6c671b8b56a2a288439081", func := "loop.example/g00852/laws.FnExactFirstBroken", spec := "fnExactFirstBroken", plainKeys := false, apart := false }
def FnExactFirstBrokenSaid : Prop := fnExactFirstBrokenRow.holds Try.pinned (OpenSpec.ofChange fnExactFirstBrokenSpec)

/-- ITS FALSE NEIGHBOUR: 'it returns false'. Refute it at one input. -/
def fnExactFirstBrokenWrong : ChangeSpec := { name := "fnExactFirstBroken", fn := fun _ => fun
  | [d1, d2] => { results := [.lit (.bool false)], args := [d1, d2] }
  | _ => none }
def FnExactFirstBrokenWrongFalsely : Prop := fnExactFirstBrokenRow.holds Try.pinned (OpenSpec.ofChange fnExactFirstBrokenWrong)

/-- 'laws.FnExactForcedPlan': WHATEVER THE INPUT: true; the input reads as it did. -/
def fnExactForcedPlanSpec : ChangeSpec := { name := "fnExactForcedPlan", fn := fun _ => fun
  | [d1, d2, d3] => { results := [.lit (.bool true)], args := [d1, d2, d3] }
  | _ => none }
def fnExactForcedPlanRow : OpenClaim := { program := "ytiofjnohdmminaa", sum := "4ebae4064045d668fd5b8eba8ae93fd5e31acd7f3d6c671b8b56a2a288439081", func := "loop.example/g00852/laws.FnExactForcedPlan", spec := "fnExactForcedPlan", recurses := true, plainKeys := false, apart := false }
def FnExactForcedPlanSaid : Prop := fnExactForcedPlanRow.holds Try.pinned (OpenSpec.ofChange fnExactForcedPlanSpec)

/-- ITS FALSE NEIGHBOUR: 'it returns false'. Refute it at one input. -/
def fnExactForcedPlanWrong : ChangeSpec := { name := "fnExactForcedPlan", fn := fun _ => fun
  | [d1, d2, d3] => { results := [.lit (.bool false)], args := [d1, d2, d3] }
  | _ => none }
def FnExactForcedPlanWrongFalsely : Prop := fnExactForcedPlanRow.holds Try.pinned (OpenSpec.ofChange fnExactForcedPlanWrong)

/-- 'laws.FnExactBestPlan': WHATEVER THE INPUT: true; the input reads as it did. -/
def fnExactBestPlanSpec : ChangeSpec := { name := "fnExactBestPlan", fn := fun _ => fun
  | [d1, d2] => { results := [.lit (.bool true)], args := [d1, d2] }
  | _ => none }
def fnExactBestPlanRow : OpenClaim := { program := "ytiofjnohdmminaa", sum := "4ebae4064045d668fd5b8eba8ae93fd5e31acd7f3d6c671b8b56a2a288439081", func := "loop.example/g00852/laws.FnExactBestPlan", spec := "fnExactBestPlan", recurses := true, plainKeys := false, apart := false }
def FnExactBestPlanSaid : Prop := fnExactBestPlanRow.holds Try.pinned (OpenSpec.ofChange fnExactBestPlanSpec)

/-- ITS FALSE NEIGHBOUR: 'it returns false'. Refute it at one input. -/
def fnExactBestPlanWrong : ChangeSpec := { name := "fnExactBestPlan", fn := fun _ => fun
  | [d1, d2] => { results := [.lit (.bool false)], args := [d1, d2] }
  | _ => none }
def FnExactBestPlanWrongFalsely : Prop := fnExactBestPlanRow.holds Try.pinned (OpenSpec.ofChange fnExactBestPlanWrong)

/-- 'laws.FnStarts': WHATEVER THE INPUT: true; the input reads as it did. -/
def fnStartsSpec : ChangeSpec := { name := "fnStarts", fn := fun _ => fun
  | [d] => { results := [.lit (.bool true)], args := [d] }
  | _ => none }
def fnStartsRow : OpenClaim := { program := "ytiofjnohdmminaa", sum := "4ebae4064045d668fd5b8eba8ae93fd5e31acd7f3d6c671b8b56a2a288439081", func := "loop.example/g00852/laws.FnStarts", spec := "fnStarts", plainKeys := false, apart := false }
def FnStartsSaid : Prop := fnStartsRow.holds Try.pinned (OpenSpec.ofChange fnStartsSpec)

/-- ITS FALSE NEIGHBOUR: 'it returns false'. Refute it at one input. -/
def fnStartsWrong : ChangeSpec := { name := "fnStarts", fn := fun _ => fun
  | [d] => { results := [.lit (.bool false)], args := [d] }
  | _ => none }
def FnStartsWrongFalsely : Prop := fnStartsRow.holds Try.pinned (OpenSpec.ofChange fnStartsWrong)

/-- 'laws.FnForcedPlans': WHATEVER THE INPUT: true; the input reads as it did. -/
def fnForcedPlansSpec : ChangeSpec := { name := "fnForcedPlans", fn := fun _ => fun
  | [d] => { results := [.lit (.bool true)], args := [d] }
  | _ => none }
def fnForcedPlansRow : OpenClaim := { program := "ytiofjnohdmminaa", sum := "4ebae4064045d668fd5b8eba8ae93fd5e31acd7f3d6c671b8b56a2a288439081", func := "loop.example/g00852/laws.FnForcedPlans", spec := "fnForcedPlans", recurses := true, plainKeys := false, apart := false }
def FnForcedPlansSaid : Prop := fnForcedPlansRow.holds Try.pinned (OpenSpec.ofChange fnForcedPlansSpec)

/-- ITS FALSE NEIGHBOUR: 'it returns false'. Refute it at one input. -/
def fnForcedPlansWrong : ChangeSpec := { name := "fnForcedPlans", fn := fun _ => fun
  | [d] => { results := [.lit (.bool false)], args := [d] }
  | _ => none }
def FnForcedPlansWrongFalsely : Prop := fnForcedPlansRow.holds Try.pinned (OpenSpec.ofChange fnForcedPlansWrong)

/-- 'laws.FnPlans': WHATEVER THE INPUT: true; the input reads as it did. -/
def fnPlansSpec : ChangeSpec := { name := "fnPlans", fn := fun _ => fun
  | [d] => { results := [.lit (.bool true)], args := [d] }
  | _ => none }
def fnPlansRow : OpenClaim := { program := "ytiofjnohdmminaa", sum := "4ebae4064045d668fd5b8eba8ae93fd5e31acd7f3d6c671b8b56a2a288439081", func := "loop.example/g00852/laws.FnPlans", spec := "fnPlans", recurses := true, plainKeys := false, apart := false }
def FnPlansSaid : Prop := fnPlansRow.holds Try.pinned (OpenSpec.ofChange fnPlansSpec)

/-- ITS FALSE NEIGHBOUR: 'it returns false'. Refute it at one input. -/
def fnPlansWrong : ChangeSpec := { name := "fnPlans", fn := fun _ => fun
  | [d] => { results := [.lit (.bool false)], args := [d] }
  | _ => none }
def FnPlansWrongFalsely : Prop := fnPlansRow.holds Try.pinned (OpenSpec.ofChange fnPlansWrong)

/- THE SECOND FORM. 'bulk': how many values and letters a reading holds, each counted each time it is reached (what is shared counts as often as it is met; a slice's spare places count too). A statement '..UptoSaid' is the law's where the arguments, and the package variables that the reading takes, are together of bulk at most 1048576: NARROWER than '..Said'. Prove '..Said' where nothing that the law and all that it calls make is longer than what came in: it says more and counts as full. Else prove '..UptoSaid'. A law counts once. -/
mutual
def uptoBulk {H : Type} : DataW H → Nat
  | .lit (.string bytes) => bytes.length + 1
  | .lit _ => 1
  | .nil => 1
  | .ptr d => uptoBulk d + 1
  | .slice elems spare => uptoBulkAll elems + uptoBulkAll spare + 1
  | .agg parts => uptoBulkAll parts + 1
  | .iface _ d => uptoBulk d + 1
  | .map entries => uptoBulkEntries entries + 1
  | .held _ => 1
def uptoBulkAll {H : Type} : List (DataW H) → Nat
  | [] => 0
  | d :: r => uptoBulk d + uptoBulkAll r
def uptoBulkEntries {H : Type} : List (Lit × DataW H) → Nat
  | [] => 0
  | x :: r => uptoBulkEntry x + uptoBulkEntries r
def uptoBulkEntry {H : Type} : Lit × DataW H → Nat
  | (.string bytes, d) => bytes.length + uptoBulk d + 1
  | (_, d) => uptoBulk d + 1
 end
def uptoSmall : (H : Type) → List (DataW H) → Bool := fun _ ds => decide (uptoBulkAll ds ≤ 1048576)
def OpenSpec.upto (s : _root_.Go.ChangeSpec) : _root_.Go.OpenSpec := { _root_.Go.OpenSpec.ofChange s with cond := some uptoSmall }

/-- 'laws.FnExactIsUnit', WHERE WHAT IT READS IS OF BULK AT MOST 1048576: true; the input reads as it did. -/
def fnExactIsUnitUptoRow : OpenClaim := { program := "ytiofjnohdmminaa", sum := "4ebae4064045d668fd5b8eba8ae93fd5e31acd7f3d6c671b8b56a2a288439081", func := "loop.example/g00852/laws.FnExactIsUnit", spec := "fnExactIsUnit", plainKeys := false, apart := false, narrowed := true }
def FnExactIsUnitUptoSaid : Prop := fnExactIsUnitUptoRow.holds Try.pinned (OpenSpec.upto fnExactIsUnitSpec)

/-- 'laws.FnExactIsStore', WHERE WHAT IT READS IS OF BULK AT MOST 1048576: true; the input reads as it did. -/
def fnExactIsStoreUptoRow : OpenClaim := { program := "ytiofjnohdmminaa", sum := "4ebae4064045d668fd5b8eba8ae93fd5e31acd7f3d6c671b8b56a2a288439081", func := "loop.example/g00852/laws.FnExactIsStore", spec := "fnExactIsStore", plainKeys := false, apart := false, narrowed := true }
def FnExactIsStoreUptoSaid : Prop := fnExactIsStoreUptoRow.holds Try.pinned (OpenSpec.upto fnExactIsStoreSpec)

/-- 'laws.FnExactStoreLimits', WHERE WHAT IT READS IS OF BULK AT MOST 1048576: true; the input reads as it did. -/
def fnExactStoreLimitsUptoRow : OpenClaim := { program := "ytiofjnohdmminaa", sum := "4ebae4064045d668fd5b8eba8ae93fd5e31acd7f3d6c671b8b56a2a288439081", func := "loop.example/g00852/laws.FnExactStoreLimits", spec := "fnExactStoreLimits", plainKeys := false, apart := false, narrowed := true }
def FnExactStoreLimitsUptoSaid : Prop := fnExactStoreLimitsUptoRow.holds Try.pinned (OpenSpec.upto fnExactStoreLimitsSpec)

/-- 'laws.FnExactStartsOf', WHERE WHAT IT READS IS OF BULK AT MOST 1048576: true; the input reads as it did. -/
def fnExactStartsOfUptoRow : OpenClaim := { program := "ytiofjnohdmminaa", sum := "4ebae4064045d668fd5b8eba8ae93fd5e31acd7f3d6c671b8b56a2a288439081", func := "loop.example/g00852/laws.FnExactStartsOf", spec := "fnExactStartsOf", plainKeys := false, apart := false, narrowed := true }
def FnExactStartsOfUptoSaid : Prop := fnExactStartsOfUptoRow.holds Try.pinned (OpenSpec.upto fnExactStartsOfSpec)

/-- 'laws.FnExactKeepsRules', WHERE WHAT IT READS IS OF BULK AT MOST 1048576: true; the input reads as it did. -/
def fnExactKeepsRulesUptoRow : OpenClaim := { program := "ytiofjnohdmminaa", sum := "4ebae4064045d668fd5b8eba8ae93fd5e31acd7f3d6c671b8b56a2a288439081", func := "loop.example/g00852/laws.FnExactKeepsRules", spec := "fnExactKeepsRules", plainKeys := false, apart := false, narrowed := true }
def FnExactKeepsRulesUptoSaid : Prop := fnExactKeepsRulesUptoRow.holds Try.pinned (OpenSpec.upto fnExactKeepsRulesSpec)

/-- 'laws.FnExactPlanCost', WHERE WHAT IT READS IS OF BULK AT MOST 1048576: true; the input reads as it did. -/
def fnExactPlanCostUptoRow : OpenClaim := { program := "ytiofjnohdmminaa", sum := "4ebae4064045d668fd5b8eba8ae93fd5e31acd7f3d6c671b8b56a2a288439081", func := "loop.example/g00852/laws.FnExactPlanCost", spec := "fnExactPlanCost", plainKeys := false, apart := false, narrowed := true }
def FnExactPlanCostUptoSaid : Prop := fnExactPlanCostUptoRow.holds Try.pinned (OpenSpec.upto fnExactPlanCostSpec)

/-- 'laws.FnExactFirstBroken', WHERE WHAT IT READS IS OF BULK AT MOST 1048576: true; the input reads as it did. -/
def fnExactFirstBrokenUptoRow : OpenClaim := { program := "ytiofjnohdmminaa", sum := "4ebae4064045d668fd5b8eba8ae93fd5e31acd7f3d6c671b8b56a2a288439081", func := "loop.example/g00852/laws.FnExactFirstBroken", spec := "fnExactFirstBroken", plainKeys := false, apart := false, narrowed := true }
def FnExactFirstBrokenUptoSaid : Prop := fnExactFirstBrokenUptoRow.holds Try.pinned (OpenSpec.upto fnExactFirstBrokenSpec)

/-- 'laws.FnExactForcedPlan', WHERE WHAT IT READS IS OF BULK AT MOST 1048576: true; the input reads as it did. -/
def fnExactForcedPlanUptoRow : OpenClaim := { program := "ytiofjnohdmminaa", sum := "4ebae4064045d668fd5b8eba8ae93fd5e31acd7f3d6c671b8b56a2a288439081", func := "loop.example/g00852/laws.FnExactForcedPlan", spec := "fnExactForcedPlan", recurses := true, plainKeys := false, apart := false, narrowed := true }
def FnExactForcedPlanUptoSaid : Prop := fnExactForcedPlanUptoRow.holds Try.pinned (OpenSpec.upto fnExactForcedPlanSpec)

/-- 'laws.FnExactBestPlan', WHERE WHAT IT READS IS OF BULK AT MOST 1048576: true; the input reads as it did. -/
def fnExactBestPlanUptoRow : OpenClaim := { program := "ytiofjnohdmminaa", sum := "4ebae4064045d668fd5b8eba8ae93fd5e31acd7f3d6c671b8b56a2a288439081", func := "loop.example/g00852/laws.FnExactBestPlan", spec := "fnExactBestPlan", recurses := true, plainKeys := false, apart := false, narrowed := true }
def FnExactBestPlanUptoSaid : Prop := fnExactBestPlanUptoRow.holds Try.pinned (OpenSpec.upto fnExactBestPlanSpec)

/-- 'laws.FnStarts', WHERE WHAT IT READS IS OF BULK AT MOST 1048576: true; the input reads as it did. -/
def fnStartsUptoRow : OpenClaim := { program := "ytiofjnohdmminaa", sum := "4ebae4064045d668fd5b8eba8ae93fd5e31acd7f3d6c671b8b56a2a288439081", func := "loop.example/g00852/laws.FnStarts", spec := "fnStarts", plainKeys := false, apart := false, narrowed := true }
def FnStartsUptoSaid : Prop := fnStartsUptoRow.holds Try.pinned (OpenSpec.upto fnStartsSpec)

/-- 'laws.FnForcedPlans', WHERE WHAT IT READS IS OF BULK AT MOST 1048576: true; the input reads as it did. -/
def fnForcedPlansUptoRow : OpenClaim := { program := "ytiofjnohdmminaa", sum := "4ebae4064045d668fd5b8eba8ae93fd5e31acd7f3d6c671b8b56a2a288439081", func := "loop.example/g00852/laws.FnForcedPlans", spec := "fnForcedPlans", recurses := true, plainKeys := false, apart := false, narrowed := true }
def FnForcedPlansUptoSaid : Prop := fnForcedPlansUptoRow.holds Try.pinned (OpenSpec.upto fnForcedPlansSpec)

/-- 'laws.FnPlans', WHERE WHAT IT READS IS OF BULK AT MOST 1048576: true; the input reads as it did. -/
def fnPlansUptoRow : OpenClaim := { program := "ytiofjnohdmminaa", sum := "4ebae4064045d668fd5b8eba8ae93fd5e31acd7f3d6c671b8b56a2a288439081", func := "loop.example/g00852/laws.FnPlans", spec := "fnPlans", recurses := true, plainKeys := false, apart := false, narrowed := true }
def FnPlansUptoSaid : Prop := fnPlansUptoRow.holds Try.pinned (OpenSpec.upto fnPlansSpec)

end Rows
end Go.Proofs.Ytiofjnohdmminaa
