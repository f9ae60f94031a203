/-
  No cell of these rows narrows 'for every input' (looked for: loops, veiled, ifaces, maps, wideKeys, modest, calm, conditions, laid).
  DERIVED. THE GIVEN ROWS OF THIS SEAT. 12 by the template 'for every input the law returns true; each argument reads behind the call as it read before'; 0 by the template 'total and deterministic' (their statements: YtoijogaogheciaaTotals.lean).
  GIVEN WITH THE SEED: the statements are not yours to turn. If you find one false, say at which input.
  Laid BY PROGRAM, IN A SANDBOX (cutbox-rows.mjs): the forced cells as the released guide's own fill.sh prints them over the translation 2fc3d528273fc423… (all of the seat's roots in one cut). By AI agents, Wed Nov 11 2026. No macro, syntax, notation, axiom, sorry.
-/
import Derived.Test.YtoijogaogheciaaChecked
import GoSem.Claim
import GoSem.ClaimJoined
import GoSem.ClaimMapViews
import Derived.JoinedTies
import Derived.KernelRfl
namespace Go.Proofs.Ytoijogaogheciaa
/- THE CELL 'sum', in the pinned program and in every row, IS THE sha256 OF THE DUMP (.gsa) THAT YtoijogaogheciaaProg.lean LOADS. Nothing in Lean hashes anything: it is a label: what it is worth is what the hold of that sum in a sandbox is worth. -/
noncomputable def Try.pinned : Pinned := { name := "ytoijogaogheciaa", sum := "2fc3d528273fc42311854f334bdc9d1b4ba07c4620db3822fec2e165d860e02e", checked := Try.checked }
namespace Rows
def none {H : Type} : Left H := { results := [], args := [] }

/-- 'laws.FnExactSameFlows': WHATEVER THE INPUT: true; the input reads as it did. -/
def fnExactSameFlowsSpec : ChangeSpec := { name := "fnExactSameFlows", fn := fun _ => fun
  | [d1, d2] => { results := [.lit (.bool true)], args := [d1, d2] }
  | _ => none }
def fnExactSameFlowsRow : OpenClaim := { program := "ytoijogaogheciaa", sum := "2fc3d528273fc42311854f334bdc9d1b4ba07c4620db3822fec2e165d860e02e", func := "loop.example/g00852/laws.FnExactSameFlows", spec := "fnExactSameFlows", apart := false }
def FnExactSameFlowsSaid : Prop := fnExactSameFlowsRow.holds Try.pinned (OpenSpec.ofChange fnExactSameFlowsSpec)

/-- ITS FALSE NEIGHBOUR: 'it returns false'. Refute it at one input. -/
def fnExactSameFlowsWrong : ChangeSpec := { name := "fnExactSameFlows", fn := fun _ => fun
  | [d1, d2] => { results := [.lit (.bool false)], args := [d1, d2] }
  | _ => none }
def FnExactSameFlowsWrongFalsely : Prop := fnExactSameFlowsRow.holds Try.pinned (OpenSpec.ofChange fnExactSameFlowsWrong)

/-- 'laws.FnExactScaleSupplies': WHATEVER THE INPUT: true; the input reads as it did. -/
def fnExactScaleSuppliesSpec : ChangeSpec := { name := "fnExactScaleSupplies", fn := fun _ => fun
  | [d1, d2] => { results := [.lit (.bool true)], args := [d1, d2] }
  | _ => none }
def fnExactScaleSuppliesRow : OpenClaim := { program := "ytoijogaogheciaa", sum := "2fc3d528273fc42311854f334bdc9d1b4ba07c4620db3822fec2e165d860e02e", func := "loop.example/g00852/laws.FnExactScaleSupplies", spec := "fnExactScaleSupplies", apart := false }
def FnExactScaleSuppliesSaid : Prop := fnExactScaleSuppliesRow.holds Try.pinned (OpenSpec.ofChange fnExactScaleSuppliesSpec)

/-- ITS FALSE NEIGHBOUR: 'it returns false'. Refute it at one input. -/
def fnExactScaleSuppliesWrong : ChangeSpec := { name := "fnExactScaleSupplies", fn := fun _ => fun
  | [d1, d2] => { results := [.lit (.bool false)], args := [d1, d2] }
  | _ => none }
def FnExactScaleSuppliesWrongFalsely : Prop := fnExactScaleSuppliesRow.holds Try.pinned (OpenSpec.ofChange fnExactScaleSuppliesWrong)

/-- 'laws.FnExactIsSettings': WHATEVER THE INPUT: true; the input reads as it did. -/
def fnExactIsSettingsSpec : ChangeSpec := { name := "fnExactIsSettings", fn := fun _ => fun
  | [d1, d2] => { results := [.lit (.bool true)], args := [d1, d2] }
  | _ => none }
def fnExactIsSettingsRow : OpenClaim := { program := "ytoijogaogheciaa", sum := "2fc3d528273fc42311854f334bdc9d1b4ba07c4620db3822fec2e165d860e02e", func := "loop.example/g00852/laws.FnExactIsSettings", spec := "fnExactIsSettings", unfollowed := true, recurses := true, apart := false }
def FnExactIsSettingsSaid : Prop := fnExactIsSettingsRow.holds Try.pinned (OpenSpec.ofChange fnExactIsSettingsSpec)

/-- ITS FALSE NEIGHBOUR: 'it returns false'. Refute it at one input. -/
def fnExactIsSettingsWrong : ChangeSpec := { name := "fnExactIsSettings", fn := fun _ => fun
  | [d1, d2] => { results := [.lit (.bool false)], args := [d1, d2] }
  | _ => none }
def FnExactIsSettingsWrongFalsely : Prop := fnExactIsSettingsRow.holds Try.pinned (OpenSpec.ofChange fnExactIsSettingsWrong)

/-- 'laws.FnExactSettingsText': WHATEVER THE INPUT: true; the input reads as it did. -/
def fnExactSettingsTextSpec : ChangeSpec := { name := "fnExactSettingsText", fn := fun _ => fun
  | [d1, d2] => { results := [.lit (.bool true)], args := [d1, d2] }
  | _ => none }
def fnExactSettingsTextRow : OpenClaim := { program := "ytoijogaogheciaa", sum := "2fc3d528273fc42311854f334bdc9d1b4ba07c4620db3822fec2e165d860e02e", func := "loop.example/g00852/laws.FnExactSettingsText", spec := "fnExactSettingsText", unfollowed := true, recurses := true, apart := false }
def FnExactSettingsTextSaid : Prop := fnExactSettingsTextRow.holds Try.pinned (OpenSpec.ofChange fnExactSettingsTextSpec)

/-- ITS FALSE NEIGHBOUR: 'it returns false'. Refute it at one input. -/
def fnExactSettingsTextWrong : ChangeSpec := { name := "fnExactSettingsText", fn := fun _ => fun
  | [d1, d2] => { results := [.lit (.bool false)], args := [d1, d2] }
  | _ => none }
def FnExactSettingsTextWrongFalsely : Prop := fnExactSettingsTextRow.holds Try.pinned (OpenSpec.ofChange fnExactSettingsTextWrong)

/-- 'laws.FnExactIsAllowed': WHATEVER THE INPUT: true; the input reads as it did. -/
def fnExactIsAllowedSpec : ChangeSpec := { name := "fnExactIsAllowed", fn := fun _ => fun
  | [d1, d2, d3] => { results := [.lit (.bool true)], args := [d1, d2, d3] }
  | _ => none }
def fnExactIsAllowedRow : OpenClaim := { program := "ytoijogaogheciaa", sum := "2fc3d528273fc42311854f334bdc9d1b4ba07c4620db3822fec2e165d860e02e", func := "loop.example/g00852/laws.FnExactIsAllowed", spec := "fnExactIsAllowed", unfollowed := true, recurses := true, apart := false }
def FnExactIsAllowedSaid : Prop := fnExactIsAllowedRow.holds Try.pinned (OpenSpec.ofChange fnExactIsAllowedSpec)

/-- ITS FALSE NEIGHBOUR: 'it returns false'. Refute it at one input. -/
def fnExactIsAllowedWrong : ChangeSpec := { name := "fnExactIsAllowed", fn := fun _ => fun
  | [d1, d2, d3] => { results := [.lit (.bool false)], args := [d1, d2, d3] }
  | _ => none }
def FnExactIsAllowedWrongFalsely : Prop := fnExactIsAllowedRow.holds Try.pinned (OpenSpec.ofChange fnExactIsAllowedWrong)

/-- 'laws.FnExactSwitchCount': WHATEVER THE INPUT: true; the input reads as it did. -/
def fnExactSwitchCountSpec : ChangeSpec := { name := "fnExactSwitchCount", fn := fun _ => fun
  | [d1, d2, d3] => { results := [.lit (.bool true)], args := [d1, d2, d3] }
  | _ => none }
def fnExactSwitchCountRow : OpenClaim := { program := "ytoijogaogheciaa", sum := "2fc3d528273fc42311854f334bdc9d1b4ba07c4620db3822fec2e165d860e02e", func := "loop.example/g00852/laws.FnExactSwitchCount", spec := "fnExactSwitchCount", unfollowed := true, recurses := true, apart := false }
def FnExactSwitchCountSaid : Prop := fnExactSwitchCountRow.holds Try.pinned (OpenSpec.ofChange fnExactSwitchCountSpec)

/-- ITS FALSE NEIGHBOUR: 'it returns false'. Refute it at one input. -/
def fnExactSwitchCountWrong : ChangeSpec := { name := "fnExactSwitchCount", fn := fun _ => fun
  | [d1, d2, d3] => { results := [.lit (.bool false)], args := [d1, d2, d3] }
  | _ => none }
def FnExactSwitchCountWrongFalsely : Prop := fnExactSwitchCountRow.holds Try.pinned (OpenSpec.ofChange fnExactSwitchCountWrong)

/-- 'laws.FnExactReadSettings': WHATEVER THE INPUT: true; the input reads as it did. -/
def fnExactReadSettingsSpec : ChangeSpec := { name := "fnExactReadSettings", fn := fun _ => fun
  | [d1, d2] => { results := [.lit (.bool true)], args := [d1, d2] }
  | _ => none }
def fnExactReadSettingsRow : OpenClaim := { program := "ytoijogaogheciaa", sum := "2fc3d528273fc42311854f334bdc9d1b4ba07c4620db3822fec2e165d860e02e", func := "loop.example/g00852/laws.FnExactReadSettings", spec := "fnExactReadSettings", inPlace := ["internal/bytealg.IndexByteString"], unfollowed := true, recurses := true, apart := false }
def FnExactReadSettingsSaid : Prop := fnExactReadSettingsRow.holds Try.pinned (OpenSpec.ofChange fnExactReadSettingsSpec)

/-- ITS FALSE NEIGHBOUR: 'it returns false'. Refute it at one input. -/
def fnExactReadSettingsWrong : ChangeSpec := { name := "fnExactReadSettings", fn := fun _ => fun
  | [d1, d2] => { results := [.lit (.bool false)], args := [d1, d2] }
  | _ => none }
def FnExactReadSettingsWrongFalsely : Prop := fnExactReadSettingsRow.holds Try.pinned (OpenSpec.ofChange fnExactReadSettingsWrong)

/-- 'laws.FnExactSpreadFlows': WHATEVER THE INPUT: true; the input reads as it did. -/
def fnExactSpreadFlowsSpec : ChangeSpec := { name := "fnExactSpreadFlows", fn := fun _ => fun
  | [d1, d2, d3] => { results := [.lit (.bool true)], args := [d1, d2, d3] }
  | _ => none }
def fnExactSpreadFlowsRow : OpenClaim := { program := "ytoijogaogheciaa", sum := "2fc3d528273fc42311854f334bdc9d1b4ba07c4620db3822fec2e165d860e02e", func := "loop.example/g00852/laws.FnExactSpreadFlows", spec := "fnExactSpreadFlows", unfollowed := true, recurses := true, apart := false }
def FnExactSpreadFlowsSaid : Prop := fnExactSpreadFlowsRow.holds Try.pinned (OpenSpec.ofChange fnExactSpreadFlowsSpec)

/-- ITS FALSE NEIGHBOUR: 'it returns false'. Refute it at one input. -/
def fnExactSpreadFlowsWrong : ChangeSpec := { name := "fnExactSpreadFlows", fn := fun _ => fun
  | [d1, d2, d3] => { results := [.lit (.bool false)], args := [d1, d2, d3] }
  | _ => none }
def FnExactSpreadFlowsWrongFalsely : Prop := fnExactSpreadFlowsRow.holds Try.pinned (OpenSpec.ofChange fnExactSpreadFlowsWrong)

/-- 'laws.FnExactOpenNetwork': WHATEVER THE INPUT: true; the input reads as it did. -/
def fnExactOpenNetworkSpec : ChangeSpec := { name := "fnExactOpenNetwork", fn := fun _ => fun
  | [d1, d2] => { results := [.lit (.bool true)], args := [d1, d2] }
  | _ => none }
def fnExactOpenNetworkRow : OpenClaim := { program := "ytoijogaogheciaa", sum := "2fc3d528273fc42311854f334bdc9d1b4ba07c4620db3822fec2e165d860e02e", func := "loop.example/g00852/laws.FnExactOpenNetwork", spec := "fnExactOpenNetwork", unfollowed := true, recurses := true, apart := false }
def FnExactOpenNetworkSaid : Prop := fnExactOpenNetworkRow.holds Try.pinned (OpenSpec.ofChange fnExactOpenNetworkSpec)

/-- ITS FALSE NEIGHBOUR: 'it returns false'. Refute it at one input. -/
def fnExactOpenNetworkWrong : ChangeSpec := { name := "fnExactOpenNetwork", fn := fun _ => fun
  | [d1, d2] => { results := [.lit (.bool false)], args := [d1, d2] }
  | _ => none }
def FnExactOpenNetworkWrongFalsely : Prop := fnExactOpenNetworkRow.holds Try.pinned (OpenSpec.ofChange fnExactOpenNetworkWrong)

/-- 'laws.FnOpenNetworks': WHATEVER THE INPUT: true; the input reads as it did. -/
def fnOpenNetworksSpec : ChangeSpec := { name := "fnOpenNetworks", fn := fun _ => fun
  | [d] => { results := [.lit (.bool true)], args := [d] }
  | _ => none }
def fnOpenNetworksRow : OpenClaim := { program := "ytoijogaogheciaa", sum := "2fc3d528273fc42311854f334bdc9d1b4ba07c4620db3822fec2e165d860e02e", func := "loop.example/g00852/laws.FnOpenNetworks", spec := "fnOpenNetworks", unfollowed := true, recurses := true, apart := false }
def FnOpenNetworksSaid : Prop := fnOpenNetworksRow.holds Try.pinned (OpenSpec.ofChange fnOpenNetworksSpec)

/-- ITS FALSE NEIGHBOUR: 'it returns false'. Refute it at one input. -/
def fnOpenNetworksWrong : ChangeSpec := { name := "fnOpenNetworks", fn := fun _ => fun
  | [d] => { results := [.lit (.bool false)], args := [d] }
  | _ => none }
def FnOpenNetworksWrongFalsely : Prop := fnOpenNetworksRow.holds Try.pinned (OpenSpec.ofChange fnOpenNetworksWrong)

/-- 'laws.FnExactCloseAllChords': WHATEVER THE INPUT: true; the input reads as it did. -/
def fnExactCloseAllChordsSpec : ChangeSpec := { name := "fnExactCloseAllChords", fn := fun _ => fun
  | [d] => { results := [.lit (.bool true)], args := [d] }
  | _ => none }
def fnExactCloseAllChordsRow : OpenClaim := { program := "ytoijogaogheciaa", sum := "2fc3d528273fc42311854f334bdc9d1b4ba07c4620db3822fec2e165d860e02e", func := "loop.example/g00852/laws.FnExactCloseAllChords", spec := "fnExactCloseAllChords", unfollowed := true, recurses := true, apart := false }
def FnExactCloseAllChordsSaid : Prop := fnExactCloseAllChordsRow.holds Try.pinned (OpenSpec.ofChange fnExactCloseAllChordsSpec)

/-- ITS FALSE NEIGHBOUR: 'it returns false'. Refute it at one input. -/
def fnExactCloseAllChordsWrong : ChangeSpec := { name := "fnExactCloseAllChords", fn := fun _ => fun
  | [d] => { results := [.lit (.bool false)], args := [d] }
  | _ => none }
def FnExactCloseAllChordsWrongFalsely : Prop := fnExactCloseAllChordsRow.holds Try.pinned (OpenSpec.ofChange fnExactCloseAllChordsWrong)

/-- 'laws.FnSettingsText': WHATEVER THE INPUT: true; the input reads as it did. -/
def fnSettingsTextSpec : ChangeSpec := { name := "fnSettingsText", fn := fun _ => fun
  | [d] => { results := [.lit (.bool true)], args := [d] }
  | _ => none }
def fnSettingsTextRow : OpenClaim := { program := "ytoijogaogheciaa", sum := "2fc3d528273fc42311854f334bdc9d1b4ba07c4620db3822fec2e165d860e02e", func := "loop.example/g00852/laws.FnSettingsText", spec := "fnSettingsText", inPlace := ["internal/bytealg.IndexByteString"], unfollowed := true, recurses := true, apart := false }
def FnSettingsTextSaid : Prop := fnSettingsTextRow.holds Try.pinned (OpenSpec.ofChange fnSettingsTextSpec)

/-- ITS FALSE NEIGHBOUR: 'it returns false'. Refute it at one input. -/
def fnSettingsTextWrong : ChangeSpec := { name := "fnSettingsText", fn := fun _ => fun
  | [d] => { results := [.lit (.bool false)], args := [d] }
  | _ => none }
def FnSettingsTextWrongFalsely : Prop := fnSettingsTextRow.holds Try.pinned (OpenSpec.ofChange fnSettingsTextWrong)

/- THE SECOND FORM. 'bulk': how many values and letters a reading holds, each counted each time it is reached (what is shared counts as often as it is met; a slice's spare places count too). A statement '..UptoSaid' is the law's where the arguments, and the package variables that the reading takes, are together of bulk at most 1048576: NARROWER than '..Said'. Prove '..Said' where nothing that the law and all that it calls make is longer than what came in: it says more and counts as full. Else prove '..UptoSaid'. A law counts once. -/
mutual
def uptoBulk {H : Type} : DataW H → Nat
  | .lit (.string bytes) => bytes.length + 1
  | .lit _ => 1
  | .nil => 1
  | .ptr d => uptoBulk d + 1
  | .slice elems spare => uptoBulkAll elems + uptoBulkAll spare + 1
  | .agg parts => uptoBulkAll parts + 1
  | .iface _ d => uptoBulk d + 1
  | .map entries => uptoBulkEntries entries + 1
  | .held _ => 1
def uptoBulkAll {H : Type} : List (DataW H) → Nat
  | [] => 0
  | d :: r => uptoBulk d + uptoBulkAll r
def uptoBulkEntries {H : Type} : List (Lit × DataW H) → Nat
  | [] => 0
  | x :: r => uptoBulkEntry x + uptoBulkEntries r
def uptoBulkEntry {H : Type} : Lit × DataW H → Nat
  | (.string bytes, d) => bytes.length + uptoBulk d + 1
  | (_, d) => uptoBulk d + 1
 end
def uptoSmall : (H : Type) → List (DataW H) → Bool := fun _ ds => decide (uptoBulkAll ds ≤ 1048576)
def OpenSpec.upto (s : _root_.Go.ChangeSpec) : _root_.Go.OpenSpec := { _root_.Go.OpenSpec.ofChange s with cond := some uptoSmall }

/-- 'laws.FnExactSameFlows', WHERE WHAT IT READS IS OF BULK AT MOST 1048576: true; the input reads as it did. -/
def fnExactSameFlowsUptoRow : OpenClaim := { program := "ytoijogaogheciaa", sum := "2fc3d528273fc42311854f334bdc9d1b4ba07c4620db3822fec2e165d860e02e", func := "loop.example/g00852/laws.FnExactSameFlows", spec := "fnExactSameFlows", apart := false, narrowed := true }
def FnExactSameFlowsUptoSaid : Prop := fnExactSameFlowsUptoRow.holds Try.pinned (OpenSpec.upto fnExactSameFlowsSpec)

/-- 'laws.FnExactScaleSupplies', WHERE WHAT IT READS IS OF BULK AT MOST 1048576: true; the input reads as it did. -/
def fnExactScaleSuppliesUptoRow : OpenClaim := { program := "ytoijogaogheciaa", sum := "2fc3d528273fc42311854f334bdc9d1b4ba07c4620db3822fec2e165d860e02e", func := "loop.example/g00852/laws.FnExactScaleSupplies", spec := "fnExactScaleSupplies", apart := false, narrowed := true }
def FnExactScaleSuppliesUptoSaid : Prop := fnExactScaleSuppliesUptoRow.holds Try.pinned (OpenSpec.upto fnExactScaleSuppliesSpec)

/-- 'laws.FnExactIsSettings', WHERE WHAT IT READS IS OF BULK AT MOST 1048576: true; the input reads as it did. -/
def fnExactIsSettingsUptoRow : OpenClaim := { program := "ytoijogaogheciaa", sum := "2fc3d528273fc42311854f334bdc9d1b4ba07c4620db3822fec2e165d860e02e", func := "loop.example/g00852/laws.FnExactIsSettings", spec := "fnExactIsSettings", unfollowed := true, recurses := true, apart := false, narrowed := true }
def FnExactIsSettingsUptoSaid : Prop := fnExactIsSettingsUptoRow.holds Try.pinned (OpenSpec.upto fnExactIsSettingsSpec)

/-- 'laws.FnExactSettingsText', WHERE WHAT IT READS IS OF BULK AT MOST 1048576: true; the input reads as it did. -/
def fnExactSettingsTextUptoRow : OpenClaim := { program := "ytoijogaogheciaa", sum := "2fc3d528273fc42311854f334bdc9d1b4ba07c4620db3822fec2e165d860e02e", func := "loop.example/g00852/laws.FnExactSettingsText", spec := "fnExactSettingsText", unfollowed := true, recurses := true, apart := false, narrowed := true }
def FnExactSettingsTextUptoSaid : Prop := fnExactSettingsTextUptoRow.holds Try.pinned (OpenSpec.upto fnExactSettingsTextSpec)

/-- 'laws.FnExactIsAllowed', WHERE WHAT IT READS IS OF BULK AT MOST 1048576: true; the input reads as it did. -/
def fnExactIsAllowedUptoRow : OpenClaim := { program := "ytoijogaogheciaa", sum := "2fc3d528273fc42311854f334bdc9d1b4ba07c4620db3822fec2e165d860e02e", func := "loop.example/g00852/laws.FnExactIsAllowed", spec := "fnExactIsAllowed", unfollowed := true, recurses := true, apart := false, narrowed := true }
def FnExactIsAllowedUptoSaid : Prop := fnExactIsAllowedUptoRow.holds Try.pinned (OpenSpec.upto fnExactIsAllowedSpec)

/-- 'laws.FnExactSwitchCount', WHERE WHAT IT READS IS OF BULK AT MOST 1048576: true; the input reads as it did. -/
def fnExactSwitchCountUptoRow : OpenClaim := { program := "ytoijogaogheciaa", sum := "2fc3d528273fc42311854f334bdc9d1b4ba07c4620db3822fec2e165d860e02e", func := "loop.example/g00852/laws.FnExactSwitchCount", spec := "fnExactSwitchCount", unfollowed := true, recurses := true, apart := false, narrowed := true }
def FnExactSwitchCountUptoSaid : Prop := fnExactSwitchCountUptoRow.holds Try.pinned (OpenSpec.upto fnExactSwitchCountSpec)

/-- 'laws.FnExactReadSettings', WHERE WHAT IT READS IS OF BULK AT MOST 1048576: true; the input reads as it did. -/
def fnExactReadSettingsUptoRow : OpenClaim := { program := "ytoijogaogheciaa", sum := "2fc3d528273fc42311854f334bdc9d1b4ba07c4620db3822fec2e165d860e02e", func := "loop.example/g00852/laws.FnExactReadSettings", spec := "fnExactReadSettings", inPlace := ["internal/bytealg.IndexByteString"], unfollowed := true, recurses := true, apart := false, narrowed := true }
def FnExactReadSettingsUptoSaid : Prop := fnExactReadSettingsUptoRow.holds Try.pinned (OpenSpec.upto fnExactReadSettingsSpec)

/-- 'laws.FnExactSpreadFlows', WHERE WHAT IT READS IS OF BULK AT MOST 1048576: true; the input reads as it did. -/
def fnExactSpreadFlowsUptoRow : OpenClaim := { program := "ytoijogaogheciaa", sum := "2fc3d528273fc42311854f334bdc9d1b4ba07c4620db3822fec2e165d860e02e", func := "loop.example/g00852/laws.FnExactSpreadFlows", spec := "fnExactSpreadFlows", unfollowed := true, recurses := true, apart := false, narrowed := true }
def FnExactSpreadFlowsUptoSaid : Prop := fnExactSpreadFlowsUptoRow.holds Try.pinned (OpenSpec.upto fnExactSpreadFlowsSpec)

/-- 'laws.FnExactOpenNetwork', WHERE WHAT IT READS IS OF BULK AT MOST 1048576: true; the input reads as it did. -/
def fnExactOpenNetworkUptoRow : OpenClaim := { program := "ytoijogaogheciaa", sum := "2fc3d528273fc42311854f334bdc9d1b4ba07c4620db3822fec2e165d860e02e", func := "loop.example/g00852/laws.FnExactOpenNetwork", spec := "fnExactOpenNetwork", unfollowed := true, recurses := true, apart := false, narrowed := true }
def FnExactOpenNetworkUptoSaid : Prop := fnExactOpenNetworkUptoRow.holds Try.pinned (OpenSpec.upto fnExactOpenNetworkSpec)

/-- 'laws.FnOpenNetworks', WHERE WHAT IT READS IS OF BULK AT MOST 1048576: true; the input reads as it did. -/
def fnOpenNetworksUptoRow : OpenClaim := { program := "ytoijogaogheciaa", sum := "2fc3d528273fc42311854f334bdc9d1b4ba07c4620db3822fec2e165d860e02e", func := "loop.example/g00852/laws.FnOpenNetworks", spec := "fnOpenNetworks", unfollowed := true, recurses := true, apart := false, narrowed := true }
def FnOpenNetworksUptoSaid : Prop := fnOpenNetworksUptoRow.holds Try.pinned (OpenSpec.upto fnOpenNetworksSpec)

/-- 'laws.FnExactCloseAllChords', WHERE WHAT IT READS IS OF BULK AT MOST 1048576: true; the input reads as it did. -/
def fnExactCloseAllChordsUptoRow : OpenClaim := { program := "ytoijogaogheciaa", sum := "2fc3d528273fc42311854f334bdc9d1b4ba07c4620db3822fec2e165d860e02e", func := "loop.example/g00852/laws.FnExactCloseAllChords", spec := "fnExactCloseAllChords", unfollowed := true, recurses := true, apart := false, narrowed := true }
def FnExactCloseAllChordsUptoSaid : Prop := fnExactCloseAllChordsUptoRow.holds Try.pinned (OpenSpec.upto fnExactCloseAllChordsSpec)

/-- 'laws.FnSettingsText', WHERE WHAT IT READS IS OF BULK AT MOST 1048576: true; the input reads as it did. -/
def fnSettingsTextUptoRow : OpenClaim := { program := "ytoijogaogheciaa", sum := "2fc3d528273fc42311854f334bdc9d1b4ba07c4620db3822fec2e165d860e02e", func := "loop.example/g00852/laws.FnSettingsText", spec := "fnSettingsText", inPlace := ["internal/bytealg.IndexByteString"], unfollowed := true, recurses := true, apart := false, narrowed := true }
def FnSettingsTextUptoSaid : Prop := fnSettingsTextUptoRow.holds Try.pinned (OpenSpec.upto fnSettingsTextSpec)

end Rows
end Go.Proofs.Ytoijogaogheciaa
