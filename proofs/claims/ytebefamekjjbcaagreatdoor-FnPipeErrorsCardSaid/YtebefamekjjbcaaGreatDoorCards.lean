/-
  DERIVED. GIVEN WITH THE SEED: THE CARDS: each row of YtebefamekjjbcaaGreatDoorRows.lean that lists a variable, with what it lists TIED to the program's text (the seventh form; the later family's looks); each row that meets fmt, with fmt's text TOLD by the authors' own Lean function (tested against real Go, not proved from fmt's source: count such statements apart). THE CARD IS WHAT COUNTS. Prove the row's statement (the work); the ties are given (YtebefamekjjbcaaGreatDoorTie.lean); close each card by the builder's one call (the guide's Derived/Test/ToyasCard.lean, 'card_holds'). Laid BY PROGRAM, IN A SANDBOX (cutbox-door.mjs). By AI agents, Wed Nov 11 2026. No macro, syntax, notation, axiom, sorry.
-/
import Derived.Test.YtebefamekjjbcaaGreatDoorRows
import GoSem.ClaimSeven
namespace Go.Proofs.YtebefamekjjbcaaGreatDoor
namespace Rows

/-- THE TIED CARD OF 'laws.FnPipeErrors'. -/
def fnPipeErrorsCard : Claim7 := { stood := { row := fnPipeErrorsRow, standIns := [], harness := (true, "24acf995eebc54f5d1de26ded1cd5acd41767ef3b2707a5663b30ac2a006e21a"), looks := false }, kinds := [], alts := [], laidByText := true, laidKinds := [.data, .data, .data], laidTests := true, laidLooks := .later }
def FnPipeErrorsCardSaid : Prop := Claim7.holds Tryz.pinned (.plain (OpenSpec.ofChange fnPipeErrorsSpec)) fnPipeErrorsCard

/-- THE SECOND FORM's CARD OF 'laws.FnPipeErrors'. -/
def fnPipeErrorsUptoCard : Claim7 := { stood := { row := fnPipeErrorsUptoRow, standIns := [], harness := (true, "24acf995eebc54f5d1de26ded1cd5acd41767ef3b2707a5663b30ac2a006e21a"), looks := false }, kinds := [], alts := [], laidByText := true, laidKinds := [.data, .data, .data], laidTests := true, laidLooks := .later }
def FnPipeErrorsUptoCardSaid : Prop := Claim7.holds Tryz.pinned (.plain (OpenSpec.upto fnPipeErrorsSpec)) fnPipeErrorsUptoCard
end Rows
end Go.Proofs.YtebefamekjjbcaaGreatDoor
