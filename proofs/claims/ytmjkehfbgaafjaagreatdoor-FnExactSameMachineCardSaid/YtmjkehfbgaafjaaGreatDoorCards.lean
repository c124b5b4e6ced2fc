/-
  DERIVED. GIVEN WITH THE SEED: THE CARDS: each row of YtmjkehfbgaafjaaGreatDoorRows.lean that lists a variable, with what it lists TIED to the program's text (the seventh form; the later family's looks); each row that meets fmt, with fmt's text TOLD by the authors' own Lean function (tested against real Go, not proved from fmt's source: count such statements apart). THE CARD IS WHAT COUNTS. Prove the row's statement (the work); the ties are given (YtmjkehfbgaafjaaGreatDoorTie.lean); close each card by the builder's one call (the guide's Derived/Test/ToyasCard.lean, 'card_holds'). Laid BY PROGRAM, IN A SANDBOX (cutbox-door.mjs). By AI agents, Wed Nov 11 2026. No macro, syntax, notation, axiom, sorry.
-/
import Derived.Test.YtmjkehfbgaafjaaGreatDoorRows
import GoSem.ClaimSeven
namespace Go.Proofs.YtmjkehfbgaafjaaGreatDoor
namespace Rows

/-- THE TIED CARD OF 'laws.FnExactMachineOK'. -/
def fnExactMachineOKCard : Claim7 := { stood := { row := fnExactMachineOKRow, standIns := [], harness := (true, "ce47fce9836157b4925dd4cbc02342eb4ae18739688114b1bebd61387bdd49fb"), looks := false }, kinds := [], alts := [], laidByText := true, laidKinds := [.data, .listed, .data, .pinned], laidTests := true, laidLooks := .later }
def FnExactMachineOKCardSaid : Prop := Claim7.holds Tryz.pinned (.plain (OpenSpec.ofChange fnExactMachineOKSpec)) fnExactMachineOKCard

/-- THE TIED CARD OF 'laws.FnExactSameMachine'. -/
def fnExactSameMachineCard : Claim7 := { stood := { row := fnExactSameMachineRow, standIns := [], harness := (true, "ce47fce9836157b4925dd4cbc02342eb4ae18739688114b1bebd61387bdd49fb"), looks := false }, kinds := [], alts := [], laidByText := true, laidKinds := [.data, .listed, .data, .pinned], laidTests := true, laidLooks := .later }
def FnExactSameMachineCardSaid : Prop := Claim7.holds Tryz.pinned (.plain (OpenSpec.ofChange fnExactSameMachineSpec)) fnExactSameMachineCard

/-- THE SECOND FORM's CARD OF 'laws.FnExactMachineOK'. -/
def fnExactMachineOKUptoCard : Claim7 := { stood := { row := fnExactMachineOKUptoRow, standIns := [], harness := (true, "ce47fce9836157b4925dd4cbc02342eb4ae18739688114b1bebd61387bdd49fb"), looks := false }, kinds := [], alts := [], laidByText := true, laidKinds := [.data, .listed, .data, .pinned], laidTests := true, laidLooks := .later }
def FnExactMachineOKUptoCardSaid : Prop := Claim7.holds Tryz.pinned (.plain (OpenSpec.upto fnExactMachineOKSpec)) fnExactMachineOKUptoCard

/-- THE SECOND FORM's CARD OF 'laws.FnExactSameMachine'. -/
def fnExactSameMachineUptoCard : Claim7 := { stood := { row := fnExactSameMachineUptoRow, standIns := [], harness := (true, "ce47fce9836157b4925dd4cbc02342eb4ae18739688114b1bebd61387bdd49fb"), looks := false }, kinds := [], alts := [], laidByText := true, laidKinds := [.data, .listed, .data, .pinned], laidTests := true, laidLooks := .later }
def FnExactSameMachineUptoCardSaid : Prop := Claim7.holds Tryz.pinned (.plain (OpenSpec.upto fnExactSameMachineSpec)) fnExactSameMachineUptoCard
end Rows
end Go.Proofs.YtmjkehfbgaafjaaGreatDoor
