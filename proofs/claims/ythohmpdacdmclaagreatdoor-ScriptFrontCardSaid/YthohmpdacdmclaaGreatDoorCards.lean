/-
  DERIVED. GIVEN WITH THE SEED: THE CARDS: each row of YthohmpdacdmclaaGreatDoorRows.lean that lists a variable, with what it lists TIED to the program's text (the seventh form; the later family's looks); each row that meets fmt, with fmt's text TOLD by the authors' own Lean function (tested against real Go, not proved from fmt's source: count such statements apart). THE CARD IS WHAT COUNTS. Prove the row's statement (the work); the ties are given (YthohmpdacdmclaaGreatDoorTie.lean); close each card by the builder's one call (the guide's Derived/Test/ToyasCard.lean, 'card_holds'). Laid BY PROGRAM, IN A SANDBOX (cutbox-door.mjs). By AI agents, Wed Nov 11 2026. No macro, syntax, notation, axiom, sorry.
-/
import Derived.Test.YthohmpdacdmclaaGreatDoorRows
import GoSem.ClaimSeven
namespace Go.Proofs.YthohmpdacdmclaaGreatDoor
namespace Rows

/-- THE TIED CARD OF 'qanatlaw34.ScriptFront'. -/
def scriptFrontCard : Claim7 := { stood := { row := scriptFrontRow, standIns := [], harness := (true, "b68678e58eddc4c3c1bfa2a5bd40bed63c9e41da46131a18ce693087ef38addc"), looks := false }, kinds := [], alts := [], laidByText := true, laidKinds := [.data, .data, .data], laidTests := true, laidLooks := .later }
def ScriptFrontCardSaid : Prop := Claim7.holds Tryz.pinned (.plain (OpenSpec.ofChange scriptFrontSpec)) scriptFrontCard

/-- THE SECOND FORM's CARD OF 'qanatlaw34.ScriptFront'. -/
def scriptFrontUptoCard : Claim7 := { stood := { row := scriptFrontUptoRow, standIns := [], harness := (true, "b68678e58eddc4c3c1bfa2a5bd40bed63c9e41da46131a18ce693087ef38addc"), looks := false }, kinds := [], alts := [], laidByText := true, laidKinds := [.data, .data, .data], laidTests := true, laidLooks := .later }
def ScriptFrontUptoCardSaid : Prop := Claim7.holds Tryz.pinned (.plain (OpenSpec.upto scriptFrontSpec)) scriptFrontUptoCard
end Rows
end Go.Proofs.YthohmpdacdmclaaGreatDoor
