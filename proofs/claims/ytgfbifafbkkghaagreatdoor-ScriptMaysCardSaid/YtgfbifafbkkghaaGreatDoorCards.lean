/-
  DERIVED. GIVEN WITH THE SEED: THE CARDS: each row of YtgfbifafbkkghaaGreatDoorRows.lean that lists a variable, with what it lists TIED to the program's text (the seventh form; the later family's looks); each row that meets fmt, with fmt's text TOLD by the authors' own Lean function (tested against real Go, not proved from fmt's source: count such statements apart). THE CARD IS WHAT COUNTS. Prove the row's statement (the work); the ties are given (YtgfbifafbkkghaaGreatDoorTie.lean); close each card by the builder's one call (the guide's Derived/Test/ToyasCard.lean, 'card_holds'). Laid BY PROGRAM, IN A SANDBOX (cutbox-door.mjs). By AI agents, Wed Nov 11 2026. No macro, syntax, notation, axiom, sorry.
-/
import Derived.Test.YtgfbifafbkkghaaGreatDoorRows
import GoSem.ClaimSeven
namespace Go.Proofs.YtgfbifafbkkghaaGreatDoor
namespace Rows

/-- THE TIED CARD OF 'qanatlaw34.ScriptMays'. -/
def scriptMaysCard : Claim7 := { stood := { row := scriptMaysRow, standIns := [], harness := (true, "504d64da40ad2cdadf1634ed6b5e4b7510fa4447812c7192eab01152d41c4915"), looks := false }, kinds := [], alts := [], laidByText := true, laidKinds := [.data, .data, .data], laidTests := true, laidLooks := .later }
def ScriptMaysCardSaid : Prop := Claim7.holds Tryz.pinned (.plain (OpenSpec.ofChange scriptMaysSpec)) scriptMaysCard

/-- THE TIED CARD OF 'qanatlaw34.ScriptBack'. -/
def scriptBackCard : Claim7 := { stood := { row := scriptBackRow, standIns := [], harness := (true, "504d64da40ad2cdadf1634ed6b5e4b7510fa4447812c7192eab01152d41c4915"), looks := false }, kinds := [], alts := [], laidByText := true, laidKinds := [.data, .data, .data], laidTests := true, laidLooks := .later }
def ScriptBackCardSaid : Prop := Claim7.holds Tryz.pinned (.plain (OpenSpec.ofChange scriptBackSpec)) scriptBackCard

/-- THE TIED CARD OF 'qanatlaw34.ScriptReads'. -/
def scriptReadsCard : Claim7 := { stood := { row := scriptReadsRow, standIns := [], harness := (true, "504d64da40ad2cdadf1634ed6b5e4b7510fa4447812c7192eab01152d41c4915"), looks := false }, kinds := [], alts := [], laidByText := true, laidKinds := [.data, .data, .data], laidTests := true, laidLooks := .later }
def ScriptReadsCardSaid : Prop := Claim7.holds Tryz.pinned (.plain (OpenSpec.ofChange scriptReadsSpec)) scriptReadsCard

/-- THE SECOND FORM's CARD OF 'qanatlaw34.ScriptMays'. -/
def scriptMaysUptoCard : Claim7 := { stood := { row := scriptMaysUptoRow, standIns := [], harness := (true, "504d64da40ad2cdadf1634ed6b5e4b7510fa4447812c7192eab01152d41c4915"), looks := false }, kinds := [], alts := [], laidByText := true, laidKinds := [.data, .data, .data], laidTests := true, laidLooks := .later }
def ScriptMaysUptoCardSaid : Prop := Claim7.holds Tryz.pinned (.plain (OpenSpec.upto scriptMaysSpec)) scriptMaysUptoCard

/-- THE SECOND FORM's CARD OF 'qanatlaw34.ScriptBack'. -/
def scriptBackUptoCard : Claim7 := { stood := { row := scriptBackUptoRow, standIns := [], harness := (true, "504d64da40ad2cdadf1634ed6b5e4b7510fa4447812c7192eab01152d41c4915"), looks := false }, kinds := [], alts := [], laidByText := true, laidKinds := [.data, .data, .data], laidTests := true, laidLooks := .later }
def ScriptBackUptoCardSaid : Prop := Claim7.holds Tryz.pinned (.plain (OpenSpec.upto scriptBackSpec)) scriptBackUptoCard

/-- THE SECOND FORM's CARD OF 'qanatlaw34.ScriptReads'. -/
def scriptReadsUptoCard : Claim7 := { stood := { row := scriptReadsUptoRow, standIns := [], harness := (true, "504d64da40ad2cdadf1634ed6b5e4b7510fa4447812c7192eab01152d41c4915"), looks := false }, kinds := [], alts := [], laidByText := true, laidKinds := [.data, .data, .data], laidTests := true, laidLooks := .later }
def ScriptReadsUptoCardSaid : Prop := Claim7.holds Tryz.pinned (.plain (OpenSpec.upto scriptReadsSpec)) scriptReadsUptoCard
end Rows
end Go.Proofs.YtgfbifafbkkghaaGreatDoor
