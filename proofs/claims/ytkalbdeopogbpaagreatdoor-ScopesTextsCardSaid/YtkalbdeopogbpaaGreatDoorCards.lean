/-
  DERIVED. GIVEN WITH THE SEED: THE CARDS: each row of YtkalbdeopogbpaaGreatDoorRows.lean that lists a variable, with what it lists TIED to the program's text (the seventh form; the later family's looks); each row that meets fmt, with fmt's text TOLD by the authors' own Lean function (tested against real Go, not proved from fmt's source: count such statements apart). THE CARD IS WHAT COUNTS. Prove the row's statement (the work); the ties are given (YtkalbdeopogbpaaGreatDoorTie.lean); close each card by the builder's one call (the guide's Derived/Test/ToyasCard.lean, 'card_holds'). Laid BY PROGRAM, IN A SANDBOX (cutbox-door.mjs). By AI agents, Wed Nov 11 2026. No macro, syntax, notation, axiom, sorry.
-/
import Derived.Test.YtkalbdeopogbpaaGreatDoorRows
import GoSem.ClaimSeven
namespace Go.Proofs.YtkalbdeopogbpaaGreatDoor
namespace Rows

/-- THE TIED CARD OF 'mummerlaw09.ScopesTexts'. -/
def scopesTextsCard : Claim7 := { stood := { row := scopesTextsRow, standIns := [], harness := (true, "64818e10c6c2fcee326d0e93cd40cb1a9325a72aba73765d65294f7e57e87e76"), looks := true }, kinds := [], alts := [], laidByText := true, laidKinds := [.data, .data, .data, .data, .sentinel, .sentinel, .pinned], laidTests := true, laidLooks := .later }
def ScopesTextsCardSaid : Prop := Claim7.holds Tryz.pinned (.plain (OpenSpec.ofChange scopesTextsSpec)) scopesTextsCard

/-- THE SECOND FORM's CARD OF 'mummerlaw09.ScopesTexts'. -/
def scopesTextsUptoCard : Claim7 := { stood := { row := scopesTextsUptoRow, standIns := [], harness := (true, "64818e10c6c2fcee326d0e93cd40cb1a9325a72aba73765d65294f7e57e87e76"), looks := true }, kinds := [], alts := [], laidByText := true, laidKinds := [.data, .data, .data, .data, .sentinel, .sentinel, .pinned], laidTests := true, laidLooks := .later }
def ScopesTextsUptoCardSaid : Prop := Claim7.holds Tryz.pinned (.plain (OpenSpec.upto scopesTextsSpec)) scopesTextsUptoCard
end Rows
end Go.Proofs.YtkalbdeopogbpaaGreatDoor
