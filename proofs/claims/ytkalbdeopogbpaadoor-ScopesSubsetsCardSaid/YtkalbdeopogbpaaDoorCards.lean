/-
  DERIVED. GIVEN WITH THE SEED: THE CARDS: each row of YtkalbdeopogbpaaDoorRows.lean that lists a variable, with what it lists TIED to the program's text (the seventh form; the later family's looks); each row that meets fmt, with fmt's text TOLD by the authors' own Lean function (tested against real Go, not proved from fmt's source: count such statements apart). THE CARD IS WHAT COUNTS. Prove the row's statement (the work); the ties are given (YtkalbdeopogbpaaDoorTie.lean); close each card by the builder's one call (the guide's Derived/Test/ToyasCard.lean, 'card_holds'). Laid BY PROGRAM, IN A SANDBOX (cutbox-door.mjs). By AI agents, Wed Nov 11 2026. No macro, syntax, notation, axiom, sorry.
-/
import Derived.Test.YtkalbdeopogbpaaDoorRows
import GoSem.ClaimSeven
namespace Go.Proofs.YtkalbdeopogbpaaDoor
namespace Rows

/-- THE TIED CARD OF 'mummerlaw09.ScopesChecks'. -/
def scopesChecksCard : Claim7 := { stood := { row := scopesChecksRow, standIns := [], harness := (true, "49f9da7e24bddf03ab049258303387cd09075192037f331c161150d18b3da9c3"), looks := false }, kinds := [], alts := [], laidByText := true, laidKinds := [.data, .data, .data], laidTests := true, laidLooks := .later }
def ScopesChecksCardSaid : Prop := Claim7.holds Tryd.pinned (.plain (OpenSpec.ofChange scopesChecksSpec)) scopesChecksCard

/-- THE TIED CARD OF 'mummerlaw09.ScopesChanges'. -/
def scopesChangesCard : Claim7 := { stood := { row := scopesChangesRow, standIns := [], harness := (true, "49f9da7e24bddf03ab049258303387cd09075192037f331c161150d18b3da9c3"), looks := false }, kinds := [], alts := [], laidByText := true, laidKinds := [.data, .data, .data], laidTests := true, laidLooks := .later }
def ScopesChangesCardSaid : Prop := Claim7.holds Tryd.pinned (.plain (OpenSpec.ofChange scopesChangesSpec)) scopesChangesCard

/-- THE TIED CARD OF 'mummerlaw09.ScopesFlips'. -/
def scopesFlipsCard : Claim7 := { stood := { row := scopesFlipsRow, standIns := [], harness := (true, "49f9da7e24bddf03ab049258303387cd09075192037f331c161150d18b3da9c3"), looks := false }, kinds := [], alts := [], laidByText := true, laidKinds := [.data, .data, .data], laidTests := true, laidLooks := .later }
def ScopesFlipsCardSaid : Prop := Claim7.holds Tryd.pinned (.plain (OpenSpec.ofChange scopesFlipsSpec)) scopesFlipsCard

/-- THE TIED CARD OF 'mummerlaw09.ScopesLattice'. -/
def scopesLatticeCard : Claim7 := { stood := { row := scopesLatticeRow, standIns := [], harness := (true, "49f9da7e24bddf03ab049258303387cd09075192037f331c161150d18b3da9c3"), looks := false }, kinds := [], alts := [], laidByText := true, laidKinds := [.data, .data, .data], laidTests := true, laidLooks := .later }
def ScopesLatticeCardSaid : Prop := Claim7.holds Tryd.pinned (.plain (OpenSpec.ofChange scopesLatticeSpec)) scopesLatticeCard

/-- THE TIED CARD OF 'mummerlaw09.ScopesMeets'. -/
def scopesMeetsCard : Claim7 := { stood := { row := scopesMeetsRow, standIns := [], harness := (true, "49f9da7e24bddf03ab049258303387cd09075192037f331c161150d18b3da9c3"), looks := false }, kinds := [], alts := [], laidByText := true, laidKinds := [.data, .data, .data], laidTests := true, laidLooks := .later }
def ScopesMeetsCardSaid : Prop := Claim7.holds Tryd.pinned (.plain (OpenSpec.ofChange scopesMeetsSpec)) scopesMeetsCard

/-- THE TIED CARD OF 'mummerlaw09.ScopesSubsets'. -/
def scopesSubsetsCard : Claim7 := { stood := { row := scopesSubsetsRow, standIns := [], harness := (true, "49f9da7e24bddf03ab049258303387cd09075192037f331c161150d18b3da9c3"), looks := false }, kinds := [], alts := [], laidByText := true, laidKinds := [.data, .data, .data], laidTests := true, laidLooks := .later }
def ScopesSubsetsCardSaid : Prop := Claim7.holds Tryd.pinned (.plain (OpenSpec.ofChange scopesSubsetsSpec)) scopesSubsetsCard

/-- THE SECOND FORM's CARD OF 'mummerlaw09.ScopesChecks'. -/
def scopesChecksUptoCard : Claim7 := { stood := { row := scopesChecksUptoRow, standIns := [], harness := (true, "49f9da7e24bddf03ab049258303387cd09075192037f331c161150d18b3da9c3"), looks := false }, kinds := [], alts := [], laidByText := true, laidKinds := [.data, .data, .data], laidTests := true, laidLooks := .later }
def ScopesChecksUptoCardSaid : Prop := Claim7.holds Tryd.pinned (.plain (OpenSpec.upto scopesChecksSpec)) scopesChecksUptoCard

/-- THE SECOND FORM's CARD OF 'mummerlaw09.ScopesChanges'. -/
def scopesChangesUptoCard : Claim7 := { stood := { row := scopesChangesUptoRow, standIns := [], harness := (true, "49f9da7e24bddf03ab049258303387cd09075192037f331c161150d18b3da9c3"), looks := false }, kinds := [], alts := [], laidByText := true, laidKinds := [.data, .data, .data], laidTests := true, laidLooks := .later }
def ScopesChangesUptoCardSaid : Prop := Claim7.holds Tryd.pinned (.plain (OpenSpec.upto scopesChangesSpec)) scopesChangesUptoCard

/-- THE SECOND FORM's CARD OF 'mummerlaw09.ScopesFlips'. -/
def scopesFlipsUptoCard : Claim7 := { stood := { row := scopesFlipsUptoRow, standIns := [], harness := (true, "49f9da7e24bddf03ab049258303387cd09075192037f331c161150d18b3da9c3"), looks := false }, kinds := [], alts := [], laidByText := true, laidKinds := [.data, .data, .data], laidTests := true, laidLooks := .later }
def ScopesFlipsUptoCardSaid : Prop := Claim7.holds Tryd.pinned (.plain (OpenSpec.upto scopesFlipsSpec)) scopesFlipsUptoCard

/-- THE SECOND FORM's CARD OF 'mummerlaw09.ScopesLattice'. -/
def scopesLatticeUptoCard : Claim7 := { stood := { row := scopesLatticeUptoRow, standIns := [], harness := (true, "49f9da7e24bddf03ab049258303387cd09075192037f331c161150d18b3da9c3"), looks := false }, kinds := [], alts := [], laidByText := true, laidKinds := [.data, .data, .data], laidTests := true, laidLooks := .later }
def ScopesLatticeUptoCardSaid : Prop := Claim7.holds Tryd.pinned (.plain (OpenSpec.upto scopesLatticeSpec)) scopesLatticeUptoCard

/-- THE SECOND FORM's CARD OF 'mummerlaw09.ScopesMeets'. -/
def scopesMeetsUptoCard : Claim7 := { stood := { row := scopesMeetsUptoRow, standIns := [], harness := (true, "49f9da7e24bddf03ab049258303387cd09075192037f331c161150d18b3da9c3"), looks := false }, kinds := [], alts := [], laidByText := true, laidKinds := [.data, .data, .data], laidTests := true, laidLooks := .later }
def ScopesMeetsUptoCardSaid : Prop := Claim7.holds Tryd.pinned (.plain (OpenSpec.upto scopesMeetsSpec)) scopesMeetsUptoCard

/-- THE SECOND FORM's CARD OF 'mummerlaw09.ScopesSubsets'. -/
def scopesSubsetsUptoCard : Claim7 := { stood := { row := scopesSubsetsUptoRow, standIns := [], harness := (true, "49f9da7e24bddf03ab049258303387cd09075192037f331c161150d18b3da9c3"), looks := false }, kinds := [], alts := [], laidByText := true, laidKinds := [.data, .data, .data], laidTests := true, laidLooks := .later }
def ScopesSubsetsUptoCardSaid : Prop := Claim7.holds Tryd.pinned (.plain (OpenSpec.upto scopesSubsetsSpec)) scopesSubsetsUptoCard
end Rows
end Go.Proofs.YtkalbdeopogbpaaDoor
