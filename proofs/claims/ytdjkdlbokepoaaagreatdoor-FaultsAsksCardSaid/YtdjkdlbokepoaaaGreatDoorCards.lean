/-
  DERIVED. GIVEN WITH THE SEED: THE CARDS: each row of YtdjkdlbokepoaaaGreatDoorRows.lean that lists a variable, with what it lists TIED to the program's text (the seventh form; the later family's looks); each row that meets fmt, with fmt's text TOLD by the authors' own Lean function (tested against real Go, not proved from fmt's source: count such statements apart). THE CARD IS WHAT COUNTS. Prove the row's statement (the work); the ties are given (YtdjkdlbokepoaaaGreatDoorTie.lean); close each card by the builder's one call (the guide's Derived/Test/ToyasCard.lean, 'card_holds'). Laid BY PROGRAM, IN A SANDBOX (cutbox-door.mjs). By AI agents, Wed Nov 11 2026. No macro, syntax, notation, axiom, sorry.
-/
import Derived.Test.YtdjkdlbokepoaaaGreatDoorRows
import GoSem.ClaimSeven
namespace Go.Proofs.YtdjkdlbokepoaaaGreatDoor
namespace Rows

/-- THE TIED CARD OF 'mummerlaw08.FaultsChecks'. -/
def faultsChecksCard : Claim7 := { stood := { row := faultsChecksRow, standIns := [], harness := (true, "db40d2d8ace26fd34ce556edacc09c82f31ad7be55774cca8a1af39497436cb2"), looks := true }, kinds := [], alts := [], laidByText := true, laidKinds := [.data, .data, .data, .data, .handle, .data, .data, .pinned], laidTests := true, laidLooks := .later }
def FaultsChecksCardSaid : Prop := Claim7.holds Tryz.pinned (.plain (OpenSpec.ofChange faultsChecksSpec)) faultsChecksCard

/-- THE TIED CARD OF 'mummerlaw08.FaultsWords'. -/
def faultsWordsCard : Claim7 := { stood := { row := faultsWordsRow, standIns := [], harness := (true, "db40d2d8ace26fd34ce556edacc09c82f31ad7be55774cca8a1af39497436cb2"), looks := true }, kinds := [], alts := [], laidByText := true, laidKinds := [.data, .data, .data, .data, .handle, .data, .data, .pinned], laidTests := true, laidLooks := .later }
def FaultsWordsCardSaid : Prop := Claim7.holds Tryz.pinned (.plain (OpenSpec.ofChange faultsWordsSpec)) faultsWordsCard

/-- THE TIED CARD OF 'mummerlaw08.FaultsTells'. -/
def faultsTellsCard : Claim7 := { stood := { row := faultsTellsRow, standIns := [], harness := (true, "db40d2d8ace26fd34ce556edacc09c82f31ad7be55774cca8a1af39497436cb2"), looks := true }, kinds := [], alts := [], laidByText := true, laidKinds := [.data, .data, .data, .data, .handle, .data, .data, .pinned], laidTests := true, laidLooks := .later }
def FaultsTellsCardSaid : Prop := Claim7.holds Tryz.pinned (.plain (OpenSpec.ofChange faultsTellsSpec)) faultsTellsCard

/-- THE TIED CARD OF 'mummerlaw08.FaultsPlaces'. -/
def faultsPlacesCard : Claim7 := { stood := { row := faultsPlacesRow, standIns := [], harness := (true, "db40d2d8ace26fd34ce556edacc09c82f31ad7be55774cca8a1af39497436cb2"), looks := true }, kinds := [], alts := [], laidByText := true, laidKinds := [.data, .data, .data, .data, .handle, .data, .data, .pinned], laidTests := true, laidLooks := .later }
def FaultsPlacesCardSaid : Prop := Claim7.holds Tryz.pinned (.plain (OpenSpec.ofChange faultsPlacesSpec)) faultsPlacesCard

/-- THE TIED CARD OF 'mummerlaw08.FaultsMarks'. -/
def faultsMarksCard : Claim7 := { stood := { row := faultsMarksRow, standIns := [], harness := (true, "db40d2d8ace26fd34ce556edacc09c82f31ad7be55774cca8a1af39497436cb2"), looks := true }, kinds := [], alts := [], laidByText := true, laidKinds := [.data, .data, .data, .data, .handle, .data, .data, .pinned], laidTests := true, laidLooks := .later }
def FaultsMarksCardSaid : Prop := Claim7.holds Tryz.pinned (.plain (OpenSpec.ofChange faultsMarksSpec)) faultsMarksCard

/-- THE TIED CARD OF 'mummerlaw08.FaultsChains'. -/
def faultsChainsCard : Claim7 := { stood := { row := faultsChainsRow, standIns := [], harness := (true, "db40d2d8ace26fd34ce556edacc09c82f31ad7be55774cca8a1af39497436cb2"), looks := true }, kinds := [], alts := [], laidByText := true, laidKinds := [.data, .data, .data, .data, .handle, .data, .data, .pinned], laidTests := true, laidLooks := .later }
def FaultsChainsCardSaid : Prop := Claim7.holds Tryz.pinned (.plain (OpenSpec.ofChange faultsChainsSpec)) faultsChainsCard

/-- THE TIED CARD OF 'mummerlaw08.FaultsAsks'. -/
def faultsAsksCard : Claim7 := { stood := { row := faultsAsksRow, standIns := [], harness := (true, "db40d2d8ace26fd34ce556edacc09c82f31ad7be55774cca8a1af39497436cb2"), looks := true }, kinds := [], alts := [], laidByText := true, laidKinds := [.data, .data, .data, .data, .handle, .data, .data, .pinned], laidTests := true, laidLooks := .later }
def FaultsAsksCardSaid : Prop := Claim7.holds Tryz.pinned (.plain (OpenSpec.ofChange faultsAsksSpec)) faultsAsksCard

/-- THE TIED CARD OF 'mummerlaw08.FaultsKnown'. -/
def faultsKnownCard : Claim7 := { stood := { row := faultsKnownRow, standIns := [], harness := (true, "db40d2d8ace26fd34ce556edacc09c82f31ad7be55774cca8a1af39497436cb2"), looks := true }, kinds := [], alts := [], laidByText := true, laidKinds := [.data, .data, .data, .data, .handle, .data, .data, .pinned], laidTests := true, laidLooks := .later }
def FaultsKnownCardSaid : Prop := Claim7.holds Tryz.pinned (.plain (OpenSpec.ofChange faultsKnownSpec)) faultsKnownCard

/-- THE SECOND FORM's CARD OF 'mummerlaw08.FaultsChecks'. -/
def faultsChecksUptoCard : Claim7 := { stood := { row := faultsChecksUptoRow, standIns := [], harness := (true, "db40d2d8ace26fd34ce556edacc09c82f31ad7be55774cca8a1af39497436cb2"), looks := true }, kinds := [], alts := [], laidByText := true, laidKinds := [.data, .data, .data, .data, .handle, .data, .data, .pinned], laidTests := true, laidLooks := .later }
def FaultsChecksUptoCardSaid : Prop := Claim7.holds Tryz.pinned (.plain (OpenSpec.upto faultsChecksSpec)) faultsChecksUptoCard

/-- THE SECOND FORM's CARD OF 'mummerlaw08.FaultsWords'. -/
def faultsWordsUptoCard : Claim7 := { stood := { row := faultsWordsUptoRow, standIns := [], harness := (true, "db40d2d8ace26fd34ce556edacc09c82f31ad7be55774cca8a1af39497436cb2"), looks := true }, kinds := [], alts := [], laidByText := true, laidKinds := [.data, .data, .data, .data, .handle, .data, .data, .pinned], laidTests := true, laidLooks := .later }
def FaultsWordsUptoCardSaid : Prop := Claim7.holds Tryz.pinned (.plain (OpenSpec.upto faultsWordsSpec)) faultsWordsUptoCard

/-- THE SECOND FORM's CARD OF 'mummerlaw08.FaultsTells'. -/
def faultsTellsUptoCard : Claim7 := { stood := { row := faultsTellsUptoRow, standIns := [], harness := (true, "db40d2d8ace26fd34ce556edacc09c82f31ad7be55774cca8a1af39497436cb2"), looks := true }, kinds := [], alts := [], laidByText := true, laidKinds := [.data, .data, .data, .data, .handle, .data, .data, .pinned], laidTests := true, laidLooks := .later }
def FaultsTellsUptoCardSaid : Prop := Claim7.holds Tryz.pinned (.plain (OpenSpec.upto faultsTellsSpec)) faultsTellsUptoCard

/-- THE SECOND FORM's CARD OF 'mummerlaw08.FaultsPlaces'. -/
def faultsPlacesUptoCard : Claim7 := { stood := { row := faultsPlacesUptoRow, standIns := [], harness := (true, "db40d2d8ace26fd34ce556edacc09c82f31ad7be55774cca8a1af39497436cb2"), looks := true }, kinds := [], alts := [], laidByText := true, laidKinds := [.data, .data, .data, .data, .handle, .data, .data, .pinned], laidTests := true, laidLooks := .later }
def FaultsPlacesUptoCardSaid : Prop := Claim7.holds Tryz.pinned (.plain (OpenSpec.upto faultsPlacesSpec)) faultsPlacesUptoCard

/-- THE SECOND FORM's CARD OF 'mummerlaw08.FaultsMarks'. -/
def faultsMarksUptoCard : Claim7 := { stood := { row := faultsMarksUptoRow, standIns := [], harness := (true, "db40d2d8ace26fd34ce556edacc09c82f31ad7be55774cca8a1af39497436cb2"), looks := true }, kinds := [], alts := [], laidByText := true, laidKinds := [.data, .data, .data, .data, .handle, .data, .data, .pinned], laidTests := true, laidLooks := .later }
def FaultsMarksUptoCardSaid : Prop := Claim7.holds Tryz.pinned (.plain (OpenSpec.upto faultsMarksSpec)) faultsMarksUptoCard

/-- THE SECOND FORM's CARD OF 'mummerlaw08.FaultsChains'. -/
def faultsChainsUptoCard : Claim7 := { stood := { row := faultsChainsUptoRow, standIns := [], harness := (true, "db40d2d8ace26fd34ce556edacc09c82f31ad7be55774cca8a1af39497436cb2"), looks := true }, kinds := [], alts := [], laidByText := true, laidKinds := [.data, .data, .data, .data, .handle, .data, .data, .pinned], laidTests := true, laidLooks := .later }
def FaultsChainsUptoCardSaid : Prop := Claim7.holds Tryz.pinned (.plain (OpenSpec.upto faultsChainsSpec)) faultsChainsUptoCard

/-- THE SECOND FORM's CARD OF 'mummerlaw08.FaultsAsks'. -/
def faultsAsksUptoCard : Claim7 := { stood := { row := faultsAsksUptoRow, standIns := [], harness := (true, "db40d2d8ace26fd34ce556edacc09c82f31ad7be55774cca8a1af39497436cb2"), looks := true }, kinds := [], alts := [], laidByText := true, laidKinds := [.data, .data, .data, .data, .handle, .data, .data, .pinned], laidTests := true, laidLooks := .later }
def FaultsAsksUptoCardSaid : Prop := Claim7.holds Tryz.pinned (.plain (OpenSpec.upto faultsAsksSpec)) faultsAsksUptoCard

/-- THE SECOND FORM's CARD OF 'mummerlaw08.FaultsKnown'. -/
def faultsKnownUptoCard : Claim7 := { stood := { row := faultsKnownUptoRow, standIns := [], harness := (true, "db40d2d8ace26fd34ce556edacc09c82f31ad7be55774cca8a1af39497436cb2"), looks := true }, kinds := [], alts := [], laidByText := true, laidKinds := [.data, .data, .data, .data, .handle, .data, .data, .pinned], laidTests := true, laidLooks := .later }
def FaultsKnownUptoCardSaid : Prop := Claim7.holds Tryz.pinned (.plain (OpenSpec.upto faultsKnownSpec)) faultsKnownUptoCard
end Rows
end Go.Proofs.YtdjkdlbokepoaaaGreatDoor
