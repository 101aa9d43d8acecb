/-
  DERIVED. GIVEN WITH THE SEED: THE CARDS: each row of YtnkfdobcmfdhfaaDoorRows.lean that lists a variable, with what it lists TIED to the program's text (the seventh form; the later family's looks); each row that meets fmt, with fmt's text TOLD by the authors' own Lean function (tested against real Go, not proved from fmt's source: count such statements apart). THE CARD IS WHAT COUNTS. Prove the row's statement (the work); the ties are given (YtnkfdobcmfdhfaaDoorTie.lean); close each card by the builder's one call (the guide's Derived/Test/ToyasCard.lean, 'card_holds'). Laid BY PROGRAM, IN A SANDBOX (cutbox-door.mjs). By AI agents, Wed Nov 11 2026. No macro, syntax, notation, axiom, sorry.
-/
import Derived.Test.YtnkfdobcmfdhfaaDoorRows
import GoSem.ClaimSeven
namespace Go.Proofs.YtnkfdobcmfdhfaaDoor
namespace Rows

/-- THE TIED CARD OF 'mummerlaw03.SpansShifts'. -/
def spansShiftsCard : Claim7 := { stood := { row := spansShiftsRow, standIns := [], harness := (true, "355bd9f96174e49c7ff6ee264efef5372a0bec6f6303d2832c4037356d01ef77"), looks := false }, kinds := [], alts := [], laidByText := true, laidKinds := [.data, .pinned], laidTests := true, laidLooks := .later }
def SpansShiftsCardSaid : Prop := Claim7.holds Tryd.pinned (.plain (OpenSpec.ofChange spansShiftsSpec)) spansShiftsCard

/-- THE TIED CARD OF 'mummerlaw03.SpansOrder'. -/
def spansOrderCard : Claim7 := { stood := { row := spansOrderRow, standIns := [], harness := (true, "355bd9f96174e49c7ff6ee264efef5372a0bec6f6303d2832c4037356d01ef77"), looks := false }, kinds := [], alts := [], laidByText := true, laidKinds := [.data, .pinned], laidTests := true, laidLooks := .later }
def SpansOrderCardSaid : Prop := Claim7.holds Tryd.pinned (.plain (OpenSpec.ofChange spansOrderSpec)) spansOrderCard

/-- THE TIED CARD OF 'mummerlaw03.SpansNest'. -/
def spansNestCard : Claim7 := { stood := { row := spansNestRow, standIns := [], harness := (true, "355bd9f96174e49c7ff6ee264efef5372a0bec6f6303d2832c4037356d01ef77"), looks := false }, kinds := [], alts := [], laidByText := true, laidKinds := [.data, .pinned], laidTests := true, laidLooks := .later }
def SpansNestCardSaid : Prop := Claim7.holds Tryd.pinned (.plain (OpenSpec.ofChange spansNestSpec)) spansNestCard

/-- THE TIED CARD OF 'mummerlaw03.SpansEdits'. -/
def spansEditsCard : Claim7 := { stood := { row := spansEditsRow, standIns := [], harness := (true, "355bd9f96174e49c7ff6ee264efef5372a0bec6f6303d2832c4037356d01ef77"), looks := false }, kinds := [], alts := [], laidByText := true, laidKinds := [.data, .pinned], laidTests := true, laidLooks := .later }
def SpansEditsCardSaid : Prop := Claim7.holds Tryd.pinned (.plain (OpenSpec.ofChange spansEditsSpec)) spansEditsCard

/-- THE TIED CARD OF 'mummerlaw03.SpansCover'. -/
def spansCoverCard : Claim7 := { stood := { row := spansCoverRow, standIns := [], harness := (true, "355bd9f96174e49c7ff6ee264efef5372a0bec6f6303d2832c4037356d01ef77"), looks := false }, kinds := [], alts := [], laidByText := true, laidKinds := [.data, .pinned], laidTests := true, laidLooks := .later }
def SpansCoverCardSaid : Prop := Claim7.holds Tryd.pinned (.plain (OpenSpec.ofChange spansCoverSpec)) spansCoverCard

/-- THE TIED CARD OF 'mummerlaw03.SpansPlaces'. -/
def spansPlacesCard : Claim7 := { stood := { row := spansPlacesRow, standIns := [], harness := (true, "355bd9f96174e49c7ff6ee264efef5372a0bec6f6303d2832c4037356d01ef77"), looks := false }, kinds := [], alts := [], laidByText := true, laidKinds := [.data, .pinned], laidTests := true, laidLooks := .later }
def SpansPlacesCardSaid : Prop := Claim7.holds Tryd.pinned (.plain (OpenSpec.ofChange spansPlacesSpec)) spansPlacesCard

/-- THE TIED CARD OF 'mummerlaw03.SpansBack'. -/
def spansBackCard : Claim7 := { stood := { row := spansBackRow, standIns := [], harness := (true, "355bd9f96174e49c7ff6ee264efef5372a0bec6f6303d2832c4037356d01ef77"), looks := false }, kinds := [], alts := [], laidByText := true, laidKinds := [.data, .pinned], laidTests := true, laidLooks := .later }
def SpansBackCardSaid : Prop := Claim7.holds Tryd.pinned (.plain (OpenSpec.ofChange spansBackSpec)) spansBackCard

/-- THE TIED CARD OF 'mummerlaw03.SpansKnown'. -/
def spansKnownCard : Claim7 := { stood := { row := spansKnownRow, standIns := [], harness := (true, "355bd9f96174e49c7ff6ee264efef5372a0bec6f6303d2832c4037356d01ef77"), looks := false }, kinds := [], alts := [], laidByText := true, laidKinds := [.data, .pinned], laidTests := true, laidLooks := .later }
def SpansKnownCardSaid : Prop := Claim7.holds Tryd.pinned (.plain (OpenSpec.ofChange spansKnownSpec)) spansKnownCard

/-- THE TIED CARD OF 'mummerlaw03.SpansPairs'. -/
def spansPairsCard : Claim7 := { stood := { row := spansPairsRow, standIns := [], harness := (true, "355bd9f96174e49c7ff6ee264efef5372a0bec6f6303d2832c4037356d01ef77"), looks := false }, kinds := [], alts := [], laidByText := true, laidKinds := [.data, .pinned], laidTests := true, laidLooks := .later }
def SpansPairsCardSaid : Prop := Claim7.holds Tryd.pinned (.plain (OpenSpec.ofChange spansPairsSpec)) spansPairsCard

/-- THE SECOND FORM's CARD OF 'mummerlaw03.SpansShifts'. -/
def spansShiftsUptoCard : Claim7 := { stood := { row := spansShiftsUptoRow, standIns := [], harness := (true, "355bd9f96174e49c7ff6ee264efef5372a0bec6f6303d2832c4037356d01ef77"), looks := false }, kinds := [], alts := [], laidByText := true, laidKinds := [.data, .pinned], laidTests := true, laidLooks := .later }
def SpansShiftsUptoCardSaid : Prop := Claim7.holds Tryd.pinned (.plain (OpenSpec.upto spansShiftsSpec)) spansShiftsUptoCard

/-- THE SECOND FORM's CARD OF 'mummerlaw03.SpansOrder'. -/
def spansOrderUptoCard : Claim7 := { stood := { row := spansOrderUptoRow, standIns := [], harness := (true, "355bd9f96174e49c7ff6ee264efef5372a0bec6f6303d2832c4037356d01ef77"), looks := false }, kinds := [], alts := [], laidByText := true, laidKinds := [.data, .pinned], laidTests := true, laidLooks := .later }
def SpansOrderUptoCardSaid : Prop := Claim7.holds Tryd.pinned (.plain (OpenSpec.upto spansOrderSpec)) spansOrderUptoCard

/-- THE SECOND FORM's CARD OF 'mummerlaw03.SpansNest'. -/
def spansNestUptoCard : Claim7 := { stood := { row := spansNestUptoRow, standIns := [], harness := (true, "355bd9f96174e49c7ff6ee264efef5372a0bec6f6303d2832c4037356d01ef77"), looks := false }, kinds := [], alts := [], laidByText := true, laidKinds := [.data, .pinned], laidTests := true, laidLooks := .later }
def SpansNestUptoCardSaid : Prop := Claim7.holds Tryd.pinned (.plain (OpenSpec.upto spansNestSpec)) spansNestUptoCard

/-- THE SECOND FORM's CARD OF 'mummerlaw03.SpansEdits'. -/
def spansEditsUptoCard : Claim7 := { stood := { row := spansEditsUptoRow, standIns := [], harness := (true, "355bd9f96174e49c7ff6ee264efef5372a0bec6f6303d2832c4037356d01ef77"), looks := false }, kinds := [], alts := [], laidByText := true, laidKinds := [.data, .pinned], laidTests := true, laidLooks := .later }
def SpansEditsUptoCardSaid : Prop := Claim7.holds Tryd.pinned (.plain (OpenSpec.upto spansEditsSpec)) spansEditsUptoCard

/-- THE SECOND FORM's CARD OF 'mummerlaw03.SpansCover'. -/
def spansCoverUptoCard : Claim7 := { stood := { row := spansCoverUptoRow, standIns := [], harness := (true, "355bd9f96174e49c7ff6ee264efef5372a0bec6f6303d2832c4037356d01ef77"), looks := false }, kinds := [], alts := [], laidByText := true, laidKinds := [.data, .pinned], laidTests := true, laidLooks := .later }
def SpansCoverUptoCardSaid : Prop := Claim7.holds Tryd.pinned (.plain (OpenSpec.upto spansCoverSpec)) spansCoverUptoCard

/-- THE SECOND FORM's CARD OF 'mummerlaw03.SpansPlaces'. -/
def spansPlacesUptoCard : Claim7 := { stood := { row := spansPlacesUptoRow, standIns := [], harness := (true, "355bd9f96174e49c7ff6ee264efef5372a0bec6f6303d2832c4037356d01ef77"), looks := false }, kinds := [], alts := [], laidByText := true, laidKinds := [.data, .pinned], laidTests := true, laidLooks := .later }
def SpansPlacesUptoCardSaid : Prop := Claim7.holds Tryd.pinned (.plain (OpenSpec.upto spansPlacesSpec)) spansPlacesUptoCard

/-- THE SECOND FORM's CARD OF 'mummerlaw03.SpansBack'. -/
def spansBackUptoCard : Claim7 := { stood := { row := spansBackUptoRow, standIns := [], harness := (true, "355bd9f96174e49c7ff6ee264efef5372a0bec6f6303d2832c4037356d01ef77"), looks := false }, kinds := [], alts := [], laidByText := true, laidKinds := [.data, .pinned], laidTests := true, laidLooks := .later }
def SpansBackUptoCardSaid : Prop := Claim7.holds Tryd.pinned (.plain (OpenSpec.upto spansBackSpec)) spansBackUptoCard

/-- THE SECOND FORM's CARD OF 'mummerlaw03.SpansKnown'. -/
def spansKnownUptoCard : Claim7 := { stood := { row := spansKnownUptoRow, standIns := [], harness := (true, "355bd9f96174e49c7ff6ee264efef5372a0bec6f6303d2832c4037356d01ef77"), looks := false }, kinds := [], alts := [], laidByText := true, laidKinds := [.data, .pinned], laidTests := true, laidLooks := .later }
def SpansKnownUptoCardSaid : Prop := Claim7.holds Tryd.pinned (.plain (OpenSpec.upto spansKnownSpec)) spansKnownUptoCard

/-- THE SECOND FORM's CARD OF 'mummerlaw03.SpansPairs'. -/
def spansPairsUptoCard : Claim7 := { stood := { row := spansPairsUptoRow, standIns := [], harness := (true, "355bd9f96174e49c7ff6ee264efef5372a0bec6f6303d2832c4037356d01ef77"), looks := false }, kinds := [], alts := [], laidByText := true, laidKinds := [.data, .pinned], laidTests := true, laidLooks := .later }
def SpansPairsUptoCardSaid : Prop := Claim7.holds Tryd.pinned (.plain (OpenSpec.upto spansPairsSpec)) spansPairsUptoCard
end Rows
end Go.Proofs.YtnkfdobcmfdhfaaDoor
