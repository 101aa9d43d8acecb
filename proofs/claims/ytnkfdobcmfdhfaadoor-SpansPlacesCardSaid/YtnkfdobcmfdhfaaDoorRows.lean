/-
  NARROWER THAN 'FOR EVERY INPUT', by the rows' own cells (each row's printed sentence says how): SpansShifts: laid · SpansOrder: laid · SpansNest: laid · SpansEdits: laid · SpansCover: laid · SpansPlaces: laid · SpansBack: laid · SpansKnown: laid · SpansPairs: laid.
  DERIVED. THE GIVEN ROWS OF THIS SEAT. 9 by the template 'for every input the law returns true; each argument reads behind the call as it read before'; 0 by the template 'total and deterministic' (their statements: YtnkfdobcmfdhfaaDoorTotals.lean).
  GIVEN WITH THE SEED: the statements are not yours to turn. If you find one false, say at which input.
  Laid BY PROGRAM, IN A SANDBOX (cutbox-rows.mjs): the forced cells as the released guide's own fill.sh prints them over the translation c8c581693b2430b3… (all of the seat's roots in one cut). By AI agents, Wed Nov 11 2026. No macro, syntax, notation, axiom, sorry.
-/
import Derived.Test.YtnkfdobcmfdhfaaDoorChecked
import GoSem.PinnedTables
import GoSem.Claim
import GoSem.ClaimJoined
import GoSem.ClaimMapViews
import Derived.JoinedTies
import Derived.KernelRfl
namespace Go.Proofs.YtnkfdobcmfdhfaaDoor
/- THE CELL 'sum', in the pinned program and in every row, IS THE sha256 OF THE DUMP (.gsa) THAT YtnkfdobcmfdhfaaDoorProg.lean LOADS. Nothing in Lean hashes anything: it is a label: what it is worth is what the hold of that sum in a sandbox is worth. -/
noncomputable def Tryd.pinned : Pinned := { name := "ytnkfdobcmfdhfaadoor", sum := "c8c581693b2430b34c9e0e37b5ebe7ea90ef5a7960313709646f7a1799acc5f7", checked := Tryd.checked }
namespace Rows
def none {H : Type} : Left H := { results := [], args := [] }

/- WHAT THE LISTED PACKAGE-LEVEL VARIABLES READ AS WHEN THE CALL BEGINS. Each datum BY PROGRAM (the guide's laid-datum.mjs) off the statement by which the dump's own 'gosem.cut.vars' lays the variable. In a bare row this is a premise. The card (YtnkfdobcmfdhfaaDoorCards.lean) ties it to the program's text. -/
def laid_unicode_utf8_acceptRanges {H : Type} : DataW H := .agg [.agg [.lit (.int .u8 128), .lit (.int .u8 191)], .agg [.lit (.int .u8 160), .lit (.int .u8 191)], .agg [.lit (.int .u8 128), .lit (.int .u8 159)], .agg [.lit (.int .u8 144), .lit (.int .u8 191)], .agg [.lit (.int .u8 128), .lit (.int .u8 143)], .agg [.lit (.int .u8 0), .lit (.int .u8 0)], .agg [.lit (.int .u8 0), .lit (.int .u8 0)], .agg [.lit (.int .u8 0), .lit (.int .u8 0)], .agg [.lit (.int .u8 0), .lit (.int .u8 0)], .agg [.lit (.int .u8 0), .lit (.int .u8 0)], .agg [.lit (.int .u8 0), .lit (.int .u8 0)], .agg [.lit (.int .u8 0), .lit (.int .u8 0)], .agg [.lit (.int .u8 0), .lit (.int .u8 0)], .agg [.lit (.int .u8 0), .lit (.int .u8 0)], .agg [.lit (.int .u8 0), .lit (.int .u8 0)], .agg [.lit (.int .u8 0), .lit (.int .u8 0)]]
/-- One of Go's own tables, pinned by name: the form's constant. -/
def laid_unicode_utf8_first : DataW Unit := Go.Pinned.utf8First

/-- 'mummerlaw03.SpansShifts': WHATEVER THE INPUT: true; the input reads as it did. -/
def spansShiftsSpec : ChangeSpec := { name := "spansShifts", fn := fun _ => fun
  | [d1, d2] => { results := [.lit (.bool true)], args := [d1, d2] }
  | _ => none }
def spansShiftsRow : OpenClaim := { program := "ytnkfdobcmfdhfaadoor", sum := "c8c581693b2430b34c9e0e37b5ebe7ea90ef5a7960313709646f7a1799acc5f7", func := "mummer/mummerlaw03.SpansShifts", spec := "spansShifts", inPlace := ["internal/bytealg.Count", "internal/bytealg.IndexByte", "internal/bytealg.Index"], unfollowed := true, recurses := true, named := ["unicode/utf8.first", "unicode/utf8.acceptRanges", "internal/bytealg.MaxLen"], apart := false, laid := [("unicode/utf8.acceptRanges", laid_unicode_utf8_acceptRanges), ("unicode/utf8.first", laid_unicode_utf8_first)] }
def SpansShiftsSaid : Prop := spansShiftsRow.holds Tryd.pinned (OpenSpec.ofChange spansShiftsSpec)

/-- ITS FALSE NEIGHBOUR: 'it returns false'. Refute it at one input. -/
def spansShiftsWrong : ChangeSpec := { name := "spansShifts", fn := fun _ => fun
  | [d1, d2] => { results := [.lit (.bool false)], args := [d1, d2] }
  | _ => none }
def SpansShiftsWrongFalsely : Prop := spansShiftsRow.holds Tryd.pinned (OpenSpec.ofChange spansShiftsWrong)

/-- 'mummerlaw03.SpansOrder': WHATEVER THE INPUT: true; the input reads as it did. -/
def spansOrderSpec : ChangeSpec := { name := "spansOrder", fn := fun _ => fun
  | [d] => { results := [.lit (.bool true)], args := [d] }
  | _ => none }
def spansOrderRow : OpenClaim := { program := "ytnkfdobcmfdhfaadoor", sum := "c8c581693b2430b34c9e0e37b5ebe7ea90ef5a7960313709646f7a1799acc5f7", func := "mummer/mummerlaw03.SpansOrder", spec := "spansOrder", inPlace := ["internal/bytealg.Count", "internal/bytealg.IndexByte", "internal/bytealg.Index"], unfollowed := true, recurses := true, named := ["unicode/utf8.first", "unicode/utf8.acceptRanges", "internal/bytealg.MaxLen"], apart := false, laid := [("unicode/utf8.acceptRanges", laid_unicode_utf8_acceptRanges), ("unicode/utf8.first", laid_unicode_utf8_first)] }
def SpansOrderSaid : Prop := spansOrderRow.holds Tryd.pinned (OpenSpec.ofChange spansOrderSpec)

/-- ITS FALSE NEIGHBOUR: 'it returns false'. Refute it at one input. -/
def spansOrderWrong : ChangeSpec := { name := "spansOrder", fn := fun _ => fun
  | [d] => { results := [.lit (.bool false)], args := [d] }
  | _ => none }
def SpansOrderWrongFalsely : Prop := spansOrderRow.holds Tryd.pinned (OpenSpec.ofChange spansOrderWrong)

/-- 'mummerlaw03.SpansNest': WHATEVER THE INPUT: true; the input reads as it did. -/
def spansNestSpec : ChangeSpec := { name := "spansNest", fn := fun _ => fun
  | [d] => { results := [.lit (.bool true)], args := [d] }
  | _ => none }
def spansNestRow : OpenClaim := { program := "ytnkfdobcmfdhfaadoor", sum := "c8c581693b2430b34c9e0e37b5ebe7ea90ef5a7960313709646f7a1799acc5f7", func := "mummer/mummerlaw03.SpansNest", spec := "spansNest", inPlace := ["internal/bytealg.Count", "internal/bytealg.IndexByte", "internal/bytealg.Index"], unfollowed := true, recurses := true, named := ["unicode/utf8.first", "unicode/utf8.acceptRanges", "internal/bytealg.MaxLen"], apart := false, laid := [("unicode/utf8.acceptRanges", laid_unicode_utf8_acceptRanges), ("unicode/utf8.first", laid_unicode_utf8_first)] }
def SpansNestSaid : Prop := spansNestRow.holds Tryd.pinned (OpenSpec.ofChange spansNestSpec)

/-- ITS FALSE NEIGHBOUR: 'it returns false'. Refute it at one input. -/
def spansNestWrong : ChangeSpec := { name := "spansNest", fn := fun _ => fun
  | [d] => { results := [.lit (.bool false)], args := [d] }
  | _ => none }
def SpansNestWrongFalsely : Prop := spansNestRow.holds Tryd.pinned (OpenSpec.ofChange spansNestWrong)

/-- 'mummerlaw03.SpansEdits': WHATEVER THE INPUT: true; the input reads as it did. -/
def spansEditsSpec : ChangeSpec := { name := "spansEdits", fn := fun _ => fun
  | [d1, d2, d3] => { results := [.lit (.bool true)], args := [d1, d2, d3] }
  | _ => none }
def spansEditsRow : OpenClaim := { program := "ytnkfdobcmfdhfaadoor", sum := "c8c581693b2430b34c9e0e37b5ebe7ea90ef5a7960313709646f7a1799acc5f7", func := "mummer/mummerlaw03.SpansEdits", spec := "spansEdits", inPlace := ["internal/bytealg.Count", "internal/bytealg.IndexByte", "internal/bytealg.Index"], unfollowed := true, recurses := true, named := ["unicode/utf8.first", "unicode/utf8.acceptRanges", "internal/bytealg.MaxLen"], apart := false, laid := [("unicode/utf8.acceptRanges", laid_unicode_utf8_acceptRanges), ("unicode/utf8.first", laid_unicode_utf8_first)] }
def SpansEditsSaid : Prop := spansEditsRow.holds Tryd.pinned (OpenSpec.ofChange spansEditsSpec)

/-- ITS FALSE NEIGHBOUR: 'it returns false'. Refute it at one input. -/
def spansEditsWrong : ChangeSpec := { name := "spansEdits", fn := fun _ => fun
  | [d1, d2, d3] => { results := [.lit (.bool false)], args := [d1, d2, d3] }
  | _ => none }
def SpansEditsWrongFalsely : Prop := spansEditsRow.holds Tryd.pinned (OpenSpec.ofChange spansEditsWrong)

/-- 'mummerlaw03.SpansCover': WHATEVER THE INPUT: true; the input reads as it did. -/
def spansCoverSpec : ChangeSpec := { name := "spansCover", fn := fun _ => fun
  | [d1, d2] => { results := [.lit (.bool true)], args := [d1, d2] }
  | _ => none }
def spansCoverRow : OpenClaim := { program := "ytnkfdobcmfdhfaadoor", sum := "c8c581693b2430b34c9e0e37b5ebe7ea90ef5a7960313709646f7a1799acc5f7", func := "mummer/mummerlaw03.SpansCover", spec := "spansCover", inPlace := ["internal/bytealg.Count", "internal/bytealg.IndexByte", "internal/bytealg.Index"], unfollowed := true, recurses := true, named := ["unicode/utf8.first", "unicode/utf8.acceptRanges", "internal/bytealg.MaxLen"], apart := false, laid := [("unicode/utf8.acceptRanges", laid_unicode_utf8_acceptRanges), ("unicode/utf8.first", laid_unicode_utf8_first)] }
def SpansCoverSaid : Prop := spansCoverRow.holds Tryd.pinned (OpenSpec.ofChange spansCoverSpec)

/-- ITS FALSE NEIGHBOUR: 'it returns false'. Refute it at one input. -/
def spansCoverWrong : ChangeSpec := { name := "spansCover", fn := fun _ => fun
  | [d1, d2] => { results := [.lit (.bool false)], args := [d1, d2] }
  | _ => none }
def SpansCoverWrongFalsely : Prop := spansCoverRow.holds Tryd.pinned (OpenSpec.ofChange spansCoverWrong)

/-- 'mummerlaw03.SpansPlaces': WHATEVER THE INPUT: true; the input reads as it did. -/
def spansPlacesSpec : ChangeSpec := { name := "spansPlaces", fn := fun _ => fun
  | [d1, d2, d3] => { results := [.lit (.bool true)], args := [d1, d2, d3] }
  | _ => none }
def spansPlacesRow : OpenClaim := { program := "ytnkfdobcmfdhfaadoor", sum := "c8c581693b2430b34c9e0e37b5ebe7ea90ef5a7960313709646f7a1799acc5f7", func := "mummer/mummerlaw03.SpansPlaces", spec := "spansPlaces", inPlace := ["internal/bytealg.Count", "internal/bytealg.IndexByte", "internal/bytealg.Index"], unfollowed := true, recurses := true, named := ["unicode/utf8.first", "unicode/utf8.acceptRanges", "internal/bytealg.MaxLen"], apart := false, laid := [("unicode/utf8.acceptRanges", laid_unicode_utf8_acceptRanges), ("unicode/utf8.first", laid_unicode_utf8_first)] }
def SpansPlacesSaid : Prop := spansPlacesRow.holds Tryd.pinned (OpenSpec.ofChange spansPlacesSpec)

/-- ITS FALSE NEIGHBOUR: 'it returns false'. Refute it at one input. -/
def spansPlacesWrong : ChangeSpec := { name := "spansPlaces", fn := fun _ => fun
  | [d1, d2, d3] => { results := [.lit (.bool false)], args := [d1, d2, d3] }
  | _ => none }
def SpansPlacesWrongFalsely : Prop := spansPlacesRow.holds Tryd.pinned (OpenSpec.ofChange spansPlacesWrong)

/-- 'mummerlaw03.SpansBack': WHATEVER THE INPUT: true; the input reads as it did. -/
def spansBackSpec : ChangeSpec := { name := "spansBack", fn := fun _ => fun
  | [d1, d2, d3] => { results := [.lit (.bool true)], args := [d1, d2, d3] }
  | _ => none }
def spansBackRow : OpenClaim := { program := "ytnkfdobcmfdhfaadoor", sum := "c8c581693b2430b34c9e0e37b5ebe7ea90ef5a7960313709646f7a1799acc5f7", func := "mummer/mummerlaw03.SpansBack", spec := "spansBack", inPlace := ["internal/bytealg.Count", "internal/bytealg.IndexByte", "internal/bytealg.Index"], unfollowed := true, recurses := true, named := ["unicode/utf8.first", "unicode/utf8.acceptRanges", "internal/bytealg.MaxLen"], apart := false, laid := [("unicode/utf8.acceptRanges", laid_unicode_utf8_acceptRanges), ("unicode/utf8.first", laid_unicode_utf8_first)] }
def SpansBackSaid : Prop := spansBackRow.holds Tryd.pinned (OpenSpec.ofChange spansBackSpec)

/-- ITS FALSE NEIGHBOUR: 'it returns false'. Refute it at one input. -/
def spansBackWrong : ChangeSpec := { name := "spansBack", fn := fun _ => fun
  | [d1, d2, d3] => { results := [.lit (.bool false)], args := [d1, d2, d3] }
  | _ => none }
def SpansBackWrongFalsely : Prop := spansBackRow.holds Tryd.pinned (OpenSpec.ofChange spansBackWrong)

/-- 'mummerlaw03.SpansKnown': WHATEVER THE INPUT: true; the input reads as it did. -/
def spansKnownSpec : ChangeSpec := { name := "spansKnown", fn := fun _ => fun
  | [] => { results := [.lit (.bool true)], args := [] }
  | _ => none }
def spansKnownRow : OpenClaim := { program := "ytnkfdobcmfdhfaadoor", sum := "c8c581693b2430b34c9e0e37b5ebe7ea90ef5a7960313709646f7a1799acc5f7", func := "mummer/mummerlaw03.SpansKnown", spec := "spansKnown", inPlace := ["internal/bytealg.Count", "internal/bytealg.IndexByte", "internal/bytealg.Index"], unfollowed := true, recurses := true, named := ["unicode/utf8.first", "unicode/utf8.acceptRanges", "internal/bytealg.MaxLen"], apart := false, laid := [("unicode/utf8.acceptRanges", laid_unicode_utf8_acceptRanges), ("unicode/utf8.first", laid_unicode_utf8_first)] }
def SpansKnownSaid : Prop := spansKnownRow.holds Tryd.pinned (OpenSpec.ofChange spansKnownSpec)

/-- ITS FALSE NEIGHBOUR: 'it returns false'. Refute it at one input. -/
def spansKnownWrong : ChangeSpec := { name := "spansKnown", fn := fun _ => fun
  | [] => { results := [.lit (.bool false)], args := [] }
  | _ => none }
def SpansKnownWrongFalsely : Prop := spansKnownRow.holds Tryd.pinned (OpenSpec.ofChange spansKnownWrong)

/-- 'mummerlaw03.SpansPairs': WHATEVER THE INPUT: true; the input reads as it did. -/
def spansPairsSpec : ChangeSpec := { name := "spansPairs", fn := fun _ => fun
  | [d1, d2] => { results := [.lit (.bool true)], args := [d1, d2] }
  | _ => none }
def spansPairsRow : OpenClaim := { program := "ytnkfdobcmfdhfaadoor", sum := "c8c581693b2430b34c9e0e37b5ebe7ea90ef5a7960313709646f7a1799acc5f7", func := "mummer/mummerlaw03.SpansPairs", spec := "spansPairs", inPlace := ["internal/bytealg.Count", "internal/bytealg.IndexByte", "internal/bytealg.Index"], unfollowed := true, recurses := true, named := ["unicode/utf8.first", "unicode/utf8.acceptRanges", "internal/bytealg.MaxLen"], apart := false, laid := [("unicode/utf8.acceptRanges", laid_unicode_utf8_acceptRanges), ("unicode/utf8.first", laid_unicode_utf8_first)] }
def SpansPairsSaid : Prop := spansPairsRow.holds Tryd.pinned (OpenSpec.ofChange spansPairsSpec)

/-- ITS FALSE NEIGHBOUR: 'it returns false'. Refute it at one input. -/
def spansPairsWrong : ChangeSpec := { name := "spansPairs", fn := fun _ => fun
  | [d1, d2] => { results := [.lit (.bool false)], args := [d1, d2] }
  | _ => none }
def SpansPairsWrongFalsely : Prop := spansPairsRow.holds Tryd.pinned (OpenSpec.ofChange spansPairsWrong)

/- THE SECOND FORM. 'bulk': how many values and letters a reading holds, each counted each time it is reached (what is shared counts as often as it is met; a slice's spare places count too). A statement '..UptoSaid' is the law's where the arguments, and the package variables that the reading takes, are together of bulk at most 1048576: NARROWER than '..Said'. Prove '..Said' where nothing that the law and all that it calls make is longer than what came in: it says more and counts as full. Else prove '..UptoSaid'. A law counts once. -/
mutual
def uptoBulk {H : Type} : DataW H → Nat
  | .lit (.string bytes) => bytes.length + 1
  | .lit _ => 1
  | .nil => 1
  | .ptr d => uptoBulk d + 1
  | .slice elems spare => uptoBulkAll elems + uptoBulkAll spare + 1
  | .agg parts => uptoBulkAll parts + 1
  | .iface _ d => uptoBulk d + 1
  | .map entries => uptoBulkEntries entries + 1
  | .held _ => 1
def uptoBulkAll {H : Type} : List (DataW H) → Nat
  | [] => 0
  | d :: r => uptoBulk d + uptoBulkAll r
def uptoBulkEntries {H : Type} : List (Lit × DataW H) → Nat
  | [] => 0
  | x :: r => uptoBulkEntry x + uptoBulkEntries r
def uptoBulkEntry {H : Type} : Lit × DataW H → Nat
  | (.string bytes, d) => bytes.length + uptoBulk d + 1
  | (_, d) => uptoBulk d + 1
 end
def uptoSmall : (H : Type) → List (DataW H) → Bool := fun _ ds => decide (uptoBulkAll ds ≤ 1048576)
def OpenSpec.upto (s : _root_.Go.ChangeSpec) : _root_.Go.OpenSpec := { _root_.Go.OpenSpec.ofChange s with cond := some uptoSmall }

/-- 'mummerlaw03.SpansShifts', WHERE WHAT IT READS IS OF BULK AT MOST 1048576: true; the input reads as it did. -/
def spansShiftsUptoRow : OpenClaim := { program := "ytnkfdobcmfdhfaadoor", sum := "c8c581693b2430b34c9e0e37b5ebe7ea90ef5a7960313709646f7a1799acc5f7", func := "mummer/mummerlaw03.SpansShifts", spec := "spansShifts", inPlace := ["internal/bytealg.Count", "internal/bytealg.IndexByte", "internal/bytealg.Index"], unfollowed := true, recurses := true, named := ["unicode/utf8.first", "unicode/utf8.acceptRanges", "internal/bytealg.MaxLen"], apart := false, laid := [("unicode/utf8.acceptRanges", laid_unicode_utf8_acceptRanges), ("unicode/utf8.first", laid_unicode_utf8_first)], narrowed := true }
def SpansShiftsUptoSaid : Prop := spansShiftsUptoRow.holds Tryd.pinned (OpenSpec.upto spansShiftsSpec)

/-- 'mummerlaw03.SpansOrder', WHERE WHAT IT READS IS OF BULK AT MOST 1048576: true; the input reads as it did. -/
def spansOrderUptoRow : OpenClaim := { program := "ytnkfdobcmfdhfaadoor", sum := "c8c581693b2430b34c9e0e37b5ebe7ea90ef5a7960313709646f7a1799acc5f7", func := "mummer/mummerlaw03.SpansOrder", spec := "spansOrder", inPlace := ["internal/bytealg.Count", "internal/bytealg.IndexByte", "internal/bytealg.Index"], unfollowed := true, recurses := true, named := ["unicode/utf8.first", "unicode/utf8.acceptRanges", "internal/bytealg.MaxLen"], apart := false, laid := [("unicode/utf8.acceptRanges", laid_unicode_utf8_acceptRanges), ("unicode/utf8.first", laid_unicode_utf8_first)], narrowed := true }
def SpansOrderUptoSaid : Prop := spansOrderUptoRow.holds Tryd.pinned (OpenSpec.upto spansOrderSpec)

/-- 'mummerlaw03.SpansNest', WHERE WHAT IT READS IS OF BULK AT MOST 1048576: true; the input reads as it did. -/
def spansNestUptoRow : OpenClaim := { program := "ytnkfdobcmfdhfaadoor", sum := "c8c581693b2430b34c9e0e37b5ebe7ea90ef5a7960313709646f7a1799acc5f7", func := "mummer/mummerlaw03.SpansNest", spec := "spansNest", inPlace := ["internal/bytealg.Count", "internal/bytealg.IndexByte", "internal/bytealg.Index"], unfollowed := true, recurses := true, named := ["unicode/utf8.first", "unicode/utf8.acceptRanges", "internal/bytealg.MaxLen"], apart := false, laid := [("unicode/utf8.acceptRanges", laid_unicode_utf8_acceptRanges), ("unicode/utf8.first", laid_unicode_utf8_first)], narrowed := true }
def SpansNestUptoSaid : Prop := spansNestUptoRow.holds Tryd.pinned (OpenSpec.upto spansNestSpec)

/-- 'mummerlaw03.SpansEdits', WHERE WHAT IT READS IS OF BULK AT MOST 1048576: true; the input reads as it did. -/
def spansEditsUptoRow : OpenClaim := { program := "ytnkfdobcmfdhfaadoor", sum := "c8c581693b2430b34c9e0e37b5ebe7ea90ef5a7960313709646f7a1799acc5f7", func := "mummer/mummerlaw03.SpansEdits", spec := "spansEdits", inPlace := ["internal/bytealg.Count", "internal/bytealg.IndexByte", "internal/bytealg.Index"], unfollowed := true, recurses := true, named := ["unicode/utf8.first", "unicode/utf8.acceptRanges", "internal/bytealg.MaxLen"], apart := false, laid := [("unicode/utf8.acceptRanges", laid_unicode_utf8_acceptRanges), ("unicode/utf8.first", laid_unicode_utf8_first)], narrowed := true }
def SpansEditsUptoSaid : Prop := spansEditsUptoRow.holds Tryd.pinned (OpenSpec.upto spansEditsSpec)

/-- 'mummerlaw03.SpansCover', WHERE WHAT IT READS IS OF BULK AT MOST 1048576: true; the input reads as it did. -/
def spansCoverUptoRow : OpenClaim := { program := "ytnkfdobcmfdhfaadoor", sum := "c8c581693b2430b34c9e0e37b5ebe7ea90ef5a7960313709646f7a1799acc5f7", func := "mummer/mummerlaw03.SpansCover", spec := "spansCover", inPlace := ["internal/bytealg.Count", "internal/bytealg.IndexByte", "internal/bytealg.Index"], unfollowed := true, recurses := true, named := ["unicode/utf8.first", "unicode/utf8.acceptRanges", "internal/bytealg.MaxLen"], apart := false, laid := [("unicode/utf8.acceptRanges", laid_unicode_utf8_acceptRanges), ("unicode/utf8.first", laid_unicode_utf8_first)], narrowed := true }
def SpansCoverUptoSaid : Prop := spansCoverUptoRow.holds Tryd.pinned (OpenSpec.upto spansCoverSpec)

/-- 'mummerlaw03.SpansPlaces', WHERE WHAT IT READS IS OF BULK AT MOST 1048576: true; the input reads as it did. -/
def spansPlacesUptoRow : OpenClaim := { program := "ytnkfdobcmfdhfaadoor", sum := "c8c581693b2430b34c9e0e37b5ebe7ea90ef5a7960313709646f7a1799acc5f7", func := "mummer/mummerlaw03.SpansPlaces", spec := "spansPlaces", inPlace := ["internal/bytealg.Count", "internal/bytealg.IndexByte", "internal/bytealg.Index"], unfollowed := true, recurses := true, named := ["unicode/utf8.first", "unicode/utf8.acceptRanges", "internal/bytealg.MaxLen"], apart := false, laid := [("unicode/utf8.acceptRanges", laid_unicode_utf8_acceptRanges), ("unicode/utf8.first", laid_unicode_utf8_first)], narrowed := true }
def SpansPlacesUptoSaid : Prop := spansPlacesUptoRow.holds Tryd.pinned (OpenSpec.upto spansPlacesSpec)

/-- 'mummerlaw03.SpansBack', WHERE WHAT IT READS IS OF BULK AT MOST 1048576: true; the input reads as it did. -/
def spansBackUptoRow : OpenClaim := { program := "ytnkfdobcmfdhfaadoor", sum := "c8c581693b2430b34c9e0e37b5ebe7ea90ef5a7960313709646f7a1799acc5f7", func := "mummer/mummerlaw03.SpansBack", spec := "spansBack", inPlace := ["internal/bytealg.Count", "internal/bytealg.IndexByte", "internal/bytealg.Index"], unfollowed := true, recurses := true, named := ["unicode/utf8.first", "unicode/utf8.acceptRanges", "internal/bytealg.MaxLen"], apart := false, laid := [("unicode/utf8.acceptRanges", laid_unicode_utf8_acceptRanges), ("unicode/utf8.first", laid_unicode_utf8_first)], narrowed := true }
def SpansBackUptoSaid : Prop := spansBackUptoRow.holds Tryd.pinned (OpenSpec.upto spansBackSpec)

/-- 'mummerlaw03.SpansKnown', WHERE WHAT IT READS IS OF BULK AT MOST 1048576: true; the input reads as it did. -/
def spansKnownUptoRow : OpenClaim := { program := "ytnkfdobcmfdhfaadoor", sum := "c8c581693b2430b34c9e0e37b5ebe7ea90ef5a7960313709646f7a1799acc5f7", func := "mummer/mummerlaw03.SpansKnown", spec := "spansKnown", inPlace := ["internal/bytealg.Count", "internal/bytealg.IndexByte", "internal/bytealg.Index"], unfollowed := true, recurses := true, named := ["unicode/utf8.first", "unicode/utf8.acceptRanges", "internal/bytealg.MaxLen"], apart := false, laid := [("unicode/utf8.acceptRanges", laid_unicode_utf8_acceptRanges), ("unicode/utf8.first", laid_unicode_utf8_first)], narrowed := true }
def SpansKnownUptoSaid : Prop := spansKnownUptoRow.holds Tryd.pinned (OpenSpec.upto spansKnownSpec)

/-- 'mummerlaw03.SpansPairs', WHERE WHAT IT READS IS OF BULK AT MOST 1048576: true; the input reads as it did. -/
def spansPairsUptoRow : OpenClaim := { program := "ytnkfdobcmfdhfaadoor", sum := "c8c581693b2430b34c9e0e37b5ebe7ea90ef5a7960313709646f7a1799acc5f7", func := "mummer/mummerlaw03.SpansPairs", spec := "spansPairs", inPlace := ["internal/bytealg.Count", "internal/bytealg.IndexByte", "internal/bytealg.Index"], unfollowed := true, recurses := true, named := ["unicode/utf8.first", "unicode/utf8.acceptRanges", "internal/bytealg.MaxLen"], apart := false, laid := [("unicode/utf8.acceptRanges", laid_unicode_utf8_acceptRanges), ("unicode/utf8.first", laid_unicode_utf8_first)], narrowed := true }
def SpansPairsUptoSaid : Prop := spansPairsUptoRow.holds Tryd.pinned (OpenSpec.upto spansPairsSpec)

end Rows
end Go.Proofs.YtnkfdobcmfdhfaaDoor
