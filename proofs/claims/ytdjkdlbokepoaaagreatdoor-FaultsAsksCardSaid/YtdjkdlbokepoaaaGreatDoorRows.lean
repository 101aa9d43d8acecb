/-
  NARROWER THAN 'FOR EVERY INPUT', by the rows' own cells (each row's printed sentence says how): FaultsChecks: laid · FaultsWords: laid · FaultsTells: laid · FaultsPlaces: laid · FaultsMarks: laid · FaultsChains: laid · FaultsAsks: laid · FaultsKnown: laid.
  DERIVED. THE GIVEN ROWS OF THIS SEAT. 8 by the template 'for every input the law returns true; each argument reads behind the call as it read before'; 0 by the template 'total and deterministic' (their statements: YtdjkdlbokepoaaaGreatDoorTotals.lean).
  GIVEN WITH THE SEED: the statements are not yours to turn. If you find one false, say at which input.
  Laid BY PROGRAM, IN A SANDBOX (cutbox-rows.mjs): the forced cells as the released guide's own fill.sh prints them over the translation 3310ab085df550eb… (all of the seat's roots in one cut). By AI agents, Wed Nov 11 2026. No macro, syntax, notation, axiom, sorry.
-/
import Derived.Test.YtdjkdlbokepoaaaGreatDoorChecked
import GoSem.PinnedTables
import GoSem.Claim
import GoSem.ClaimJoined
import GoSem.ClaimMapViews
import Derived.JoinedTies
import Derived.KernelRfl
namespace Go.Proofs.YtdjkdlbokepoaaaGreatDoor
/- THE CELL 'sum', in the pinned program and in every row, IS THE sha256 OF THE DUMP (.gsa) THAT YtdjkdlbokepoaaaGreatDoorProg.lean LOADS. Nothing in Lean hashes anything: it is a label: what it is worth is what the hold of that sum in a sandbox is worth. -/
noncomputable def Tryz.pinned : Pinned := { name := "ytdjkdlbokepoaaagreatdoor", sum := "3310ab085df550ebc13a92366b561ba7e4e555b73a5b74cae30d0f09d5fa58cd", checked := Tryz.checked }
namespace Rows
def none {H : Type} : Left H := { results := [], args := [] }

/- WHAT THE LISTED PACKAGE-LEVEL VARIABLES READ AS WHEN THE CALL BEGINS. Each datum BY PROGRAM (the guide's laid-datum.mjs) off the statement by which the dump's own 'gosem.cut.vars' lays the variable. In a bare row this is a premise. The card (YtdjkdlbokepoaaaGreatDoorCards.lean) ties it to the program's text. -/
def laid_math_bits_deBruijn32tab {H : Type} : DataW H := .agg [.lit (.int .u8 0), .lit (.int .u8 1), .lit (.int .u8 28), .lit (.int .u8 2), .lit (.int .u8 29), .lit (.int .u8 14), .lit (.int .u8 24), .lit (.int .u8 3), .lit (.int .u8 30), .lit (.int .u8 22), .lit (.int .u8 20), .lit (.int .u8 15), .lit (.int .u8 25), .lit (.int .u8 17), .lit (.int .u8 4), .lit (.int .u8 8), .lit (.int .u8 31), .lit (.int .u8 27), .lit (.int .u8 13), .lit (.int .u8 23), .lit (.int .u8 21), .lit (.int .u8 19), .lit (.int .u8 16), .lit (.int .u8 7), .lit (.int .u8 26), .lit (.int .u8 12), .lit (.int .u8 18), .lit (.int .u8 6), .lit (.int .u8 11), .lit (.int .u8 5), .lit (.int .u8 10), .lit (.int .u8 9)]
def laid_math_bits_deBruijn64tab {H : Type} : DataW H := .agg [.lit (.int .u8 0), .lit (.int .u8 1), .lit (.int .u8 56), .lit (.int .u8 2), .lit (.int .u8 57), .lit (.int .u8 49), .lit (.int .u8 28), .lit (.int .u8 3), .lit (.int .u8 61), .lit (.int .u8 58), .lit (.int .u8 42), .lit (.int .u8 50), .lit (.int .u8 38), .lit (.int .u8 29), .lit (.int .u8 17), .lit (.int .u8 4), .lit (.int .u8 62), .lit (.int .u8 47), .lit (.int .u8 59), .lit (.int .u8 36), .lit (.int .u8 45), .lit (.int .u8 43), .lit (.int .u8 51), .lit (.int .u8 22), .lit (.int .u8 53), .lit (.int .u8 39), .lit (.int .u8 33), .lit (.int .u8 30), .lit (.int .u8 24), .lit (.int .u8 18), .lit (.int .u8 12), .lit (.int .u8 5), .lit (.int .u8 63), .lit (.int .u8 55), .lit (.int .u8 48), .lit (.int .u8 27), .lit (.int .u8 60), .lit (.int .u8 41), .lit (.int .u8 37), .lit (.int .u8 16), .lit (.int .u8 46), .lit (.int .u8 35), .lit (.int .u8 44), .lit (.int .u8 21), .lit (.int .u8 52), .lit (.int .u8 32), .lit (.int .u8 23), .lit (.int .u8 11), .lit (.int .u8 54), .lit (.int .u8 26), .lit (.int .u8 40), .lit (.int .u8 15), .lit (.int .u8 34), .lit (.int .u8 20), .lit (.int .u8 31), .lit (.int .u8 10), .lit (.int .u8 25), .lit (.int .u8 14), .lit (.int .u8 19), .lit (.int .u8 9), .lit (.int .u8 13), .lit (.int .u8 8), .lit (.int .u8 7), .lit (.int .u8 6)]
def laid_internal_strconv_uint64pow10 {H : Type} : DataW H := .agg [.lit (.int .u64 1), .lit (.int .u64 10), .lit (.int .u64 100), .lit (.int .u64 1000), .lit (.int .u64 10000), .lit (.int .u64 100000), .lit (.int .u64 1000000), .lit (.int .u64 10000000), .lit (.int .u64 100000000), .lit (.int .u64 1000000000), .lit (.int .u64 10000000000), .lit (.int .u64 100000000000), .lit (.int .u64 1000000000000), .lit (.int .u64 10000000000000), .lit (.int .u64 100000000000000), .lit (.int .u64 1000000000000000), .lit (.int .u64 10000000000000000), .lit (.int .u64 100000000000000000), .lit (.int .u64 1000000000000000000), .lit (.int .u64 10000000000000000000)]
def laid_unicode_utf8_acceptRanges {H : Type} : DataW H := .agg [.agg [.lit (.int .u8 128), .lit (.int .u8 191)], .agg [.lit (.int .u8 160), .lit (.int .u8 191)], .agg [.lit (.int .u8 128), .lit (.int .u8 159)], .agg [.lit (.int .u8 144), .lit (.int .u8 191)], .agg [.lit (.int .u8 128), .lit (.int .u8 143)], .agg [.lit (.int .u8 0), .lit (.int .u8 0)], .agg [.lit (.int .u8 0), .lit (.int .u8 0)], .agg [.lit (.int .u8 0), .lit (.int .u8 0)], .agg [.lit (.int .u8 0), .lit (.int .u8 0)], .agg [.lit (.int .u8 0), .lit (.int .u8 0)], .agg [.lit (.int .u8 0), .lit (.int .u8 0)], .agg [.lit (.int .u8 0), .lit (.int .u8 0)], .agg [.lit (.int .u8 0), .lit (.int .u8 0)], .agg [.lit (.int .u8 0), .lit (.int .u8 0)], .agg [.lit (.int .u8 0), .lit (.int .u8 0)], .agg [.lit (.int .u8 0), .lit (.int .u8 0)]]
def laid_errors_errorType {H : Type} : DataW H := .iface "internal/reflectlite.rtype" (.agg [.ptr (.lit (.string [101, 114, 114, 111, 114]))])
def laid_mummer_faults_passes {H : Type} : DataW H := .agg [.lit (.string []), .lit (.string [108, 101, 120]), .lit (.string [114, 101, 97, 100]), .lit (.string [101, 120, 112, 97, 110, 100]), .lit (.string [115, 117, 114, 102, 97, 99, 101]), .lit (.string [115, 117, 103, 97, 114]), .lit (.string [115, 116, 101, 112]), .lit (.string [108, 105, 102, 116]), .lit (.string [109, 111, 100, 101, 108])]
def laid_mummer_faults_codes {H : Type} : DataW H := .agg [.lit (.string []), .lit (.string [110, 105, 108]), .lit (.string [97, 114, 103, 117, 109, 101, 110, 116]), .lit (.string [116, 111, 111, 32, 108, 111, 110, 103]), .lit (.string [110, 111, 110, 101]), .lit (.string [102, 117, 101, 108]), .lit (.string [102, 111, 114, 109]), .lit (.string [114, 97, 110, 103, 101]), .lit (.string [116, 119, 105, 99, 101]), .lit (.string [115, 116, 97, 116, 101]), .lit (.string [117, 110, 98, 111, 117, 110, 100]), .lit (.string [97, 109, 98, 105, 103, 117, 111, 117, 115]), .lit (.string [112, 108, 97, 99, 101]), .lit (.string [109, 97, 99, 114, 111]), .lit (.string [109, 97, 116, 99, 104]), .lit (.string [101, 97, 114, 108, 121]), .lit (.string [108, 101, 116, 114, 101, 99]), .lit (.string [97, 112, 112, 108, 121]), .lit (.string [97, 114, 105, 116, 121]), .lit (.string [116, 121, 112, 101]), .lit (.string [111, 118, 101, 114, 102, 108, 111, 119]), .lit (.string [100, 105, 118, 105, 100, 101])]
/-- One of Go's own tables, pinned by name: the form's constant. -/
def laid_unicode_utf8_first : DataW Unit := Go.Pinned.utf8First

/-- 'mummerlaw08.FaultsChecks': WHATEVER THE INPUT: true; the input reads as it did. -/
def faultsChecksSpec : ChangeSpec := { name := "faultsChecks", fn := fun _ => fun
  | [d1, d2] => { results := [.lit (.bool true)], args := [d1, d2] }
  | _ => none }
def faultsChecksRow : OpenClaim := { program := "ytdjkdlbokepoaaagreatdoor", sum := "3310ab085df550ebc13a92366b561ba7e4e555b73a5b74cae30d0f09d5fa58cd", func := "mummer/mummerlaw08.FaultsChecks", spec := "faultsChecks", inPlace := ["internal/bytealg.Count", "internal/bytealg.IndexByte", "internal/bytealg.Index", "internal/abi.NoEscape", "internal/bytealg.MakeNoZero", "internal/reflectlite.ValueOf", "(internal/reflectlite.Value).Type", "(internal/reflectlite.Value).IsNil", "internal/reflectlite.TypeOf", "(internal/reflectlite.Value).Elem", "(internal/reflectlite.Value).Set"], unfollowed := true, recurses := true, named := ["unicode/utf8.first", "unicode/utf8.acceptRanges", "internal/bytealg.MaxLen", "mummer/faults.passes", "mummer/faults.codes", "internal/strconv.uint64pow10", "math/bits.deBruijn32tab", "math/bits.deBruijn64tab", "errors.errorType"], apart := false, laid := [("math/bits.deBruijn32tab", laid_math_bits_deBruijn32tab), ("math/bits.deBruijn64tab", laid_math_bits_deBruijn64tab), ("internal/strconv.uint64pow10", laid_internal_strconv_uint64pow10), ("unicode/utf8.acceptRanges", laid_unicode_utf8_acceptRanges), ("errors.errorType", laid_errors_errorType), ("mummer/faults.passes", laid_mummer_faults_passes), ("mummer/faults.codes", laid_mummer_faults_codes), ("unicode/utf8.first", laid_unicode_utf8_first)] }
def FaultsChecksSaid : Prop := faultsChecksRow.holds Tryz.pinned (OpenSpec.ofChange faultsChecksSpec)

/-- ITS FALSE NEIGHBOUR: 'it returns false'. Refute it at one input. -/
def faultsChecksWrong : ChangeSpec := { name := "faultsChecks", fn := fun _ => fun
  | [d1, d2] => { results := [.lit (.bool false)], args := [d1, d2] }
  | _ => none }
def FaultsChecksWrongFalsely : Prop := faultsChecksRow.holds Tryz.pinned (OpenSpec.ofChange faultsChecksWrong)

/-- 'mummerlaw08.FaultsWords': WHATEVER THE INPUT: true; the input reads as it did. -/
def faultsWordsSpec : ChangeSpec := { name := "faultsWords", fn := fun _ => fun
  | [d1, d2, d3] => { results := [.lit (.bool true)], args := [d1, d2, d3] }
  | _ => none }
def faultsWordsRow : OpenClaim := { program := "ytdjkdlbokepoaaagreatdoor", sum := "3310ab085df550ebc13a92366b561ba7e4e555b73a5b74cae30d0f09d5fa58cd", func := "mummer/mummerlaw08.FaultsWords", spec := "faultsWords", inPlace := ["internal/bytealg.Count", "internal/bytealg.IndexByte", "internal/bytealg.Index", "internal/abi.NoEscape", "internal/bytealg.MakeNoZero", "internal/reflectlite.ValueOf", "(internal/reflectlite.Value).Type", "(internal/reflectlite.Value).IsNil", "internal/reflectlite.TypeOf", "(internal/reflectlite.Value).Elem", "(internal/reflectlite.Value).Set"], unfollowed := true, recurses := true, named := ["unicode/utf8.first", "unicode/utf8.acceptRanges", "internal/bytealg.MaxLen", "mummer/faults.passes", "mummer/faults.codes", "internal/strconv.uint64pow10", "math/bits.deBruijn32tab", "math/bits.deBruijn64tab", "errors.errorType"], apart := false, laid := [("math/bits.deBruijn32tab", laid_math_bits_deBruijn32tab), ("math/bits.deBruijn64tab", laid_math_bits_deBruijn64tab), ("internal/strconv.uint64pow10", laid_internal_strconv_uint64pow10), ("unicode/utf8.acceptRanges", laid_unicode_utf8_acceptRanges), ("errors.errorType", laid_errors_errorType), ("mummer/faults.passes", laid_mummer_faults_passes), ("mummer/faults.codes", laid_mummer_faults_codes), ("unicode/utf8.first", laid_unicode_utf8_first)] }
def FaultsWordsSaid : Prop := faultsWordsRow.holds Tryz.pinned (OpenSpec.ofChange faultsWordsSpec)

/-- ITS FALSE NEIGHBOUR: 'it returns false'. Refute it at one input. -/
def faultsWordsWrong : ChangeSpec := { name := "faultsWords", fn := fun _ => fun
  | [d1, d2, d3] => { results := [.lit (.bool false)], args := [d1, d2, d3] }
  | _ => none }
def FaultsWordsWrongFalsely : Prop := faultsWordsRow.holds Tryz.pinned (OpenSpec.ofChange faultsWordsWrong)

/-- 'mummerlaw08.FaultsTells': WHATEVER THE INPUT: true; the input reads as it did. -/
def faultsTellsSpec : ChangeSpec := { name := "faultsTells", fn := fun _ => fun
  | [d1, d2, d3] => { results := [.lit (.bool true)], args := [d1, d2, d3] }
  | _ => none }
def faultsTellsRow : OpenClaim := { program := "ytdjkdlbokepoaaagreatdoor", sum := "3310ab085df550ebc13a92366b561ba7e4e555b73a5b74cae30d0f09d5fa58cd", func := "mummer/mummerlaw08.FaultsTells", spec := "faultsTells", inPlace := ["internal/bytealg.Count", "internal/bytealg.IndexByte", "internal/bytealg.Index", "internal/abi.NoEscape", "internal/bytealg.MakeNoZero", "internal/reflectlite.ValueOf", "(internal/reflectlite.Value).Type", "(internal/reflectlite.Value).IsNil", "internal/reflectlite.TypeOf", "(internal/reflectlite.Value).Elem", "(internal/reflectlite.Value).Set"], unfollowed := true, recurses := true, named := ["unicode/utf8.first", "unicode/utf8.acceptRanges", "internal/bytealg.MaxLen", "mummer/faults.passes", "mummer/faults.codes", "internal/strconv.uint64pow10", "math/bits.deBruijn32tab", "math/bits.deBruijn64tab", "errors.errorType"], apart := false, laid := [("math/bits.deBruijn32tab", laid_math_bits_deBruijn32tab), ("math/bits.deBruijn64tab", laid_math_bits_deBruijn64tab), ("internal/strconv.uint64pow10", laid_internal_strconv_uint64pow10), ("unicode/utf8.acceptRanges", laid_unicode_utf8_acceptRanges), ("errors.errorType", laid_errors_errorType), ("mummer/faults.passes", laid_mummer_faults_passes), ("mummer/faults.codes", laid_mummer_faults_codes), ("unicode/utf8.first", laid_unicode_utf8_first)] }
def FaultsTellsSaid : Prop := faultsTellsRow.holds Tryz.pinned (OpenSpec.ofChange faultsTellsSpec)

/-- ITS FALSE NEIGHBOUR: 'it returns false'. Refute it at one input. -/
def faultsTellsWrong : ChangeSpec := { name := "faultsTells", fn := fun _ => fun
  | [d1, d2, d3] => { results := [.lit (.bool false)], args := [d1, d2, d3] }
  | _ => none }
def FaultsTellsWrongFalsely : Prop := faultsTellsRow.holds Tryz.pinned (OpenSpec.ofChange faultsTellsWrong)

/-- 'mummerlaw08.FaultsPlaces': WHATEVER THE INPUT: true; the input reads as it did. -/
def faultsPlacesSpec : ChangeSpec := { name := "faultsPlaces", fn := fun _ => fun
  | [d] => { results := [.lit (.bool true)], args := [d] }
  | _ => none }
def faultsPlacesRow : OpenClaim := { program := "ytdjkdlbokepoaaagreatdoor", sum := "3310ab085df550ebc13a92366b561ba7e4e555b73a5b74cae30d0f09d5fa58cd", func := "mummer/mummerlaw08.FaultsPlaces", spec := "faultsPlaces", inPlace := ["internal/bytealg.Count", "internal/bytealg.IndexByte", "internal/bytealg.Index", "internal/abi.NoEscape", "internal/bytealg.MakeNoZero", "internal/reflectlite.ValueOf", "(internal/reflectlite.Value).Type", "(internal/reflectlite.Value).IsNil", "internal/reflectlite.TypeOf", "(internal/reflectlite.Value).Elem", "(internal/reflectlite.Value).Set"], unfollowed := true, recurses := true, named := ["unicode/utf8.first", "unicode/utf8.acceptRanges", "internal/bytealg.MaxLen", "mummer/faults.passes", "mummer/faults.codes", "internal/strconv.uint64pow10", "math/bits.deBruijn32tab", "math/bits.deBruijn64tab", "errors.errorType"], apart := false, laid := [("math/bits.deBruijn32tab", laid_math_bits_deBruijn32tab), ("math/bits.deBruijn64tab", laid_math_bits_deBruijn64tab), ("internal/strconv.uint64pow10", laid_internal_strconv_uint64pow10), ("unicode/utf8.acceptRanges", laid_unicode_utf8_acceptRanges), ("errors.errorType", laid_errors_errorType), ("mummer/faults.passes", laid_mummer_faults_passes), ("mummer/faults.codes", laid_mummer_faults_codes), ("unicode/utf8.first", laid_unicode_utf8_first)] }
def FaultsPlacesSaid : Prop := faultsPlacesRow.holds Tryz.pinned (OpenSpec.ofChange faultsPlacesSpec)

/-- ITS FALSE NEIGHBOUR: 'it returns false'. Refute it at one input. -/
def faultsPlacesWrong : ChangeSpec := { name := "faultsPlaces", fn := fun _ => fun
  | [d] => { results := [.lit (.bool false)], args := [d] }
  | _ => none }
def FaultsPlacesWrongFalsely : Prop := faultsPlacesRow.holds Tryz.pinned (OpenSpec.ofChange faultsPlacesWrong)

/-- 'mummerlaw08.FaultsMarks': WHATEVER THE INPUT: true; the input reads as it did. -/
def faultsMarksSpec : ChangeSpec := { name := "faultsMarks", fn := fun _ => fun
  | [d1, d2, d3] => { results := [.lit (.bool true)], args := [d1, d2, d3] }
  | _ => none }
def faultsMarksRow : OpenClaim := { program := "ytdjkdlbokepoaaagreatdoor", sum := "3310ab085df550ebc13a92366b561ba7e4e555b73a5b74cae30d0f09d5fa58cd", func := "mummer/mummerlaw08.FaultsMarks", spec := "faultsMarks", inPlace := ["internal/bytealg.Count", "internal/bytealg.IndexByte", "internal/bytealg.Index", "internal/abi.NoEscape", "internal/bytealg.MakeNoZero", "internal/reflectlite.ValueOf", "(internal/reflectlite.Value).Type", "(internal/reflectlite.Value).IsNil", "internal/reflectlite.TypeOf", "(internal/reflectlite.Value).Elem", "(internal/reflectlite.Value).Set"], unfollowed := true, recurses := true, named := ["unicode/utf8.first", "unicode/utf8.acceptRanges", "internal/bytealg.MaxLen", "mummer/faults.passes", "mummer/faults.codes", "internal/strconv.uint64pow10", "math/bits.deBruijn32tab", "math/bits.deBruijn64tab", "errors.errorType"], apart := false, laid := [("math/bits.deBruijn32tab", laid_math_bits_deBruijn32tab), ("math/bits.deBruijn64tab", laid_math_bits_deBruijn64tab), ("internal/strconv.uint64pow10", laid_internal_strconv_uint64pow10), ("unicode/utf8.acceptRanges", laid_unicode_utf8_acceptRanges), ("errors.errorType", laid_errors_errorType), ("mummer/faults.passes", laid_mummer_faults_passes), ("mummer/faults.codes", laid_mummer_faults_codes), ("unicode/utf8.first", laid_unicode_utf8_first)] }
def FaultsMarksSaid : Prop := faultsMarksRow.holds Tryz.pinned (OpenSpec.ofChange faultsMarksSpec)

/-- ITS FALSE NEIGHBOUR: 'it returns false'. Refute it at one input. -/
def faultsMarksWrong : ChangeSpec := { name := "faultsMarks", fn := fun _ => fun
  | [d1, d2, d3] => { results := [.lit (.bool false)], args := [d1, d2, d3] }
  | _ => none }
def FaultsMarksWrongFalsely : Prop := faultsMarksRow.holds Tryz.pinned (OpenSpec.ofChange faultsMarksWrong)

/-- 'mummerlaw08.FaultsChains': WHATEVER THE INPUT: true; the input reads as it did. -/
def faultsChainsSpec : ChangeSpec := { name := "faultsChains", fn := fun _ => fun
  | [d1, d2] => { results := [.lit (.bool true)], args := [d1, d2] }
  | _ => none }
def faultsChainsRow : OpenClaim := { program := "ytdjkdlbokepoaaagreatdoor", sum := "3310ab085df550ebc13a92366b561ba7e4e555b73a5b74cae30d0f09d5fa58cd", func := "mummer/mummerlaw08.FaultsChains", spec := "faultsChains", inPlace := ["internal/bytealg.Count", "internal/bytealg.IndexByte", "internal/bytealg.Index", "internal/abi.NoEscape", "internal/bytealg.MakeNoZero", "internal/reflectlite.ValueOf", "(internal/reflectlite.Value).Type", "(internal/reflectlite.Value).IsNil", "internal/reflectlite.TypeOf", "(internal/reflectlite.Value).Elem", "(internal/reflectlite.Value).Set"], unfollowed := true, recurses := true, named := ["unicode/utf8.first", "unicode/utf8.acceptRanges", "internal/bytealg.MaxLen", "mummer/faults.passes", "mummer/faults.codes", "internal/strconv.uint64pow10", "math/bits.deBruijn32tab", "math/bits.deBruijn64tab", "errors.errorType"], apart := false, laid := [("math/bits.deBruijn32tab", laid_math_bits_deBruijn32tab), ("math/bits.deBruijn64tab", laid_math_bits_deBruijn64tab), ("internal/strconv.uint64pow10", laid_internal_strconv_uint64pow10), ("unicode/utf8.acceptRanges", laid_unicode_utf8_acceptRanges), ("errors.errorType", laid_errors_errorType), ("mummer/faults.passes", laid_mummer_faults_passes), ("mummer/faults.codes", laid_mummer_faults_codes), ("unicode/utf8.first", laid_unicode_utf8_first)] }
def FaultsChainsSaid : Prop := faultsChainsRow.holds Tryz.pinned (OpenSpec.ofChange faultsChainsSpec)

/-- ITS FALSE NEIGHBOUR: 'it returns false'. Refute it at one input. -/
def faultsChainsWrong : ChangeSpec := { name := "faultsChains", fn := fun _ => fun
  | [d1, d2] => { results := [.lit (.bool false)], args := [d1, d2] }
  | _ => none }
def FaultsChainsWrongFalsely : Prop := faultsChainsRow.holds Tryz.pinned (OpenSpec.ofChange faultsChainsWrong)

/-- 'mummerlaw08.FaultsAsks': WHATEVER THE INPUT: true; the input reads as it did. -/
def faultsAsksSpec : ChangeSpec := { name := "faultsAsks", fn := fun _ => fun
  | [d1, d2, d3] => { results := [.lit (.bool true)], args := [d1, d2, d3] }
  | _ => none }
def faultsAsksRow : OpenClaim := { program := "ytdjkdlbokepoaaagreatdoor", sum := "3310ab085df550ebc13a92366b561ba7e4e555b73a5b74cae30d0f09d5fa58cd", func := "mummer/mummerlaw08.FaultsAsks", spec := "faultsAsks", inPlace := ["internal/bytealg.Count", "internal/bytealg.IndexByte", "internal/bytealg.Index", "internal/abi.NoEscape", "internal/bytealg.MakeNoZero", "internal/reflectlite.ValueOf", "(internal/reflectlite.Value).Type", "(internal/reflectlite.Value).IsNil", "internal/reflectlite.TypeOf", "(internal/reflectlite.Value).Elem", "(internal/reflectlite.Value).Set"], unfollowed := true, recurses := true, named := ["unicode/utf8.first", "unicode/utf8.acceptRanges", "internal/bytealg.MaxLen", "mummer/faults.passes", "mummer/faults.codes", "internal/strconv.uint64pow10", "math/bits.deBruijn32tab", "math/bits.deBruijn64tab", "errors.errorType"], apart := false, laid := [("math/bits.deBruijn32tab", laid_math_bits_deBruijn32tab), ("math/bits.deBruijn64tab", laid_math_bits_deBruijn64tab), ("internal/strconv.uint64pow10", laid_internal_strconv_uint64pow10), ("unicode/utf8.acceptRanges", laid_unicode_utf8_acceptRanges), ("errors.errorType", laid_errors_errorType), ("mummer/faults.passes", laid_mummer_faults_passes), ("mummer/faults.codes", laid_mummer_faults_codes), ("unicode/utf8.first", laid_unicode_utf8_first)] }
def FaultsAsksSaid : Prop := faultsAsksRow.holds Tryz.pinned (OpenSpec.ofChange faultsAsksSpec)

/-- ITS FALSE NEIGHBOUR: 'it returns false'. Refute it at one input. -/
def faultsAsksWrong : ChangeSpec := { name := "faultsAsks", fn := fun _ => fun
  | [d1, d2, d3] => { results := [.lit (.bool false)], args := [d1, d2, d3] }
  | _ => none }
def FaultsAsksWrongFalsely : Prop := faultsAsksRow.holds Tryz.pinned (OpenSpec.ofChange faultsAsksWrong)

/-- 'mummerlaw08.FaultsKnown': WHATEVER THE INPUT: true; the input reads as it did. -/
def faultsKnownSpec : ChangeSpec := { name := "faultsKnown", fn := fun _ => fun
  | [] => { results := [.lit (.bool true)], args := [] }
  | _ => none }
def faultsKnownRow : OpenClaim := { program := "ytdjkdlbokepoaaagreatdoor", sum := "3310ab085df550ebc13a92366b561ba7e4e555b73a5b74cae30d0f09d5fa58cd", func := "mummer/mummerlaw08.FaultsKnown", spec := "faultsKnown", inPlace := ["internal/bytealg.Count", "internal/bytealg.IndexByte", "internal/bytealg.Index", "internal/abi.NoEscape", "internal/bytealg.MakeNoZero", "internal/reflectlite.ValueOf", "(internal/reflectlite.Value).Type", "(internal/reflectlite.Value).IsNil", "internal/reflectlite.TypeOf", "(internal/reflectlite.Value).Elem", "(internal/reflectlite.Value).Set"], unfollowed := true, recurses := true, named := ["unicode/utf8.first", "unicode/utf8.acceptRanges", "internal/bytealg.MaxLen", "mummer/faults.codes", "internal/strconv.uint64pow10", "math/bits.deBruijn32tab", "math/bits.deBruijn64tab", "mummer/faults.passes", "errors.errorType"], apart := false, laid := [("math/bits.deBruijn32tab", laid_math_bits_deBruijn32tab), ("math/bits.deBruijn64tab", laid_math_bits_deBruijn64tab), ("internal/strconv.uint64pow10", laid_internal_strconv_uint64pow10), ("unicode/utf8.acceptRanges", laid_unicode_utf8_acceptRanges), ("errors.errorType", laid_errors_errorType), ("mummer/faults.passes", laid_mummer_faults_passes), ("mummer/faults.codes", laid_mummer_faults_codes), ("unicode/utf8.first", laid_unicode_utf8_first)] }
def FaultsKnownSaid : Prop := faultsKnownRow.holds Tryz.pinned (OpenSpec.ofChange faultsKnownSpec)

/-- ITS FALSE NEIGHBOUR: 'it returns false'. Refute it at one input. -/
def faultsKnownWrong : ChangeSpec := { name := "faultsKnown", fn := fun _ => fun
  | [] => { results := [.lit (.bool false)], args := [] }
  | _ => none }
def FaultsKnownWrongFalsely : Prop := faultsKnownRow.holds Tryz.pinned (OpenSpec.ofChange faultsKnownWrong)

/- THE SECOND FORM. 'bulk': how many values and letters a reading holds, each counted each time it is reached (what is shared counts as often as it is met; a slice's spare places count too). A statement '..UptoSaid' is the law's where the arguments, and the package variables that the reading takes, are together of bulk at most 1048576: NARROWER than '..Said'. Prove '..Said' where nothing that the law and all that it calls make is longer than what came in: it says more and counts as full. Else prove '..UptoSaid'. A law counts once. -/
mutual
def uptoBulk {H : Type} : DataW H → Nat
  | .lit (.string bytes) => bytes.length + 1
  | .lit _ => 1
  | .nil => 1
  | .ptr d => uptoBulk d + 1
  | .slice elems spare => uptoBulkAll elems + uptoBulkAll spare + 1
  | .agg parts => uptoBulkAll parts + 1
  | .iface _ d => uptoBulk d + 1
  | .map entries => uptoBulkEntries entries + 1
  | .held _ => 1
def uptoBulkAll {H : Type} : List (DataW H) → Nat
  | [] => 0
  | d :: r => uptoBulk d + uptoBulkAll r
def uptoBulkEntries {H : Type} : List (Lit × DataW H) → Nat
  | [] => 0
  | x :: r => uptoBulkEntry x + uptoBulkEntries r
def uptoBulkEntry {H : Type} : Lit × DataW H → Nat
  | (.string bytes, d) => bytes.length + uptoBulk d + 1
  | (_, d) => uptoBulk d + 1
 end
def uptoSmall : (H : Type) → List (DataW H) → Bool := fun _ ds => decide (uptoBulkAll ds ≤ 1048576)
def OpenSpec.upto (s : _root_.Go.ChangeSpec) : _root_.Go.OpenSpec := { _root_.Go.OpenSpec.ofChange s with cond := some uptoSmall }

/-- 'mummerlaw08.FaultsChecks', WHERE WHAT IT READS IS OF BULK AT MOST 1048576: true; the input reads as it did. -/
def faultsChecksUptoRow : OpenClaim := { program := "ytdjkdlbokepoaaagreatdoor", sum := "3310ab085df550ebc13a92366b561ba7e4e555b73a5b74cae30d0f09d5fa58cd", func := "mummer/mummerlaw08.FaultsChecks", spec := "faultsChecks", inPlace := ["internal/bytealg.Count", "internal/bytealg.IndexByte", "internal/bytealg.Index", "internal/abi.NoEscape", "internal/bytealg.MakeNoZero", "internal/reflectlite.ValueOf", "(internal/reflectlite.Value).Type", "(internal/reflectlite.Value).IsNil", "internal/reflectlite.TypeOf", "(internal/reflectlite.Value).Elem", "(internal/reflectlite.Value).Set"], unfollowed := true, recurses := true, named := ["unicode/utf8.first", "unicode/utf8.acceptRanges", "internal/bytealg.MaxLen", "mummer/faults.passes", "mummer/faults.codes", "internal/strconv.uint64pow10", "math/bits.deBruijn32tab", "math/bits.deBruijn64tab", "errors.errorType"], apart := false, laid := [("math/bits.deBruijn32tab", laid_math_bits_deBruijn32tab), ("math/bits.deBruijn64tab", laid_math_bits_deBruijn64tab), ("internal/strconv.uint64pow10", laid_internal_strconv_uint64pow10), ("unicode/utf8.acceptRanges", laid_unicode_utf8_acceptRanges), ("errors.errorType", laid_errors_errorType), ("mummer/faults.passes", laid_mummer_faults_passes), ("mummer/faults.codes", laid_mummer_faults_codes), ("unicode/utf8.first", laid_unicode_utf8_first)], narrowed := true }
def FaultsChecksUptoSaid : Prop := faultsChecksUptoRow.holds Tryz.pinned (OpenSpec.upto faultsChecksSpec)

/-- 'mummerlaw08.FaultsWords', WHERE WHAT IT READS IS OF BULK AT MOST 1048576: true; the input reads as it did. -/
def faultsWordsUptoRow : OpenClaim := { program := "ytdjkdlbokepoaaagreatdoor", sum := "3310ab085df550ebc13a92366b561ba7e4e555b73a5b74cae30d0f09d5fa58cd", func := "mummer/mummerlaw08.FaultsWords", spec := "faultsWords", inPlace := ["internal/bytealg.Count", "internal/bytealg.IndexByte", "internal/bytealg.Index", "internal/abi.NoEscape", "internal/bytealg.MakeNoZero", "internal/reflectlite.ValueOf", "(internal/reflectlite.Value).Type", "(internal/reflectlite.Value).IsNil", "internal/reflectlite.TypeOf", "(internal/reflectlite.Value).Elem", "(internal/reflectlite.Value).Set"], unfollowed := true, recurses := true, named := ["unicode/utf8.first", "unicode/utf8.acceptRanges", "internal/bytealg.MaxLen", "mummer/faults.passes", "mummer/faults.codes", "internal/strconv.uint64pow10", "math/bits.deBruijn32tab", "math/bits.deBruijn64tab", "errors.errorType"], apart := false, laid := [("math/bits.deBruijn32tab", laid_math_bits_deBruijn32tab), ("math/bits.deBruijn64tab", laid_math_bits_deBruijn64tab), ("internal/strconv.uint64pow10", laid_internal_strconv_uint64pow10), ("unicode/utf8.acceptRanges", laid_unicode_utf8_acceptRanges), ("errors.errorType", laid_errors_errorType), ("mummer/faults.passes", laid_mummer_faults_passes), ("mummer/faults.codes", laid_mummer_faults_codes), ("unicode/utf8.first", laid_unicode_utf8_first)], narrowed := true }
def FaultsWordsUptoSaid : Prop := faultsWordsUptoRow.holds Tryz.pinned (OpenSpec.upto faultsWordsSpec)

/-- 'mummerlaw08.FaultsTells', WHERE WHAT IT READS IS OF BULK AT MOST 1048576: true; the input reads as it did. -/
def faultsTellsUptoRow : OpenClaim := { program := "ytdjkdlbokepoaaagreatdoor", sum := "3310ab085df550ebc13a92366b561ba7e4e555b73a5b74cae30d0f09d5fa58cd", func := "mummer/mummerlaw08.FaultsTells", spec := "faultsTells", inPlace := ["internal/bytealg.Count", "internal/bytealg.IndexByte", "internal/bytealg.Index", "internal/abi.NoEscape", "internal/bytealg.MakeNoZero", "internal/reflectlite.ValueOf", "(internal/reflectlite.Value).Type", "(internal/reflectlite.Value).IsNil", "internal/reflectlite.TypeOf", "(internal/reflectlite.Value).Elem", "(internal/reflectlite.Value).Set"], unfollowed := true, recurses := true, named := ["unicode/utf8.first", "unicode/utf8.acceptRanges", "internal/bytealg.MaxLen", "mummer/faults.passes", "mummer/faults.codes", "internal/strconv.uint64pow10", "math/bits.deBruijn32tab", "math/bits.deBruijn64tab", "errors.errorType"], apart := false, laid := [("math/bits.deBruijn32tab", laid_math_bits_deBruijn32tab), ("math/bits.deBruijn64tab", laid_math_bits_deBruijn64tab), ("internal/strconv.uint64pow10", laid_internal_strconv_uint64pow10), ("unicode/utf8.acceptRanges", laid_unicode_utf8_acceptRanges), ("errors.errorType", laid_errors_errorType), ("mummer/faults.passes", laid_mummer_faults_passes), ("mummer/faults.codes", laid_mummer_faults_codes), ("unicode/utf8.first", laid_unicode_utf8_first)], narrowed := true }
def FaultsTellsUptoSaid : Prop := faultsTellsUptoRow.holds Tryz.pinned (OpenSpec.upto faultsTellsSpec)

/-- 'mummerlaw08.FaultsPlaces', WHERE WHAT IT READS IS OF BULK AT MOST 1048576: true; the input reads as it did. -/
def faultsPlacesUptoRow : OpenClaim := { program := "ytdjkdlbokepoaaagreatdoor", sum := "3310ab085df550ebc13a92366b561ba7e4e555b73a5b74cae30d0f09d5fa58cd", func := "mummer/mummerlaw08.FaultsPlaces", spec := "faultsPlaces", inPlace := ["internal/bytealg.Count", "internal/bytealg.IndexByte", "internal/bytealg.Index", "internal/abi.NoEscape", "internal/bytealg.MakeNoZero", "internal/reflectlite.ValueOf", "(internal/reflectlite.Value).Type", "(internal/reflectlite.Value).IsNil", "internal/reflectlite.TypeOf", "(internal/reflectlite.Value).Elem", "(internal/reflectlite.Value).Set"], unfollowed := true, recurses := true, named := ["unicode/utf8.first", "unicode/utf8.acceptRanges", "internal/bytealg.MaxLen", "mummer/faults.passes", "mummer/faults.codes", "internal/strconv.uint64pow10", "math/bits.deBruijn32tab", "math/bits.deBruijn64tab", "errors.errorType"], apart := false, laid := [("math/bits.deBruijn32tab", laid_math_bits_deBruijn32tab), ("math/bits.deBruijn64tab", laid_math_bits_deBruijn64tab), ("internal/strconv.uint64pow10", laid_internal_strconv_uint64pow10), ("unicode/utf8.acceptRanges", laid_unicode_utf8_acceptRanges), ("errors.errorType", laid_errors_errorType), ("mummer/faults.passes", laid_mummer_faults_passes), ("mummer/faults.codes", laid_mummer_faults_codes), ("unicode/utf8.first", laid_unicode_utf8_first)], narrowed := true }
def FaultsPlacesUptoSaid : Prop := faultsPlacesUptoRow.holds Tryz.pinned (OpenSpec.upto faultsPlacesSpec)

/-- 'mummerlaw08.FaultsMarks', WHERE WHAT IT READS IS OF BULK AT MOST 1048576: true; the input reads as it did. -/
def faultsMarksUptoRow : OpenClaim := { program := "ytdjkdlbokepoaaagreatdoor", sum := "3310ab085df550ebc13a92366b561ba7e4e555b73a5b74cae30d0f09d5fa58cd", func := "mummer/mummerlaw08.FaultsMarks", spec := "faultsMarks", inPlace := ["internal/bytealg.Count", "internal/bytealg.IndexByte", "internal/bytealg.Index", "internal/abi.NoEscape", "internal/bytealg.MakeNoZero", "internal/reflectlite.ValueOf", "(internal/reflectlite.Value).Type", "(internal/reflectlite.Value).IsNil", "internal/reflectlite.TypeOf", "(internal/reflectlite.Value).Elem", "(internal/reflectlite.Value).Set"], unfollowed := true, recurses := true, named := ["unicode/utf8.first", "unicode/utf8.acceptRanges", "internal/bytealg.MaxLen", "mummer/faults.passes", "mummer/faults.codes", "internal/strconv.uint64pow10", "math/bits.deBruijn32tab", "math/bits.deBruijn64tab", "errors.errorType"], apart := false, laid := [("math/bits.deBruijn32tab", laid_math_bits_deBruijn32tab), ("math/bits.deBruijn64tab", laid_math_bits_deBruijn64tab), ("internal/strconv.uint64pow10", laid_internal_strconv_uint64pow10), ("unicode/utf8.acceptRanges", laid_unicode_utf8_acceptRanges), ("errors.errorType", laid_errors_errorType), ("mummer/faults.passes", laid_mummer_faults_passes), ("mummer/faults.codes", laid_mummer_faults_codes), ("unicode/utf8.first", laid_unicode_utf8_first)], narrowed := true }
def FaultsMarksUptoSaid : Prop := faultsMarksUptoRow.holds Tryz.pinned (OpenSpec.upto faultsMarksSpec)

/-- 'mummerlaw08.FaultsChains', WHERE WHAT IT READS IS OF BULK AT MOST 1048576: true; the input reads as it did. -/
def faultsChainsUptoRow : OpenClaim := { program := "ytdjkdlbokepoaaagreatdoor", sum := "3310ab085df550ebc13a92366b561ba7e4e555b73a5b74cae30d0f09d5fa58cd", func := "mummer/mummerlaw08.FaultsChains", spec := "faultsChains", inPlace := ["internal/bytealg.Count", "internal/bytealg.IndexByte", "internal/bytealg.Index", "internal/abi.NoEscape", "internal/bytealg.MakeNoZero", "internal/reflectlite.ValueOf", "(internal/reflectlite.Value).Type", "(internal/reflectlite.Value).IsNil", "internal/reflectlite.TypeOf", "(internal/reflectlite.Value).Elem", "(internal/reflectlite.Value).Set"], unfollowed := true, recurses := true, named := ["unicode/utf8.first", "unicode/utf8.acceptRanges", "internal/bytealg.MaxLen", "mummer/faults.passes", "mummer/faults.codes", "internal/strconv.uint64pow10", "math/bits.deBruijn32tab", "math/bits.deBruijn64tab", "errors.errorType"], apart := false, laid := [("math/bits.deBruijn32tab", laid_math_bits_deBruijn32tab), ("math/bits.deBruijn64tab", laid_math_bits_deBruijn64tab), ("internal/strconv.uint64pow10", laid_internal_strconv_uint64pow10), ("unicode/utf8.acceptRanges", laid_unicode_utf8_acceptRanges), ("errors.errorType", laid_errors_errorType), ("mummer/faults.passes", laid_mummer_faults_passes), ("mummer/faults.codes", laid_mummer_faults_codes), ("unicode/utf8.first", laid_unicode_utf8_first)], narrowed := true }
def FaultsChainsUptoSaid : Prop := faultsChainsUptoRow.holds Tryz.pinned (OpenSpec.upto faultsChainsSpec)

/-- 'mummerlaw08.FaultsAsks', WHERE WHAT IT READS IS OF BULK AT MOST 1048576: true; the input reads as it did. -/
def faultsAsksUptoRow : OpenClaim := { program := "ytdjkdlbokepoaaagreatdoor", sum := "3310ab085df550ebc13a92366b561ba7e4e555b73a5b74cae30d0f09d5fa58cd", func := "mummer/mummerlaw08.FaultsAsks", spec := "faultsAsks", inPlace := ["internal/bytealg.Count", "internal/bytealg.IndexByte", "internal/bytealg.Index", "internal/abi.NoEscape", "internal/bytealg.MakeNoZero", "internal/reflectlite.ValueOf", "(internal/reflectlite.Value).Type", "(internal/reflectlite.Value).IsNil", "internal/reflectlite.TypeOf", "(internal/reflectlite.Value).Elem", "(internal/reflectlite.Value).Set"], unfollowed := true, recurses := true, named := ["unicode/utf8.first", "unicode/utf8.acceptRanges", "internal/bytealg.MaxLen", "mummer/faults.passes", "mummer/faults.codes", "internal/strconv.uint64pow10", "math/bits.deBruijn32tab", "math/bits.deBruijn64tab", "errors.errorType"], apart := false, laid := [("math/bits.deBruijn32tab", laid_math_bits_deBruijn32tab), ("math/bits.deBruijn64tab", laid_math_bits_deBruijn64tab), ("internal/strconv.uint64pow10", laid_internal_strconv_uint64pow10), ("unicode/utf8.acceptRanges", laid_unicode_utf8_acceptRanges), ("errors.errorType", laid_errors_errorType), ("mummer/faults.passes", laid_mummer_faults_passes), ("mummer/faults.codes", laid_mummer_faults_codes), ("unicode/utf8.first", laid_unicode_utf8_first)], narrowed := true }
def FaultsAsksUptoSaid : Prop := faultsAsksUptoRow.holds Tryz.pinned (OpenSpec.upto faultsAsksSpec)

/-- 'mummerlaw08.FaultsKnown', WHERE WHAT IT READS IS OF BULK AT MOST 1048576: true; the input reads as it did. -/
def faultsKnownUptoRow : OpenClaim := { program := "ytdjkdlbokepoaaagreatdoor", sum := "3310ab085df550ebc13a92366b561ba7e4e555b73a5b74cae30d0f09d5fa58cd", func := "mummer/mummerlaw08.FaultsKnown", spec := "faultsKnown", inPlace := ["internal/bytealg.Count", "internal/bytealg.IndexByte", "internal/bytealg.Index", "internal/abi.NoEscape", "internal/bytealg.MakeNoZero", "internal/reflectlite.ValueOf", "(internal/reflectlite.Value).Type", "(internal/reflectlite.Value).IsNil", "internal/reflectlite.TypeOf", "(internal/reflectlite.Value).Elem", "(internal/reflectlite.Value).Set"], unfollowed := true, recurses := true, named := ["unicode/utf8.first", "unicode/utf8.acceptRanges", "internal/bytealg.MaxLen", "mummer/faults.codes", "internal/strconv.uint64pow10", "math/bits.deBruijn32tab", "math/bits.deBruijn64tab", "mummer/faults.passes", "errors.errorType"], apart := false, laid := [("math/bits.deBruijn32tab", laid_math_bits_deBruijn32tab), ("math/bits.deBruijn64tab", laid_math_bits_deBruijn64tab), ("internal/strconv.uint64pow10", laid_internal_strconv_uint64pow10), ("unicode/utf8.acceptRanges", laid_unicode_utf8_acceptRanges), ("errors.errorType", laid_errors_errorType), ("mummer/faults.passes", laid_mummer_faults_passes), ("mummer/faults.codes", laid_mummer_faults_codes), ("unicode/utf8.first", laid_unicode_utf8_first)], narrowed := true }
def FaultsKnownUptoSaid : Prop := faultsKnownUptoRow.holds Tryz.pinned (OpenSpec.upto faultsKnownSpec)

end Rows
end Go.Proofs.YtdjkdlbokepoaaaGreatDoor
