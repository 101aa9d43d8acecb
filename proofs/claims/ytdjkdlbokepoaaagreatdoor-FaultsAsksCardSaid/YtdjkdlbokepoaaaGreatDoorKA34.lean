import Derived.Test.YtdjkdlbokepoaaaGreatDoorCards
import Derived.Test.YtdjkdlbokepoaaaGreatDoorTie
import Derived.Test.YtdjkdlbokepoaaaGreatDoorKA36
import Derived.WalkKit
import Derived.ProofKit
import Derived.OpenShut
import Derived.Deep.DeepHandedRow
import Derived.Lib.LaidTab
import Derived.Stop.LaidErr
import Derived.Lib.LaidU8T
import Derived.PinnedBridge
import Derived.LaidHandle
namespace Go.Proofs.YtdjkdlbokepoaaaGreatDoor.P
open Go.ChangeShapes Go.WideShapes Go.ChangeAt Go.RowKit
theorem seatOwn : ownKnob Tryz.prog.godebug = none := by kernel_rfl
noncomputable def laidWorld (os : Os) : World :=
 { World.holding Tryz.prog os ⟨#[], #[], []⟩ with heap := (((((((((World.holding Tryz.prog os ⟨#[], #[], []⟩).heap.modify 7 fun
   | .cells _ t frozen => .cells #[.int .u8 0, .int .u8 1, .int .u8 28, .int .u8 2, .int .u8 29, .int .u8 14, .int .u8 24, .int .u8 3, .int .u8 30, .int .u8 22, .int .u8 20, .int .u8 15, .int .u8 25, .int .u8 17, .int .u8 4, .int .u8 8, .int .u8 31, .int .u8 27, .int .u8 13, .int .u8 23, .int .u8 21, .int .u8 19, .int .u8 16, .int .u8 7, .int .u8 26, .int .u8 12, .int .u8 18, .int .u8 6, .int .u8 11, .int .u8 5, .int .u8 10, .int .u8 9] t frozen
   | o => o).modify 8 fun
   | .cells _ t frozen => .cells #[.int .u8 0, .int .u8 1, .int .u8 56, .int .u8 2, .int .u8 57, .int .u8 49, .int .u8 28, .int .u8 3, .int .u8 61, .int .u8 58, .int .u8 42, .int .u8 50, .int .u8 38, .int .u8 29, .int .u8 17, .int .u8 4, .int .u8 62, .int .u8 47, .int .u8 59, .int .u8 36, .int .u8 45, .int .u8 43, .int .u8 51, .int .u8 22, .int .u8 53, .int .u8 39, .int .u8 33, .int .u8 30, .int .u8 24, .int .u8 18, .int .u8 12, .int .u8 5, .int .u8 63, .int .u8 55, .int .u8 48, .int .u8 27, .int .u8 60, .int .u8 41, .int .u8 37, .int .u8 16, .int .u8 46, .int .u8 35, .int .u8 44, .int .u8 21, .int .u8 52, .int .u8 32, .int .u8 23, .int .u8 11, .int .u8 54, .int .u8 26, .int .u8 40, .int .u8 15, .int .u8 34, .int .u8 20, .int .u8 31, .int .u8 10, .int .u8 25, .int .u8 14, .int .u8 19, .int .u8 9, .int .u8 13, .int .u8 8, .int .u8 7, .int .u8 6] t frozen
   | o => o).modify 6 fun
   | .cells _ t frozen => .cells #[.int .u64 1, .int .u64 10, .int .u64 100, .int .u64 1000, .int .u64 10000, .int .u64 100000, .int .u64 1000000, .int .u64 10000000, .int .u64 100000000, .int .u64 1000000000, .int .u64 10000000000, .int .u64 100000000000, .int .u64 1000000000000, .int .u64 10000000000000, .int .u64 100000000000000, .int .u64 1000000000000000, .int .u64 10000000000000000, .int .u64 100000000000000000, .int .u64 1000000000000000000, .int .u64 10000000000000000000] t frozen
   | o => o).modify 5 fun
   | .cells _ t frozen => .cells #[.int .u8 128, .int .u8 191, .int .u8 160, .int .u8 191, .int .u8 128, .int .u8 159, .int .u8 144, .int .u8 191, .int .u8 128, .int .u8 143, .int .u8 0, .int .u8 0, .int .u8 0, .int .u8 0, .int .u8 0, .int .u8 0, .int .u8 0, .int .u8 0, .int .u8 0, .int .u8 0, .int .u8 0, .int .u8 0, .int .u8 0, .int .u8 0, .int .u8 0, .int .u8 0, .int .u8 0, .int .u8 0, .int .u8 0, .int .u8 0, .int .u8 0, .int .u8 0] t frozen
   | o => o).modify 2 fun
   | .cells _ t frozen => .cells #[.iface 160 (.agg #[.pointer (some ⟨9, 90, none⟩)])] t frozen
   | o => o).modify 1 fun
   | .cells _ t frozen => .cells #[.string ⟨#[]⟩, .string ⟨#[108, 101, 120]⟩, .string ⟨#[114, 101, 97, 100]⟩, .string ⟨#[101, 120, 112, 97, 110, 100]⟩, .string ⟨#[115, 117, 114, 102, 97, 99, 101]⟩, .string ⟨#[115, 117, 103, 97, 114]⟩, .string ⟨#[115, 116, 101, 112]⟩, .string ⟨#[108, 105, 102, 116]⟩, .string ⟨#[109, 111, 100, 101, 108]⟩] t frozen
   | o => o).modify 0 fun
   | .cells _ t frozen => .cells #[.string ⟨#[]⟩, .string ⟨#[110, 105, 108]⟩, .string ⟨#[97, 114, 103, 117, 109, 101, 110, 116]⟩, .string ⟨#[116, 111, 111, 32, 108, 111, 110, 103]⟩, .string ⟨#[110, 111, 110, 101]⟩, .string ⟨#[102, 117, 101, 108]⟩, .string ⟨#[102, 111, 114, 109]⟩, .string ⟨#[114, 97, 110, 103, 101]⟩, .string ⟨#[116, 119, 105, 99, 101]⟩, .string ⟨#[115, 116, 97, 116, 101]⟩, .string ⟨#[117, 110, 98, 111, 117, 110, 100]⟩, .string ⟨#[97, 109, 98, 105, 103, 117, 111, 117, 115]⟩, .string ⟨#[112, 108, 97, 99, 101]⟩, .string ⟨#[109, 97, 99, 114, 111]⟩, .string ⟨#[109, 97, 116, 99, 104]⟩, .string ⟨#[101, 97, 114, 108, 121]⟩, .string ⟨#[108, 101, 116, 114, 101, 99]⟩, .string ⟨#[97, 112, 112, 108, 121]⟩, .string ⟨#[97, 114, 105, 116, 121]⟩, .string ⟨#[116, 121, 112, 101]⟩, .string ⟨#[111, 118, 101, 114, 102, 108, 111, 119]⟩, .string ⟨#[100, 105, 118, 105, 100, 101]⟩] t frozen
   | o => o).modify 4 fun
   | .cells _ t frozen => .cells #[.int .u8 240, .int .u8 240, .int .u8 240, .int .u8 240, .int .u8 240, .int .u8 240, .int .u8 240, .int .u8 240, .int .u8 240, .int .u8 240, .int .u8 240, .int .u8 240, .int .u8 240, .int .u8 240, .int .u8 240, .int .u8 240, .int .u8 240, .int .u8 240, .int .u8 240, .int .u8 240, .int .u8 240, .int .u8 240, .int .u8 240, .int .u8 240, .int .u8 240, .int .u8 240, .int .u8 240, .int .u8 240, .int .u8 240, .int .u8 240, .int .u8 240, .int .u8 240, .int .u8 240, .int .u8 240, .int .u8 240, .int .u8 240, .int .u8 240, .int .u8 240, .int .u8 240, .int .u8 240, .int .u8 240, .int .u8 240, .int .u8 240, .int .u8 240, .int .u8 240, .int .u8 240, .int .u8 240, .int .u8 240, .int .u8 240, .int .u8 240, .int .u8 240, .int .u8 240, .int .u8 240, .int .u8 240, .int .u8 240, .int .u8 240, .int .u8 240, .int .u8 240, .int .u8 240, .int .u8 240, .int .u8 240, .int .u8 240, .int .u8 240, .int .u8 240, .int .u8 240, .int .u8 240, .int .u8 240, .int .u8 240, .int .u8 240, .int .u8 240, .int .u8 240, .int .u8 240, .int .u8 240, .int .u8 240, .int .u8 240, .int .u8 240, .int .u8 240, .int .u8 240, .int .u8 240, .int .u8 240, .int .u8 240, .int .u8 240, .int .u8 240, .int .u8 240, .int .u8 240, .int .u8 240, .int .u8 240, .int .u8 240, .int .u8 240, .int .u8 240, .int .u8 240, .int .u8 240, .int .u8 240, .int .u8 240, .int .u8 240, .int .u8 240, .int .u8 240, .int .u8 240, .int .u8 240, .int .u8 240, .int .u8 240, .int .u8 240, .int .u8 240, .int .u8 240, .int .u8 240, .int .u8 240, .int .u8 240, .int .u8 240, .int .u8 240, .int .u8 240, .int .u8 240, .int .u8 240, .int .u8 240, .int .u8 240, .int .u8 240, .int .u8 240, .int .u8 240, .int .u8 240, .int .u8 240, .int .u8 240, .int .u8 240, .int .u8 240, .int .u8 240, .int .u8 240, .int .u8 240, .int .u8 240, .int .u8 240, .int .u8 240, .int .u8 241, .int .u8 241, .int .u8 241, .int .u8 241, .int .u8 241, .int .u8 241, .int .u8 241, .int .u8 241, .int .u8 241, .int .u8 241, .int .u8 241, .int .u8 241, .int .u8 241, .int .u8 241, .int .u8 241, .int .u8 241, .int .u8 241, .int .u8 241, .int .u8 241, .int .u8 241, .int .u8 241, .int .u8 241, .int .u8 241, .int .u8 241, .int .u8 241, .int .u8 241, .int .u8 241, .int .u8 241, .int .u8 241, .int .u8 241, .int .u8 241, .int .u8 241, .int .u8 241, .int .u8 241, .int .u8 241, .int .u8 241, .int .u8 241, .int .u8 241, .int .u8 241, .int .u8 241, .int .u8 241, .int .u8 241, .int .u8 241, .int .u8 241, .int .u8 241, .int .u8 241, .int .u8 241, .int .u8 241, .int .u8 241, .int .u8 241, .int .u8 241, .int .u8 241, .int .u8 241, .int .u8 241, .int .u8 241, .int .u8 241, .int .u8 241, .int .u8 241, .int .u8 241, .int .u8 241, .int .u8 241, .int .u8 241, .int .u8 241, .int .u8 241, .int .u8 241, .int .u8 241, .int .u8 2, .int .u8 2, .int .u8 2, .int .u8 2, .int .u8 2, .int .u8 2, .int .u8 2, .int .u8 2, .int .u8 2, .int .u8 2, .int .u8 2, .int .u8 2, .int .u8 2, .int .u8 2, .int .u8 2, .int .u8 2, .int .u8 2, .int .u8 2, .int .u8 2, .int .u8 2, .int .u8 2, .int .u8 2, .int .u8 2, .int .u8 2, .int .u8 2, .int .u8 2, .int .u8 2, .int .u8 2, .int .u8 2, .int .u8 2, .int .u8 19, .int .u8 3, .int .u8 3, .int .u8 3, .int .u8 3, .int .u8 3, .int .u8 3, .int .u8 3, .int .u8 3, .int .u8 3, .int .u8 3, .int .u8 3, .int .u8 3, .int .u8 35, .int .u8 3, .int .u8 3, .int .u8 52, .int .u8 4, .int .u8 4, .int .u8 4, .int .u8 68, .int .u8 241, .int .u8 241, .int .u8 241, .int .u8 241, .int .u8 241, .int .u8 241, .int .u8 241, .int .u8 241, .int .u8 241, .int .u8 241, .int .u8 241] t frozen
   | o => o) }
open Go.Shelf Go.Lib in
def u8ren : Go.Shelf.Ren := ⟨fun n => n, fun | 5 => 5 | 119 => 177 | 138 => 179 | 139 => 180 | n => n, fun | 3 => 4 | 4 => 5 | n => n⟩
theorem u8T : Go.Proofs.U8Types Tryz.prog u8ren := { t5 := Tryz.underlying5, t119 := Tryz.underlying177, t138 := Tryz.underlying179, t139 := Tryz.underlying180 }
theorem u8X : Go.Proofs.U8Extra Tryz.prog u8ren := { n3 := by kernel_rfl, n4 := by kernel_rfl, y3 := by kernel_rfl, y4 := by kernel_rfl, c5 := by kernel_rfl, c119 := by kernel_rfl, c138 := by kernel_rfl }
theorem acc_eq : (Rows.laid_unicode_utf8_acceptRanges : DataW Unit) = Go.Lib.acceptData := by kernel_rfl
theorem first_eq : Rows.laid_unicode_utf8_first = Go.Lib.firstData := Go.Pinned.utf8First_eq
theorem gTab : Tryz.prog.globalNamed "internal/strconv.uint64pow10" = some 6 := by kernel_rfl
theorem gTabType : (Tryz.prog.globals[6]?).map (·.type) = some 196 := by kernel_rfl
theorem cells196 : Tryz.prog.cellsOf 196 = 20 := by kernel_rfl
theorem cells185 : Tryz.prog.cellsOf 185 = 1 := by kernel_rfl
theorem cells9 : Tryz.prog.cellsOf 9 = 1 := by kernel_rfl
theorem codes_in {W : World} (h1 : laidMet Tryz.prog [("math/bits.deBruijn32tab", Rows.laid_math_bits_deBruijn32tab), ("math/bits.deBruijn64tab", Rows.laid_math_bits_deBruijn64tab), ("internal/strconv.uint64pow10", Rows.laid_internal_strconv_uint64pow10), ("unicode/utf8.acceptRanges", Rows.laid_unicode_utf8_acceptRanges), ("mummer/faults.passes", Rows.laid_mummer_faults_passes), ("mummer/faults.codes", Rows.laid_mummer_faults_codes), ("unicode/utf8.first", Rows.laid_unicode_utf8_first)] W) : ∀ i s, Ft.codesL[i]? = some s → W.cell? ⟨0, i, none⟩ = some (.string s) := by
 obtain ⟨g, t, cs, fuel, p, hg, hty, hvar, hd⟩ := Go.Lib.laidMet.reads h1 (n := "mummer/faults.codes") (d := Rows.laid_mummer_faults_codes) (by simp)
 obtain rfl := Option.some.inj ((show Tryz.prog.globalNamed "mummer/faults.codes" = some 0 by kernel_rfl).symm.trans hg)
 obtain rfl := Option.some.inj ((show (Tryz.prog.globals[0]?).map (·.type) = some 73 by kernel_rfl).symm.trans hty)
 intro i s hs
 have hi : i < 22 := by
  have := (List.getElem?_eq_some_iff.1 hs).1
  exact this
 obtain ⟨fuel', d, q, hdi, he⟩ := Lib.array_elem Tryz.underlying73 hd i hi
 rw [cells9] at he
 obtain ⟨s', hc, hz, hw⟩ := DataW.trod_string Tryz.underlying9 he
 have hc0 : cs[i]? = some (.string s') := by
  have e0 := congrArg (·[0]?) hc
  simpa [List.getElem?_take, List.getElem?_drop] using e0
 rw [World.var?_cell (by kernel_rfl) hvar i, hc0]
 have hd2 : ((Ft.codesL).map fun b => (DataW.lit (.string b.data.toList) : DataW Unit))[i]? = some d := by rw [← hdi]; rfl
 rw [List.getElem?_map, hs] at hd2
 have hd3 := Option.some.inj hd2
 have h5 : (DataW.lit (.string s.data.toList) : DataW Unit) = .lit (.string s'.data.toList) := hd3.trans (congrArg Prod.fst hz)
 injection h5 with h6
 injection h6 with h7
 exact congrArg (fun x => some (Value.string x)) (ByteArray.ext (Array.toList_inj.1 h7)).symm
theorem passes_in {W : World} (h1 : laidMet Tryz.prog [("math/bits.deBruijn32tab", Rows.laid_math_bits_deBruijn32tab), ("math/bits.deBruijn64tab", Rows.laid_math_bits_deBruijn64tab), ("internal/strconv.uint64pow10", Rows.laid_internal_strconv_uint64pow10), ("unicode/utf8.acceptRanges", Rows.laid_unicode_utf8_acceptRanges), ("mummer/faults.passes", Rows.laid_mummer_faults_passes), ("mummer/faults.codes", Rows.laid_mummer_faults_codes), ("unicode/utf8.first", Rows.laid_unicode_utf8_first)] W) : ∀ i s, Ft.passesL[i]? = some s → W.cell? ⟨1, i, none⟩ = some (.string s) := by
 obtain ⟨g, t, cs, fuel, p, hg, hty, hvar, hd⟩ := Go.Lib.laidMet.reads h1 (n := "mummer/faults.passes") (d := Rows.laid_mummer_faults_passes) (by simp)
 obtain rfl := Option.some.inj ((show Tryz.prog.globalNamed "mummer/faults.passes" = some 1 by kernel_rfl).symm.trans hg)
 obtain rfl := Option.some.inj ((show (Tryz.prog.globals[1]?).map (·.type) = some 76 by kernel_rfl).symm.trans hty)
 intro i s hs
 have hi : i < 9 := by
  have := (List.getElem?_eq_some_iff.1 hs).1
  exact this
 obtain ⟨fuel', d, q, hdi, he⟩ := Lib.array_elem Tryz.underlying76 hd i hi
 rw [cells9] at he
 obtain ⟨s', hc, hz, hw⟩ := DataW.trod_string Tryz.underlying9 he
 have hc0 : cs[i]? = some (.string s') := by
  have e0 := congrArg (·[0]?) hc
  simpa [List.getElem?_take, List.getElem?_drop] using e0
 rw [World.var?_cell (by kernel_rfl) hvar i, hc0]
 have hd2 : ((Ft.passesL).map fun b => (DataW.lit (.string b.data.toList) : DataW Unit))[i]? = some d := by rw [← hdi]; rfl
 rw [List.getElem?_map, hs] at hd2
 have hd3 := Option.some.inj hd2
 have h5 : (DataW.lit (.string s.data.toList) : DataW Unit) = .lit (.string s'.data.toList) := hd3.trans (congrArg Prod.fst hz)
 injection h5 with h6
 injection h6 with h7
 exact congrArg (fun x => some (Value.string x)) (ByteArray.ext (Array.toList_inj.1 h7)).symm
theorem seatTab {W : World} (h : laidMetH Tryz.prog [("math/bits.deBruijn32tab", Rows.laid_math_bits_deBruijn32tab), ("math/bits.deBruijn64tab", Rows.laid_math_bits_deBruijn64tab), ("internal/strconv.uint64pow10", Rows.laid_internal_strconv_uint64pow10), ("unicode/utf8.acceptRanges", Rows.laid_unicode_utf8_acceptRanges), ("errors.errorType", Rows.laid_errors_errorType), ("mummer/faults.passes", Rows.laid_mummer_faults_passes), ("mummer/faults.codes", Rows.laid_mummer_faults_codes), ("unicode/utf8.first", Rows.laid_unicode_utf8_first)] W) : Ft.All W := by
 have h1 : laidMet Tryz.prog [("math/bits.deBruijn32tab", Rows.laid_math_bits_deBruijn32tab), ("math/bits.deBruijn64tab", Rows.laid_math_bits_deBruijn64tab), ("internal/strconv.uint64pow10", Rows.laid_internal_strconv_uint64pow10), ("unicode/utf8.acceptRanges", Rows.laid_unicode_utf8_acceptRanges), ("mummer/faults.passes", Rows.laid_mummer_faults_passes), ("mummer/faults.codes", Rows.laid_mummer_faults_codes), ("unicode/utf8.first", Rows.laid_unicode_utf8_first)] W := h.1
 refine ⟨?_, ?_, codes_in h1, passes_in h1⟩
 ·rw [acc_eq, first_eq] at h1
  obtain ⟨ps, hl, _⟩ := h1
  exact Go.Proofs.utf8Tabs_of_readsT u8T u8X (Go.Lib.LaidVars_reads hl _ _ (by simp)) (Go.Lib.LaidVars_reads hl _ _ (by simp))
 ·exact Lib.tabIs_of_head gTab gTabType Tryz.underlying196 Tryz.underlying185 cells185 cells196 (show laidMet Tryz.prog (("internal/strconv.uint64pow10", Lib.tabData .u64 Lib.pow10Tab) :: [("unicode/utf8.acceptRanges", Rows.laid_unicode_utf8_acceptRanges), ("mummer/faults.passes", Rows.laid_mummer_faults_passes), ("mummer/faults.codes", Rows.laid_mummer_faults_codes), ("unicode/utf8.first", Rows.laid_unicode_utf8_first)]) W from h1.tail.tail)
end Go.Proofs.YtdjkdlbokepoaaaGreatDoor.P
