-- Written by wip/tools/myprint.py of this session over the kit's print; Lean checks it.
import Derived.Test.YtnkfdobcmfdhfaaDoorPx0
namespace Go.Proofs.YtnkfdobcmfdhfaaDoor.P
open Go.RowKit Go.Proofs.YtnkfdobcmfdhfaaDoorW.PrintWords Go.Proofs.YtnkfdobcmfdhfaaDoorW.PrintLast Go.Proofs.YtnkfdobcmfdhfaaDoorW.PrintMore
attribute [local go_sem] max2_int min2_int max_two min_two max_three min_three max_four min_four   -- for this text's walks alone
set_option linter.unusedVariables false
set_option linter.unusedSimpArgs false


/-! ### runes_Starts: function 53 (written by this session) -/
def runes_Starts.f (l0 : List Int) : Option (List Int × Int) := (Sc.goodRuns l0).map fun rs => (rs.map (fun x => ((x.1 : Nat) : Int)) ++ [(l0.length : Int)], 0)
theorem runes_Starts.calls (A0 : Option Addr) (c0 : Nat) (l0 : List Int) (r1 : List Int) (r2 : Int) (w : World) (hr0 : Kd.C (Kd.int .u8) w A0 l0.length l0) (hc0 : l0.length ≤ c0) (h : runes_Starts.f l0 = some (r1, r2)) (HT : Aside0 (Sc.Tab w)) :
    Calls Tryd.prog 53 #[.slice A0 l0.length c0] w fun e w' => ∃ v0_ : Value, e = .returned (.tuple #[v0_, .int .i64 r2]) ∧ Kd.R (Kd.int .i64) 3 w' w.heap.size (fun _ => True) v0_ r1 ∧ Below w.heap.size w w' := by
  unfold runes_Starts.f at h
  obtain ⟨rs, h1, h2⟩ := Option.map_eq_some_iff.mp h
  cases h2
  exact (Sc.starts_calls l0 A0 c0 rs w hr0 hc0 h1 HT.out).mono fun e W' ⟨v, he, hrow, hb⟩ => ⟨v, he, Kd.R_of_own hrow (fun _ _ => trivial), hb⟩

end Go.Proofs.YtnkfdobcmfdhfaaDoor.P
