import Derived.Test.YtnkfdobcmfdhfaaDoorKX33
import Derived.Test.YtnkfdobcmfdhfaaDoorKX30
import Derived.Test.YtnkfdobcmfdhfaaDoorKX34
import Derived.Test.YtnkfdobcmfdhfaaDoorKX35
import Derived.Test.YtnkfdobcmfdhfaaDoorKX28
namespace Go.Proofs.YtnkfdobcmfdhfaaDoor.P
open Go.RowKit Go.Proofs.YtnkfdobcmfdhfaaDoorW.PrintWords Go.Proofs.YtnkfdobcmfdhfaaDoorW.PrintLast Sc
set_option linter.unusedVariables false
set_option linter.unusedSimpArgs false
set_option maxRecDepth 20000
def beforeS (a b : S24) : Bool × Int := if OkS a ∧ OkS b then (decide (Be a b), 0) else (false, 6)
theorem mx_ge (a b : Int) : a ≤ mx a b ∧ b ≤ mx a b ∧ (mx a b = a ∨ mx a b = b) := by unfold mx; split <;> omega
theorem mn_le (a b : Int) : mn a b ≤ a ∧ mn a b ≤ b ∧ (mn a b = a ∨ mn a b = b) := by unfold mn; split <;> omega
theorem code_before (a b : S24) (F : Nat) (hF : 2 < F) : spans_Before.f F a.f0 a.f1 b.f0 b.f1 = some (beforeS a b) := by
  unfold spans_Before.f beforeS
  rw [spans_two ⟨a.f0, a.f1⟩ ⟨b.f0, b.f1⟩ F hF, Option.bind_some]
  by_cases o1 : OkS a
  · by_cases o2 : OkS b
    · rw [if_pos (by rw [decide_eq_true (show OkS ⟨a.f0, a.f1⟩ from o1), decide_eq_true (show OkS ⟨b.f0, b.f1⟩ from o2)]; rfl), if_pos (c := OkS a ∧ OkS b) ⟨o1, o2⟩, before_f]; rfl
    · rw [if_neg (by rw [decide_eq_false (show ¬ OkS ⟨b.f0, b.f1⟩ from o2)]; simp), if_neg (c := OkS a ∧ OkS b) (fun h => o2 h.2)]
  · rw [if_neg (by rw [decide_eq_false (show ¬ OkS ⟨a.f0, a.f1⟩ from o1)]; simp), if_neg (c := OkS a ∧ OkS b) (fun h => o1 h.1)]
theorem before_ok (a b : S24) (ha : OkS a) (hb : OkS b) (F : Nat) (hF : 2 < F) : spans_Before.f F a.f0 a.f1 b.f0 b.f1 = some (decide (Be a b), 0) := by
  rw [code_before a b F hF]
  unfold beforeS
  rw [if_pos (c := OkS a ∧ OkS b) ⟨ha, hb⟩]
end Go.Proofs.YtnkfdobcmfdhfaaDoor.P
