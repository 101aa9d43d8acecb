import Derived.Test.YtnkfdobcmfdhfaaDoorKR34
import Derived.Test.YtnkfdobcmfdhfaaDoorKR29
import Derived.Test.YtnkfdobcmfdhfaaDoorKR35
import Derived.Test.YtnkfdobcmfdhfaaDoorKR27
namespace Go.Proofs.YtnkfdobcmfdhfaaDoor.P
open Go.RowKit Go.Proofs.YtnkfdobcmfdhfaaDoorW.PrintWords Go.Proofs.YtnkfdobcmfdhfaaDoorW.PrintLast Sc
set_option linter.unusedVariables false
set_option linter.unusedSimpArgs false
set_option maxRecDepth 20000
def meetS (a b : S24) : Int × Int × Bool × Int := if OkS a ∧ OkS b then (if mx a.f0 b.f0 > mn a.f1 b.f1 then (0, 0, false, 0) else (mx a.f0 b.f0, mn a.f1 b.f1, true, 0)) else (0, 0, false, 6)
def withinS (a b : S24) : Bool × Int := if OkS a ∧ OkS b then (decide (Wi a b), 0) else (false, 6)
def beforeS (a b : S24) : Bool × Int := if OkS a ∧ OkS b then (decide (Be a b), 0) else (false, 6)
theorem mx_ge (a b : Int) : a ≤ mx a b ∧ b ≤ mx a b ∧ (mx a b = a ∨ mx a b = b) := by unfold mx; split <;> omega
theorem mn_le (a b : Int) : mn a b ≤ a ∧ mn a b ≤ b ∧ (mn a b = a ∨ mn a b = b) := by unfold mn; split <;> omega
theorem code_meet (a b : S24) (F : Nat) (hF : 2 < F) : spans_Meet.f F a.f0 a.f1 b.f0 b.f1 = some (meetS a b) := by
  unfold spans_Meet.f meetS
  rw [spans_two ⟨a.f0, a.f1⟩ ⟨b.f0, b.f1⟩ F hF, Option.bind_some]
  by_cases o1 : OkS a
  · by_cases o2 : OkS b
    · rw [if_pos (by rw [decide_eq_true (show OkS ⟨a.f0, a.f1⟩ from o1), decide_eq_true (show OkS ⟨b.f0, b.f1⟩ from o2)]; rfl), if_pos (c := OkS a ∧ OkS b) ⟨o1, o2⟩, spans_one _ F (by omega), Option.bind_some]
      have h1 := mx_ge a.f0 b.f0
      have h2 := mn_le a.f1 b.f1
      obtain ⟨p1, p2, p3⟩ := o1
      obtain ⟨q1, q2, q3⟩ := o2
      by_cases c : mx a.f0 b.f0 > mn a.f1 b.f1
      · rw [if_pos c, if_neg (by rw [decide_eq_false (show ¬ OkS ⟨mx a.f0 b.f0, mn a.f1 b.f1⟩ from fun h => by have := h.2.1; dsimp only at this; omega)]; decide)]
      · rw [if_neg c, if_pos (decide_eq_true (show OkS ⟨mx a.f0 b.f0, mn a.f1 b.f1⟩ from ⟨by dsimp only; omega, by dsimp only; omega, by dsimp only; omega⟩))]
    · rw [if_neg (by rw [decide_eq_false (show ¬ OkS ⟨b.f0, b.f1⟩ from o2)]; simp), if_neg (c := OkS a ∧ OkS b) (fun h => o2 h.2)]
  · rw [if_neg (by rw [decide_eq_false (show ¬ OkS ⟨a.f0, a.f1⟩ from o1)]; simp), if_neg (c := OkS a ∧ OkS b) (fun h => o1 h.1)]
theorem code_within (a b : S24) (F : Nat) (hF : 2 < F) : spans_Within.f F a.f0 a.f1 b.f0 b.f1 = some (withinS a b) := by
  unfold spans_Within.f withinS
  rw [spans_two ⟨a.f0, a.f1⟩ ⟨b.f0, b.f1⟩ F hF, Option.bind_some]
  by_cases o1 : OkS a
  · by_cases o2 : OkS b
    · rw [if_pos (by rw [decide_eq_true (show OkS ⟨a.f0, a.f1⟩ from o1), decide_eq_true (show OkS ⟨b.f0, b.f1⟩ from o2)]; rfl), if_pos (c := OkS a ∧ OkS b) ⟨o1, o2⟩, within_f]; rfl
    · rw [if_neg (by rw [decide_eq_false (show ¬ OkS ⟨b.f0, b.f1⟩ from o2)]; simp), if_neg (c := OkS a ∧ OkS b) (fun h => o2 h.2)]
  · rw [if_neg (by rw [decide_eq_false (show ¬ OkS ⟨a.f0, a.f1⟩ from o1)]; simp), if_neg (c := OkS a ∧ OkS b) (fun h => o1 h.1)]
theorem code_before (a b : S24) (F : Nat) (hF : 2 < F) : spans_Before.f F a.f0 a.f1 b.f0 b.f1 = some (beforeS a b) := by
  unfold spans_Before.f beforeS
  rw [spans_two ⟨a.f0, a.f1⟩ ⟨b.f0, b.f1⟩ F hF, Option.bind_some]
  by_cases o1 : OkS a
  · by_cases o2 : OkS b
    · rw [if_pos (by rw [decide_eq_true (show OkS ⟨a.f0, a.f1⟩ from o1), decide_eq_true (show OkS ⟨b.f0, b.f1⟩ from o2)]; rfl), if_pos (c := OkS a ∧ OkS b) ⟨o1, o2⟩, before_f]; rfl
    · rw [if_neg (by rw [decide_eq_false (show ¬ OkS ⟨b.f0, b.f1⟩ from o2)]; simp), if_neg (c := OkS a ∧ OkS b) (fun h => o2 h.2)]
  · rw [if_neg (by rw [decide_eq_false (show ¬ OkS ⟨a.f0, a.f1⟩ from o1)]; simp), if_neg (c := OkS a ∧ OkS b) (fun h => o1 h.1)]
theorem within_ok (a b : S24) (ha : OkS a) (hb : OkS b) (F : Nat) (hF : 2 < F) : spans_Within.f F a.f0 a.f1 b.f0 b.f1 = some (decide (Wi a b), 0) := by
  rw [code_within a b F hF]
  unfold withinS
  rw [if_pos (c := OkS a ∧ OkS b) ⟨ha, hb⟩]
theorem valid_f (a : S24) : mummerlaw03_valid.f a.f0 a.f1 = some (decide (OkS a)) := by
  unfold mummerlaw03_valid.f OkS
  by_cases c : a.f0 ≥ 0
  · rw [if_pos c]
    have c' : 0 ≤ a.f0 := c
    by_cases c2 : a.f0 ≤ a.f1
    · rw [if_pos c2]; simp [c', c2]
    · rw [if_neg c2]; simp [c2]
  · rw [if_neg c]; have c' : ¬ 0 ≤ a.f0 := c; simp [c']
theorem before_ok (a b : S24) (ha : OkS a) (hb : OkS b) (F : Nat) (hF : 2 < F) : spans_Before.f F a.f0 a.f1 b.f0 b.f1 = some (decide (Be a b), 0) := by
  rw [code_before a b F hF]
  unfold beforeS
  rw [if_pos (c := OkS a ∧ OkS b) ⟨ha, hb⟩]
end Go.Proofs.YtnkfdobcmfdhfaaDoor.P
