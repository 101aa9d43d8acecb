import Derived.Test.YtnkfdobcmfdhfaaDoorKV33
import Derived.Test.YtnkfdobcmfdhfaaDoorKV28
import Derived.Test.YtnkfdobcmfdhfaaDoorKV26
namespace Go.Proofs.YtnkfdobcmfdhfaaDoor.P
open Go.RowKit Go.Proofs.YtnkfdobcmfdhfaaDoorW.PrintWords Go.Proofs.YtnkfdobcmfdhfaaDoorW.PrintLast Sc
set_option linter.unusedVariables false
set_option linter.unusedSimpArgs false
set_option maxRecDepth 20000
def meetS (a b : S24) : Int × Int × Bool × Int := if OkS a ∧ OkS b then (if mx a.f0 b.f0 > mn a.f1 b.f1 then (0, 0, false, 0) else (mx a.f0 b.f0, mn a.f1 b.f1, true, 0)) else (0, 0, false, 6)
def withinS (a b : S24) : Bool × Int := if OkS a ∧ OkS b then (decide (Wi a b), 0) else (false, 6)
theorem mx_ge (a b : Int) : a ≤ mx a b ∧ b ≤ mx a b ∧ (mx a b = a ∨ mx a b = b) := by unfold mx; split <;> omega
theorem mn_le (a b : Int) : mn a b ≤ a ∧ mn a b ≤ b ∧ (mn a b = a ∨ mn a b = b) := by unfold mn; split <;> omega
theorem code_meet (a b : S24) (F : Nat) (hF : 2 < F) : spans_Meet.f F a.f0 a.f1 b.f0 b.f1 = some (meetS a b) := by
  unfold spans_Meet.f meetS
  rw [spans_two ⟨a.f0, a.f1⟩ ⟨b.f0, b.f1⟩ F hF, Option.bind_some]
  by_cases o1 : OkS a
  · by_cases o2 : OkS b
    · rw [if_pos (by rw [decide_eq_true (show OkS ⟨a.f0, a.f1⟩ from o1), decide_eq_true (show OkS ⟨b.f0, b.f1⟩ from o2)]; rfl), if_pos (c := OkS a ∧ OkS b) ⟨o1, o2⟩, spans_one _ F (by omega), Option.bind_some]
      have h1 := mx_ge a.f0 b.f0
      have h2 := mn_le a.f1 b.f1
      obtain ⟨p1, p2, p3⟩ := o1
      obtain ⟨q1, q2, q3⟩ := o2
      by_cases c : mx a.f0 b.f0 > mn a.f1 b.f1
      · rw [if_pos c, if_neg (by rw [decide_eq_false (show ¬ OkS ⟨mx a.f0 b.f0, mn a.f1 b.f1⟩ from fun h => by have := h.2.1; dsimp only at this; omega)]; decide)]
      · rw [if_neg c, if_pos (decide_eq_true (show OkS ⟨mx a.f0 b.f0, mn a.f1 b.f1⟩ from ⟨by dsimp only; omega, by dsimp only; omega, by dsimp only; omega⟩))]
    · rw [if_neg (by rw [decide_eq_false (show ¬ OkS ⟨b.f0, b.f1⟩ from o2)]; simp), if_neg (c := OkS a ∧ OkS b) (fun h => o2 h.2)]
  · rw [if_neg (by rw [decide_eq_false (show ¬ OkS ⟨a.f0, a.f1⟩ from o1)]; simp), if_neg (c := OkS a ∧ OkS b) (fun h => o1 h.1)]
theorem code_within (a b : S24) (F : Nat) (hF : 2 < F) : spans_Within.f F a.f0 a.f1 b.f0 b.f1 = some (withinS a b) := by
  unfold spans_Within.f withinS
  rw [spans_two ⟨a.f0, a.f1⟩ ⟨b.f0, b.f1⟩ F hF, Option.bind_some]
  by_cases o1 : OkS a
  · by_cases o2 : OkS b
    · rw [if_pos (by rw [decide_eq_true (show OkS ⟨a.f0, a.f1⟩ from o1), decide_eq_true (show OkS ⟨b.f0, b.f1⟩ from o2)]; rfl), if_pos (c := OkS a ∧ OkS b) ⟨o1, o2⟩, within_f]; rfl
    · rw [if_neg (by rw [decide_eq_false (show ¬ OkS ⟨b.f0, b.f1⟩ from o2)]; simp), if_neg (c := OkS a ∧ OkS b) (fun h => o2 h.2)]
  · rw [if_neg (by rw [decide_eq_false (show ¬ OkS ⟨a.f0, a.f1⟩ from o1)]; simp), if_neg (c := OkS a ∧ OkS b) (fun h => o1 h.1)]
def coverGo (l : List S24) : Nat → Nat → Int → Int → Int × Int × Int
  | 0, _, a, b => (a, b, 0)
  | d + 1, i, a, b => coverGo l d (i + 1) (mn a (sp l i).f0) (mx b (sp l i).f1)
def coverS (l : List S24) : Int × Int × Int := if okFrom l l.length 0 = true then (if l.length = 0 then (0, 0, 4) else coverGo l l.length 0 (sp l 0).f0 (sp l 0).f1) else (0, 0, 6)
theorem code_cover_l (l : List S24) (hl : l.length ≤ 1000000) : ∀ (d i F : Nat) (a b : Int), i + d = l.length → d < F → spans_Cover.l0 F l l.length i a b = some (coverGo l d i a b) := by
  intro d
  induction d with
  | zero =>
    intro i F a b hi hF
    obtain ⟨F, rfl⟩ : ∃ m, F = m + 1 := ⟨F - 1, by omega⟩
    simp only [spans_Cover.l0]
    rw [if_neg (by omega)]
    rfl
  | succ d ih =>
    intro i F a b hi hF
    obtain ⟨F, rfl⟩ : ∃ m, F = m + 1 := ⟨F - 1, by omega⟩
    simp only [spans_Cover.l0, coverGo]
    rw [if_pos (by omega), if_pos (by omega), if_pos (by omega), rd_sp, w64 (by omega) (by omega)]
    have := ih (i + 1) F (mn a (sp l i).f0) (mx b (sp l i).f1) (by omega) (by omega)
    rwa [show ((i + 1 : Nat) : Int) = (i : Int) + 1 by omega] at this
theorem code_cover (l : List S24) (hl : l.length ≤ 1000000) (F : Nat) (hF : l.length + 2 < F) : spans_Cover.f F l = some (coverS l) := by
  unfold spans_Cover.f coverS
  have h1 : spans_spans.f F l = some (okFrom l l.length 0) := by
    unfold spans_spans.f
    exact spans_l0 l hl l.length 0 F (by omega) (by omega)
  rw [h1, Option.bind_some]
  by_cases c : okFrom l l.length 0 = true
  · rw [if_pos c, if_pos c]
    by_cases c2 : l.length = 0
    · rw [if_pos (by omega), if_pos c2]
    · rw [if_neg (by omega), if_neg c2, if_pos (by omega)]
      exact code_cover_l l hl l.length 0 F _ _ (by omega) (by omega)
  · rw [if_neg c, if_neg c]
theorem within_ok (a b : S24) (ha : OkS a) (hb : OkS b) (F : Nat) (hF : 2 < F) : spans_Within.f F a.f0 a.f1 b.f0 b.f1 = some (decide (Wi a b), 0) := by
  rw [code_within a b F hF]
  unfold withinS
  rw [if_pos (c := OkS a ∧ OkS b) ⟨ha, hb⟩]
theorem valid_f (a : S24) : mummerlaw03_valid.f a.f0 a.f1 = some (decide (OkS a)) := by
  unfold mummerlaw03_valid.f OkS
  by_cases c : a.f0 ≥ 0
  · rw [if_pos c]
    have c' : 0 ≤ a.f0 := c
    by_cases c2 : a.f0 ≤ a.f1
    · rw [if_pos c2]; simp [c', c2]
    · rw [if_neg c2]; simp [c2]
  · rw [if_neg c]; have c' : ¬ 0 ≤ a.f0 := c; simp [c']
end Go.Proofs.YtnkfdobcmfdhfaaDoor.P
