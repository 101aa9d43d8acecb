import Derived.Test.YtnkfdobcmfdhfaaDoorKP33
import Derived.Test.YtnkfdobcmfdhfaaDoorKP28
import Derived.Test.YtnkfdobcmfdhfaaDoorKP30
namespace Go.Proofs.YtnkfdobcmfdhfaaDoor.P
open Go.RowKit Go.Proofs.YtnkfdobcmfdhfaaDoorW.PrintWords Go.Proofs.YtnkfdobcmfdhfaaDoorW.PrintLast Sc
set_option linter.unusedVariables false
set_option linter.unusedSimpArgs false
set_option maxRecDepth 20000
theorem ref_meet (a b : S24) (F : Nat) (hF : 0 < F) : mummerref03_Meet.f F a.f0 a.f1 b.f0 b.f1 = some (meetS a b) := by
  unfold mummerref03_Meet.f meetS
  obtain ⟨F, rfl⟩ : ∃ m, F = m + 1 := ⟨F - 1, by omega⟩
  rw [ris_f, Option.bind_some]
  by_cases o1 : OkS a
  · rw [if_pos (decide_eq_true o1), ris_f, Option.bind_some]
    simp only [mummerref03_Meet.j0]
    by_cases o2 : OkS b
    · rw [if_neg (by simp [o2]), if_pos (c := OkS a ∧ OkS b) ⟨o1, o2⟩]
      split <;> rfl
    · rw [if_pos (by simp [o2]), if_neg (c := OkS a ∧ OkS b) (fun h => o2 h.2)]
  · rw [if_neg (by simpa using o1), if_neg (c := OkS a ∧ OkS b) (fun h => o1 h.1)]
    simp only [mummerref03_Meet.j0]
    rfl
theorem ref_within (a b : S24) : mummerref03_Within.f a.f0 a.f1 b.f0 b.f1 = some (withinS a b) := by
  unfold mummerref03_Within.f withinS
  rw [ris_f, Option.bind_some]
  by_cases o1 : OkS a
  · rw [if_pos (decide_eq_true o1), ris_f, Option.bind_some]
    by_cases o2 : OkS b
    · rw [if_pos (decide_eq_true o2), rwithin_f, if_pos (c := OkS a ∧ OkS b) ⟨o1, o2⟩]; rfl
    · rw [if_neg (by simpa using o2), if_neg (c := OkS a ∧ OkS b) (fun h => o2 h.2)]
  · rw [if_neg (by simpa using o1), if_neg (c := OkS a ∧ OkS b) (fun h => o1 h.1)]
theorem ref_before (a b : S24) : mummerref03_Before.f a.f0 a.f1 b.f0 b.f1 = some (beforeS a b) := by
  unfold mummerref03_Before.f beforeS
  rw [ris_f, Option.bind_some]
  by_cases o1 : OkS a
  · rw [if_pos (decide_eq_true o1), ris_f, Option.bind_some]
    by_cases o2 : OkS b
    · rw [if_pos (decide_eq_true o2), rbefore_f, if_pos (c := OkS a ∧ OkS b) ⟨o1, o2⟩]; rfl
    · rw [if_neg (by simpa using o2), if_neg (c := OkS a ∧ OkS b) (fun h => o2 h.2)]
  · rw [if_neg (by simpa using o1), if_neg (c := OkS a ∧ OkS b) (fun h => o1 h.1)]
def checkS (n : Int) (s : S24) : Int := if s.f0 < 0 ∨ s.f0 > s.f1 then 6 else (if s.f1 > n then 7 else 0)
theorem code_check (n : Int) (s : S24) (F : Nat) (hF : 0 < F) : spans_Check.f F n s.f0 s.f1 = some (checkS n s) := by
  obtain ⟨F, rfl⟩ : ∃ m, F = m + 1 := ⟨F - 1, by omega⟩
  unfold spans_Check.f checkS
  by_cases c : s.f0 < 0
  · rw [if_pos c, if_pos (c := s.f0 < 0 ∨ s.f0 > s.f1) (.inl c)]; rfl
  · rw [if_neg c]
    simp only [spans_Check.j0]
    by_cases c2 : s.f0 > s.f1
    · rw [if_pos (decide_eq_true c2), if_pos (c := s.f0 < 0 ∨ s.f0 > s.f1) (.inr c2)]
    · rw [if_neg (by simpa using c2), if_neg (c := s.f0 < 0 ∨ s.f0 > s.f1) (by omega)]
      split <;> rfl
theorem ref_check (n : Int) (s : S24) (F : Nat) (hF : 0 < F) : mummerref03_Check.f F n s.f0 s.f1 = some (checkS n s) := by
  obtain ⟨F, rfl⟩ : ∃ m, F = m + 1 := ⟨F - 1, by omega⟩
  unfold mummerref03_Check.f checkS
  by_cases c : s.f0 < 0
  · rw [if_pos c, if_pos (c := s.f0 < 0 ∨ s.f0 > s.f1) (.inl c)]; rfl
  · rw [if_neg c]
    simp only [mummerref03_Check.j0]
    by_cases c2 : s.f0 > s.f1
    · rw [if_pos (decide_eq_true c2), if_pos (c := s.f0 < 0 ∨ s.f0 > s.f1) (.inr c2)]
    · rw [if_neg (by simpa using c2), if_neg (c := s.f0 < 0 ∨ s.f0 > s.f1) (by omega)]
      by_cases c3 : n < 0
      · rw [if_pos c3, if_pos (by omega)]
      · rw [if_neg c3]
        split <;> rfl
theorem ref_cover_l1 (l : List S24) (hl : l.length ≤ 1000000) : ∀ (d i F : Nat) (a b : Int), i + d = l.length → d < F → mummerref03_Cover.l1 F l i a b = some (coverGo l d i a b) := by
  intro d
  induction d with
  | zero =>
    intro i F a b hi hF
    obtain ⟨F, rfl⟩ : ∃ m, F = m + 1 := ⟨F - 1, by omega⟩
    simp only [mummerref03_Cover.l1]
    rw [if_neg (by omega)]
    rfl
  | succ d ih =>
    intro i F a b hi hF
    obtain ⟨F, rfl⟩ : ∃ m, F = m + 1 := ⟨F - 1, by omega⟩
    simp only [mummerref03_Cover.l1, coverGo]
    rw [if_pos (by omega), if_pos (by omega), rd_sp, w64 (by omega) (by omega)]
    have := ih (i + 1) F (mn a (sp l i).f0) (mx b (sp l i).f1) (by omega) (by omega)
    rwa [show ((i + 1 : Nat) : Int) = (i : Int) + 1 by omega] at this
theorem ref_cover_l0 (l : List S24) (hl : l.length ≤ 1000000) : ∀ (d i F : Nat), i + d = l.length → l.length + d + 2 < F → mummerref03_Cover.l0 F l i = some (if okFrom l d i = true then (if l.length = 0 then (0, 0, 4) else coverGo l l.length 0 (sp l 0).f0 (sp l 0).f1) else (0, 0, 6)) := by
  intro d
  induction d with
  | zero =>
    intro i F hi hF
    obtain ⟨F, rfl⟩ : ∃ m, F = m + 1 := ⟨F - 1, by omega⟩
    simp only [mummerref03_Cover.l0, okFrom]
    rw [if_neg (by omega), if_pos trivial]
    by_cases c : l.length = 0
    · rw [if_pos (by omega), if_pos c]
    · rw [if_neg (by omega), if_neg c, if_pos (by omega)]
      exact ref_cover_l1 l hl l.length 0 F _ _ (by omega) (by omega)
  | succ d ih =>
    intro i F hi hF
    obtain ⟨F, rfl⟩ : ∃ m, F = m + 1 := ⟨F - 1, by omega⟩
    simp only [mummerref03_Cover.l0]
    rw [if_pos (by omega), if_pos (by omega), rd_sp, ris_f, Option.bind_some, w64 (by omega) (by omega)]
    by_cases c : OkS (sp l i)
    · have e1 : okFrom l (d + 1) i = okFrom l d (i + 1) := by simp [okFrom, c]
      rw [if_pos (decide_eq_true c), e1]
      have := ih (i + 1) F (by omega) (by omega)
      rwa [show ((i + 1 : Nat) : Int) = (i : Int) + 1 by omega] at this
    · have e1 : okFrom l (d + 1) i = false := by simp [okFrom, c]
      rw [if_neg (by simpa using c), e1, if_neg (by decide)]
theorem ref_cover (l : List S24) (hl : l.length ≤ 1000000) (F : Nat) (hF : l.length + l.length + 2 < F) : mummerref03_Cover.f F l = some (coverS l) := by
  unfold mummerref03_Cover.f coverS
  exact ref_cover_l0 l hl l.length 0 F (by omega) (by omega)
theorem pairs_l0 (l : List S24) (n : Int) (hl : l.length ≤ 40) : ∀ (d i F : Nat), i + d = l.length → d + 100 < F → mummerlaw03_SpansPairs.l0 F l n i = some true := by
  intro d
  induction d with
  | zero =>
    intro i F hi hF
    obtain ⟨F, rfl⟩ : ∃ m, F = m + 1 := ⟨F - 1, by omega⟩
    simp only [mummerlaw03_SpansPairs.l0]
    rw [if_neg (by omega), awake_f F (by omega)]
    rfl
  | succ d ih =>
    intro i F hi hF
    obtain ⟨F, rfl⟩ : ∃ m, F = m + 1 := ⟨F - 1, by omega⟩
    simp only [mummerlaw03_SpansPairs.l0]
    have hj : wrap64 (wrap64 ((l.length : Int) - 1) - (i : Int)) = ((l.length - 1 - i : Nat) : Int) := by
      rw [w64 (n := (l.length : Int) - 1) (by omega) (by omega), w64 (by omega) (by omega)]; omega
    rw [hj, if_pos (by omega), if_pos (by omega), if_pos (by omega), if_pos (by omega), rd_sp, rd_sp, code_meet _ _ F (by omega), Option.bind_some, ref_meet _ _ F (by omega), Option.bind_some, code_within _ _ F (by omega), Option.bind_some, ref_within, Option.bind_some, code_before _ _ F (by omega), Option.bind_some, ref_before, Option.bind_some, code_check _ _ F (by omega), Option.bind_some, ref_check _ _ F (by omega), Option.bind_some,
      if_pos rfl, if_neg (by simp), if_neg (by simp), if_pos rfl, if_neg (by simp), if_pos rfl, if_neg (by simp), if_pos rfl, w64 (by omega) (by omega)]
    have := ih (i + 1) F (by omega) (by omega)
    rwa [show ((i + 1 : Nat) : Int) = (i : Int) + 1 by omega] at this
theorem law_pairs (l : List S24) (n : Int) : ∃ k, mummerlaw03_SpansPairs.f k l n = some true := by
  refine ⟨1000, ?_⟩
  unfold mummerlaw03_SpansPairs.f
  by_cases c : (l.length : Int) > 40
  · rw [if_pos c, awake_f _ (by omega)]; rfl
  · rw [if_neg c, code_cover l (by omega) _ (by omega), Option.bind_some, ref_cover l (by omega) _ (by omega), Option.bind_some, if_neg (by simp), if_pos rfl]
    exact pairs_l0 l n (by omega) l.length 0 _ (by omega) (by omega)
end Go.Proofs.YtnkfdobcmfdhfaaDoor.P
