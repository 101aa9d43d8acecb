import Derived.Test.YtnkfdobcmfdhfaaDoorKX33
import Derived.Test.YtnkfdobcmfdhfaaDoorKX39
namespace Go.Proofs.YtnkfdobcmfdhfaaDoor.P
open Go.RowKit Go.Proofs.YtnkfdobcmfdhfaaDoorW.PrintWords Go.Proofs.YtnkfdobcmfdhfaaDoorW.PrintLast Sc
set_option linter.unusedVariables false
set_option linter.unusedSimpArgs false
set_option maxRecDepth 20000
def shiftS (s c : S24) (n : Int) : Int × Int × Int :=
  if OkS s ∧ OkS c then (if n < 0 ∨ n > 2305843009213693952 then (0, 0, 7) else (if Wi c s ∧ ¬ Be c s ∧ ¬ Be s c then (s.f0, wrap64 (s.f1 + wrap64 (n - wrap64 (c.f1 - c.f0))), 0) else (if Wi s c then (0, 0, 4) else (if Be s c then (s.f0, s.f1, 0) else (if Be c s then (wrap64 (s.f0 + wrap64 (n - wrap64 (c.f1 - c.f0))), wrap64 (s.f1 + wrap64 (n - wrap64 (c.f1 - c.f0))), 0) else (0, 0, 4)))))) else (0, 0, 6)
theorem shift_j1 (s c : S24) (M : Int) (b : Bool) (F : Nat) (hF : 0 < F) : spans_Shift.j1 F M b s.f0 s.f1 c.f0 c.f1 = some (if b = true then (s.f0, wrap64 (s.f1 + M), 0) else (if Wi s c then (0, 0, 4) else (if Be s c then (s.f0, s.f1, 0) else (if Be c s then (wrap64 (s.f0 + M), wrap64 (s.f1 + M), 0) else (0, 0, 4))))) := by
  obtain ⟨F, rfl⟩ : ∃ m, F = m + 1 := ⟨F - 1, by omega⟩
  simp only [spans_Shift.j1]
  cases b with
  | true => rfl
  | false =>
    rw [if_neg (by decide), if_neg (by decide), within_f, Option.bind_some]
    by_cases c1 : Wi s c
    · rw [if_pos (decide_eq_true c1), if_pos c1]
    · rw [if_neg (by simpa using c1), if_neg c1, before_f, Option.bind_some]
      by_cases c2 : Be s c
      · rw [if_pos (decide_eq_true c2), if_pos c2]
      · rw [if_neg (by simpa using c2), if_neg c2, before_f, Option.bind_some]
        by_cases c3 : Be c s
        · rw [if_pos (decide_eq_true c3), if_pos c3]
        · rw [if_neg (by simpa using c3), if_neg c3]
theorem shift_j0 (s c : S24) (M : Int) (F : Nat) (hF : 1 < F) : spans_Shift.j0 F M false s.f0 s.f1 c.f0 c.f1 = some (if Wi c s ∧ ¬ Be c s ∧ ¬ Be s c then (s.f0, wrap64 (s.f1 + M), 0) else (if Wi s c then (0, 0, 4) else (if Be s c then (s.f0, s.f1, 0) else (if Be c s then (wrap64 (s.f0 + M), wrap64 (s.f1 + M), 0) else (0, 0, 4))))) := by
  obtain ⟨F, rfl⟩ : ∃ m, F = m + 1 := ⟨F - 1, by omega⟩
  simp only [spans_Shift.j0]
  rw [if_neg (by decide), within_f, Option.bind_some]
  by_cases c1 : Wi c s
  · rw [if_pos (decide_eq_true c1), before_f, Option.bind_some]
    by_cases c2 : Be c s
    · rw [if_pos (decide_eq_true c2), shift_j1 _ _ _ _ _ (by omega), if_neg (by decide), if_neg (c := Wi c s ∧ ¬ Be c s ∧ ¬ Be s c) (fun h => h.2.1 c2)]
    · rw [if_neg (by simpa using c2), before_f, Option.bind_some, shift_j1 _ _ _ _ _ (by omega)]
      by_cases c3 : Be s c
      · rw [if_neg (by simp [c3]), if_neg (c := Wi c s ∧ ¬ Be c s ∧ ¬ Be s c) (fun h => h.2.2 c3)]
      · rw [if_pos (by simp [c3]), if_pos (c := Wi c s ∧ ¬ Be c s ∧ ¬ Be s c) ⟨c1, c2, c3⟩]
  · rw [if_neg (by simpa using c1), shift_j1 _ _ _ _ _ (by omega), if_neg (by decide), if_neg (c := Wi c s ∧ ¬ Be c s ∧ ¬ Be s c) (fun h => c1 h.1)]
theorem code_shift (s c : S24) (n : Int) (F : Nat) (hF : 10 < F) : spans_Shift.f F s.f0 s.f1 c.f0 c.f1 n = some (shiftS s c n) := by
  unfold spans_Shift.f shiftS
  rw [spans_two ⟨s.f0, s.f1⟩ ⟨c.f0, c.f1⟩ F (by omega), Option.bind_some]
  by_cases o1 : OkS s
  · by_cases o2 : OkS c
    · rw [if_pos (by rw [decide_eq_true (show OkS ⟨s.f0, s.f1⟩ from o1), decide_eq_true (show OkS ⟨c.f0, c.f1⟩ from o2)]; rfl), if_pos (c := OkS s ∧ OkS c) ⟨o1, o2⟩]
      obtain ⟨F, rfl⟩ : ∃ m, F = m + 1 := ⟨F - 1, by omega⟩
      by_cases c1 : n < 0
      · rw [if_pos c1, if_pos (c := n < 0 ∨ n > 2305843009213693952) (.inl c1)]; simp only [spans_Shift.j0]; rfl
      · rw [if_neg c1]
        by_cases c2 : n > 2305843009213693952
        · rw [decide_eq_true c2, if_pos (c := n < 0 ∨ n > 2305843009213693952) (.inr c2)]; simp only [spans_Shift.j0]; rfl
        · rw [decide_eq_false c2, if_neg (c := n < 0 ∨ n > 2305843009213693952) (by omega), shift_j0 _ _ _ _ (by omega)]
    · rw [if_neg (by rw [decide_eq_false (show ¬ OkS ⟨c.f0, c.f1⟩ from o2)]; simp), if_neg (c := OkS s ∧ OkS c) (fun h => o2 h.2)]
  · rw [if_neg (by rw [decide_eq_false (show ¬ OkS ⟨s.f0, s.f1⟩ from o1)]; simp), if_neg (c := OkS s ∧ OkS c) (fun h => o1 h.1)]
end Go.Proofs.YtnkfdobcmfdhfaaDoor.P
