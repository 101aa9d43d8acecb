/- Plain lemmas over the printed functions, for law_changes, law_checks, law_meets. -/
import Derived.Test.YtkalbdeopogbpaaDoorPx8
namespace Go.Proofs.YtkalbdeopogbpaaDoor.P
open Go.RowKit Go.Proofs.YtkalbdeopogbpaaDoorW.PrintWords Go.Proofs.YtkalbdeopogbpaaDoorW.PrintLast Sc
set_option linter.unusedVariables false
set_option linter.unusedSimpArgs false
set_option maxRecDepth 20000
set_option linter.unusedVariables false
set_option linter.unusedSimpArgs false
set_option maxRecDepth 20000
theorem check_l0 (s : ByteArray) (hs : s.size ≤ 4611686018427387904) (he : s.size % 2 = 0) : ∀ (d j k : Nat), 1 ≤ j → j + d = s.size / 2 → d < k →
    mummerref09_Check.l0 k s ((2 * j : Nat) : Int) = some (if asc (pairAt s (j - 1)) (tailFrom s j) = true then chkEnd s else 6) := by
  intro d
  induction d with
  | zero =>
    intro j k h1 hj hk
    obtain ⟨k, rfl⟩ : ∃ m, k = m + 1 := ⟨k - 1, by omega⟩
    have : j = s.size / 2 := by omega
    subst this
    rw [tailFrom_end]
    simp only [mummerref09_Check.l0]
    have ha : asc (pairAt s (s.size / 2 - 1)) [] = true := rfl
    rw [if_neg (by omega), ha]
    simp only [if_true, chkEnd]
    by_cases hx : (s.size : Int) > 20000
    · rw [if_pos hx, if_pos hx]
    · rw [if_neg hx, if_neg hx]
  | succ d ih =>
    intro j k h1 hj hk
    obtain ⟨k, rfl⟩ : ∃ m, k = m + 1 := ⟨k - 1, by omega⟩
    have e1 : wrap64 (((2 * j : Nat) : Int) - 2) = ((2 * (j - 1) : Nat) : Int) := by rw [w64 (by omega) (by omega)]; omega
    have e2 : wrap64 (((2 * j : Nat) : Int) + 2) = ((2 * (j + 1) : Nat) : Int) := by rw [w64 (by omega) (by omega)]; omega
    simp only [mummerref09_Check.l0]
    rw [if_pos (by omega), e1, if_pos (by omega), if_pos (by omega), if_pos (by omega), if_pos (by omega), e2, if_pos (by omega), if_pos (by omega)]
    simp only [Int.toNat_natCast]
    have hl := less_pairs s (j - 1) j (by omega) (by omega)
    rw [show 2 * (j - 1) + 2 = 2 * j by omega] at hl
    rw [show 2 * (j + 1) = 2 * j + 2 by omega]
    rw [tailFrom_step s j (by omega)]
    by_cases hc : pairAt s (j - 1) < pairAt s j
    · rw [if_pos (hl.2 hc)]
      have := ih (j + 1) k (by omega) (by omega) (by omega)
      rw [show 2 * (j + 1) = 2 * j + 2 by omega] at this
      rw [this]
      simp [asc, hc]
    · rw [if_neg (fun h => hc (hl.1 h))]
      simp [asc, hc]
theorem check_f (s : ByteArray) (hs : s.size ≤ 4611686018427387904) (k : Nat) (hk : s.size / 2 < k) : mummerref09_Check.f k s = some (chk s) := by
  unfold mummerref09_Check.f chk
  by_cases he : (s.size : Int) % 2 = 0
  · rw [if_pos he, if_pos he, pairs_tail]
    by_cases h0 : s.size = 0
    · obtain ⟨k, rfl⟩ : ∃ m, k = m + 1 := ⟨k - 1, by omega⟩
      simp only [mummerref09_Check.l0]
      rw [if_neg (by omega)]
      simp [tailFrom, h0, asc]
    · have := check_l0 s hs (by omega) (s.size / 2 - 1) 1 k (by omega) (by omega) (by omega)
      simp only [Nat.mul_one, Nat.sub_self] at this
      rw [show (2 : Int) = ((2 : Nat) : Int) from rfl, this, tailFrom_step s 0 (by omega)]
      have hp := pairAt_nonneg s 0
      have : asc (-1) (pairAt s 0 :: tailFrom s (0 + 1)) = asc (pairAt s 0) (tailFrom s 1) := by simp [asc]; omega
      rw [this]
      rfl
  · rw [if_neg he, if_neg he]
end Go.Proofs.YtkalbdeopogbpaaDoor.P
