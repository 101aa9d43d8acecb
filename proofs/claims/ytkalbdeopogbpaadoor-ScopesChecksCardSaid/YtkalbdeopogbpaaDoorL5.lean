/- Plain lemmas over the printed functions, for law_checks, law_meets. -/
import Derived.Test.YtkalbdeopogbpaaDoorPx9
namespace Go.Proofs.YtkalbdeopogbpaaDoor.P
open Go.RowKit Go.Proofs.YtkalbdeopogbpaaDoorW.PrintWords Go.Proofs.YtkalbdeopogbpaaDoorW.PrintLast Sc
set_option linter.unusedVariables false
set_option linter.unusedSimpArgs false
set_option maxRecDepth 20000
theorem ids_l0 (s : ByteArray) (he : s.size % 2 = 0) (hb : s.size ≤ 1099511627776) : ∀ (d j k : Nat), j + d = s.size / 2 → d < k →
    mummerref09_ids.l0 k s (pairs s j) ((2 * j : Nat) : Int) = some (pairs s (s.size / 2)) := by
  intro d
  induction d with
  | zero =>
    intro j k hj hk
    obtain ⟨k, rfl⟩ : ∃ m, k = m + 1 := ⟨k - 1, by omega⟩
    simp only [mummerref09_ids.l0]
    rw [if_neg (by omega), show j = s.size / 2 by omega]
  | succ d ih =>
    intro j k hj hk
    obtain ⟨k, rfl⟩ : ∃ m, k = m + 1 := ⟨k - 1, by omega⟩
    have e1 : wrap64 (((2 * j : Nat) : Int) + 1) = ((2 * j + 1 : Nat) : Int) := by rw [w64 (by omega) (by omega)]; omega
    have e2 : wrap64 (((2 * j : Nat) : Int) + 2) = ((2 * (j + 1) : Nat) : Int) := by rw [w64 (by omega) (by omega)]; omega
    simp only [mummerref09_ids.l0, e1, e2]
    have r1 := bt_range s ((2 * j : Nat) : Int); have r2 := bt_range s ((2 * j + 1 : Nat) : Int)
    rw [if_pos (by omega), if_pos (by omega), if_pos (by omega), if_pos (by omega), if_pos (by rw [pairs_length]; omega)]
    rw [w64 (n := bt s ((2 * j : Nat) : Int)) (by omega) (by omega), w64 (n := bt s ((2 * j + 1 : Nat) : Int)) (by omega) (by omega), w64 (n := 256 * bt s ((2 * j : Nat) : Int)) (by omega) (by omega), w64 (by omega) (by omega)]
    have := ih (j + 1) k (by omega) (by omega)
    rw [pairs_succ] at this
    have e3 : 256 * bt s ((2 * j : Nat) : Int) + bt s ((2 * j + 1 : Nat) : Int) = pairAt s j := by unfold pairAt; omega
    rw [e3]; exact this
theorem ids_f (s : ByteArray) (he : s.size % 2 = 0) (hb : s.size ≤ 1099511627776) (k : Nat) (hk : s.size / 2 < k) : mummerref09_ids.f k s = some (pairs s (s.size / 2)) :=
  ids_l0 s he hb (s.size / 2) 0 k (by omega) hk
end Go.Proofs.YtkalbdeopogbpaaDoor.P
