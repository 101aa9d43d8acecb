import Derived.Test.YtciaocdpojnmcaaDoorKB39
import Derived.Test.YtciaocdpojnmcaaDoorKB33
namespace Go.Proofs.YtciaocdpojnmcaaDoor.P
open Go.RowKit Go.Proofs.YtciaocdpojnmcaaDoorW.PrintWords Go.Proofs.YtciaocdpojnmcaaDoorW.PrintLast
set_option linter.unusedVariables false
set_option linter.unusedSimpArgs false
set_option maxRecDepth 20000
/-- Whether a text is bare, from p on. -/
def bareL (s : ByteArray) : Nat → Nat → Bool
  | 0, _ => decide (s.size ≠ 0)
  | g + 1, p => if isP (bt s p) = true then (if bt s p = 32 then false else bareL s g (p + 1)) else false
theorem wBare_l (s : ByteArray) (hs : s.size ≤ 1000000) : ∀ (g p k : Nat), p + g = s.size → g < k → words_isBare.l0 k s (s.size : Int) (p : Int) = some (bareL s g p) := by
  intro g
  induction g with
  | zero =>
    intro p k hp hk
    obtain ⟨k, rfl⟩ : ∃ k', k = k' + 1 := ⟨k - 1, by omega⟩
    rw [words_isBare.l0, if_neg (by omega), bareL]
    congr 1
    by_cases h : s.size = 0
    · rw [(toList_nil s).2 h]; simp [h]
    · have h2 : s.toList ≠ [] := fun e => h ((toList_nil s).1 e)
      simp [h, h2]
  | succ g ih =>
    intro p k hp hk
    obtain ⟨k, rfl⟩ : ∃ k', k = k' + 1 := ⟨k - 1, by omega⟩
    have w1 : wrap64 ((p : Int) + 1) = ((p + 1 : Nat) : Int) := by rw [w64 (by omega) (by omega)]; omega
    rw [words_isBare.l0, if_pos (by omega), if_pos (by omega), if_pos (by omega), isPlain_f, bareL]
    simp only [Option.bind_some]
    rw [w1, ih (p + 1) k (by omega) (by omega)]
    split
    · split <;> rfl
    · rfl
def bareS (s : ByteArray) : Bool := bareL s s.size 0
theorem isBare_f (s : ByteArray) (hs : s.size ≤ 1000000) (k : Nat) (hk : s.size < k) : words_isBare.f k s = some (bareS s) := wBare_l s hs s.size 0 k (by omega) hk
end Go.Proofs.YtciaocdpojnmcaaDoor.P
