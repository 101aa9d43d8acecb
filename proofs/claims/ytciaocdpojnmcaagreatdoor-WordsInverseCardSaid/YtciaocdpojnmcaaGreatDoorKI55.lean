import Derived.Test.YtciaocdpojnmcaaGreatDoorKI52
import Derived.Test.YtciaocdpojnmcaaGreatDoorKI34
import Derived.Test.YtciaocdpojnmcaaGreatDoorKI35
namespace Go.Proofs.YtciaocdpojnmcaaGreatDoor.P
open Go.RowKit Go.Proofs.YtciaocdpojnmcaaGreatDoorW.PrintWords Go.Proofs.YtciaocdpojnmcaaGreatDoorW.PrintLast
set_option linter.unusedVariables false
set_option linter.unusedSimpArgs false
set_option maxRecDepth 20000
theorem lists_l (l : List Int) (hl : l.length ≤ 4000000) : ∀ (g p k : Nat), p + g = l.length → g < k → mummerlaw01_lists.l0 k l l (p : Int) = some true := by
  intro g
  induction g with
  | zero =>
    intro p k hp hk
    obtain ⟨k, rfl⟩ : ∃ k', k = k' + 1 := ⟨k - 1, by omega⟩
    rw [mummerlaw01_lists.l0, if_neg (by omega)]
  | succ g ih =>
    intro p k hp hk
    obtain ⟨k, rfl⟩ : ∃ k', k = k' + 1 := ⟨k - 1, by omega⟩
    rw [mummerlaw01_lists.l0, if_pos (by omega), if_pos (by omega), if_pos (by omega), if_pos rfl, w64 (by omega) (by omega), show (p : Int) + 1 = ((p + 1 : Nat) : Int) by omega]
    exact ih (p + 1) k (by omega) (by omega)
theorem lists_f (l : List Int) (hl : l.length ≤ 4000000) (k : Nat) (hk : l.length < k) : mummerlaw01_lists.f k l l = some true := by
  unfold mummerlaw01_lists.f
  rw [if_pos rfl]
  exact lists_l l hl l.length 0 k (by omega) hk
end Go.Proofs.YtciaocdpojnmcaaGreatDoor.P
