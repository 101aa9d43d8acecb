/- That two accounts that are the same are told so. -/
import Derived.Test.YtpophcogdekgkaaLemA
import Derived.Test.YtpophcogdekgkaaPx22
namespace Go.Proofs.Ytpophcogdekgkaa.L
open Go.RowKit Go.Proofs.Ytpophcogdekgkaa.P Go.Proofs.YtpophcogdekgkaaW.PrintWords Go.Proofs.YtpophcogdekgkaaW.PrintLast Go.Proofs.YtpophcogdekgkaaW.PrintMore

theorem same_loop (l : List Int) (u u' : Int) (hl : l.length ≤ 9223372036854775807) : ∀ (d k i : Nat), i + d = l.length → d < k → mummerref16_Same.l0 k (i : Int) u l u' l = some true := by
  intro d
  induction d with
  | zero =>
    intro k i he hk
    obtain ⟨k, rfl⟩ : ∃ m, k = m + 1 := ⟨k - 1, by omega⟩
    simp only [mummerref16_Same.l0]
    rw [if_neg (by omega)]
  | succ d ih =>
    intro k i he hk
    obtain ⟨k, rfl⟩ : ∃ m, k = m + 1 := ⟨k - 1, by omega⟩
    simp only [mummerref16_Same.l0]
    rw [if_pos (by omega), if_pos (by omega), if_pos (by omega), if_pos trivial, w64 (by omega) (by omega)]
    have := ih k (i + 1) (by omega) (by omega)
    rw [show ((i + 1 : Nat) : Int) = (i : Int) + 1 from by omega] at this
    exact this
theorem Same_self (u : Int) (l : List Int) (hl : l.length ≤ 9223372036854775807) (k : Nat) (hk : l.length + 1 < k) : mummerref16_Same.f k u l u l = some true := by
  unfold mummerref16_Same.f
  obtain ⟨k, rfl⟩ : ∃ m, k = m + 1 := ⟨k - 1, by omega⟩
  rw [if_pos rfl]
  simp only [mummerref16_Same.j0]
  rw [if_neg (by simp)]
  exact same_loop l u u hl l.length k 0 (by omega) (by omega)
end Go.Proofs.Ytpophcogdekgkaa.L
