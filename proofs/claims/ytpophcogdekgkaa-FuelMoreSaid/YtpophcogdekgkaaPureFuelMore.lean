/- FuelMore: two runs of the same steps (at most 100) with n and more fuel: what is done with some fuel is done with more, and as much is used; another error than ErrFuel stays: the law answers true for every input. -/
import Derived.Test.YtpophcogdekgkaaGoalFuelMore
import Derived.Test.YtpophcogdekgkaaLemA
namespace Go.Proofs.Ytpophcogdekgkaa.Pure
open Go.RowKit Go.Proofs.Ytpophcogdekgkaa.P Go.Proofs.Ytpophcogdekgkaa.L Go.Proofs.YtpophcogdekgkaaW.PrintWords Go.Proofs.YtpophcogdekgkaaW.PrintLast

theorem FuelMore : mummerlaw16_FuelMore.Goal := by
  intro l1 n more h1 hn hm
  refine ⟨1004, ?_⟩
  have aw : ∀ k, 1000 ≤ k → mummerlaw16_awake.f k = some true := fun k hk => awake_ok k (by omega)
  have out : ∀ a b c d, mummerlaw16_FuelMore.j0 1004 l1 n more true a b c d = some true := by
    intro a b c d
    simp only [mummerlaw16_FuelMore.j0]
    rw [if_pos trivial, aw _ (by omega)]; rfl
  have main : ∀ a b : Int, 0 ≤ a → a ≤ b → b ≤ 1000000000 → (l1.length : Int) ≤ 100 → mummerlaw16_FuelMore.j1 1003 l1 0 [a] 0 [b] = some true := by
    intro a b h0 hab hb hl
    simp only [mummerlaw16_FuelMore.j1]
    rw [Run_prog 0 [a] l1 h1.1 1002 (by omega), Run_prog 0 [b] l1 h1.1 1002 (by omega), Rn_new h0 (by omega), Rn_new (by omega) hb]
    simp only [Option.bind_some]
    rcases new_less h0 hab hb l1 with ⟨e1, e2, _⟩ | ⟨e1, e2, e3, _⟩
    · have e3 : (run 0 [a] l1 0).2.2.1 = (run 0 [b] l1 0).2.2.1 := by rw [e2]
      have e4 : (run 0 [a] l1 0).2.2.2 = (run 0 [b] l1 0).2.2.2 := by rw [e2]
      rw [if_neg (by omega), decide_eq_false (by omega), e1, e3, e4]
      simp only [mummerlaw16_FuelMore.j2]
      rw [if_neg (by simp)]
      by_cases z : (run 0 [b] l1 0).2.2.2 = 0
      · rw [if_pos z, if_pos z]
        simp only [if_true, mummerlaw16_FuelMore.j3]
        rw [if_neg (by simp), if_neg (by omega)]
        rw [aw _ (by omega)]; rfl
      · rw [if_neg z]
        simp only [mummerlaw16_FuelMore.j3]
        rw [if_neg (by simp)]
        simp only [if_true, aw _ (show 1000 ≤ 1000 by omega), Option.bind_some, ite_self]
    · rw [if_neg (by omega), decide_eq_false (by omega), e1]
      simp only [mummerlaw16_FuelMore.j2]
      rw [if_neg (by simp), if_neg (by decide)]
      simp only [mummerlaw16_FuelMore.j3]
      rw [if_neg (by simp), if_pos (by trivial), aw _ (by omega)]; rfl
  unfold mummerlaw16_FuelMore.f
  rw [New_prog, New_prog]
  simp only [Option.bind_some]
  by_cases c1 : (l1.length : Int) > 100
  · rw [if_pos c1]; exact out _ _ _ _
  rw [if_neg c1]
  by_cases c2 : 0 ≤ n ∧ n ≤ 1000000000
  · rw [if_pos c2]
    simp only [if_true]
    by_cases c3 : 0 ≤ more ∧ more ≤ 1000000000
    · rw [if_pos c3]
      simp only [mummerlaw16_FuelMore.j0]
      rw [if_neg (by simp)]
      by_cases c4 : more < n
      · rw [if_pos c4]; exact main more n (by omega) (by omega) (by omega) (by omega)
      · rw [if_neg c4]; exact main n more (by omega) (by omega) (by omega) (by omega)
    · rw [if_neg c3]; exact out _ _ _ _
  · rw [if_neg c2]
    simp only
    rw [if_neg (by decide)]; exact out _ _ _ _

end Go.Proofs.Ytpophcogdekgkaa.Pure
