/- FuelLeast: with Least all steps (at most 100) are done, with one less they are not; without a least nothing is enough: the law answers true for every list of steps. -/
import Derived.Test.YtpophcogdekgkaaGoalFuelLeast
import Derived.Test.YtpophcogdekgkaaLemA
namespace Go.Proofs.Ytpophcogdekgkaa.Pure
open Go.RowKit Go.Proofs.Ytpophcogdekgkaa.P Go.Proofs.Ytpophcogdekgkaa.L Go.Proofs.YtpophcogdekgkaaW.PrintWords Go.Proofs.YtpophcogdekgkaaW.PrintLast

theorem FuelLeast : mummerlaw16_FuelLeast.Goal := by
  intro l1 h1
  refine ⟨1004, ?_⟩
  have aw : ∀ k, 1000 ≤ k → mummerlaw16_awake.f k = some true := fun k hk => awake_ok k (by omega)
  unfold mummerlaw16_FuelLeast.f
  by_cases c1 : (l1.length : Int) > 100
  · rw [if_pos c1, aw _ (by omega)]; rfl
  rw [if_neg c1, Least_prog l1 h1.1 1004 (by omega), New_prog]
  simp only [Option.bind_some, if_pos (show (0 : Int) ≤ 1000000000 ∧ (1000000000 : Int) ≤ 1000000000 by omega)]
  rw [Run_prog _ _ _ h1.1 1004 (by omega), Rn_new (by omega) (by omega)]
  simp only [Option.bind_some, if_true]
  have hd := run_done l1 0 [1000000000] 0
  have hu := run_used l1 0 [1000000000] 0
  have hm := run_most_used l1 0 [1000000000] 0 (valid_new (by omega) (by omega))
  by_cases e : (run 0 [1000000000] l1 0).2.2.2 = 0
  · have hL : Lst l1 = ((run 0 [1000000000] l1 0).1, (run 0 [1000000000] l1 0).2.2.1, 0) := by unfold Lst; rw [if_pos e]
    rw [hL]
    simp only
    rw [if_pos e]
    generalize hU : (run 0 [1000000000] l1 0).1 = U at *
    simp only [mummerlaw16_FuelLeast.j0]
    rw [if_neg (by simp), if_pos (by trivial), New_prog, if_pos (by omega)]
    simp only [Option.bind_some, if_true]
    rw [Run_prog _ _ _ h1.1 1003 (by omega), Rn_new (by omega) (by omega)]
    simp only [Option.bind_some]
    rcases new_less (n := U) (m := 1000000000) (by omega) (by omega) (by omega) l1 with ⟨e1, e2, _⟩ | ⟨_, _, _, e4⟩
    · rw [hU] at e1
      rw [e1, if_pos (by rw [e2]; exact e), if_pos (by rw [e2, hd.2.2 e]; simp), decide_eq_false (by omega)]
      simp only [mummerlaw16_FuelLeast.j1]
      rw [if_neg (by simp)]
      by_cases z : U = 0
      · rw [if_pos z, aw _ (by omega)]; rfl
      · rw [if_neg z, w64 (by omega) (by omega), New_prog, if_pos (by omega)]
        simp only [Option.bind_some, if_true]
        rw [Run_prog _ _ _ h1.1 1002 (by omega), Rn_new (by omega) (by omega)]
        simp only [Option.bind_some]
        rcases new_less (n := U - 1) (m := 1000000000) (by omega) (by omega) (by omega) l1 with ⟨_, _, e3⟩ | ⟨e3, _, _, _⟩
        · omega
        · rw [if_pos e3, aw _ (by omega)]; rfl
    · omega
  · have hL : Lst l1 = (0, (run 0 [1000000000] l1 0).2.2.1, (run 0 [1000000000] l1 0).2.2.2) := by unfold Lst; rw [if_neg e]
    rw [hL]
    simp only [if_true]
    simp only [mummerlaw16_FuelLeast.j0]
    rw [if_neg (by simp), if_neg e, aw _ (by omega)]; rfl

end Go.Proofs.Ytpophcogdekgkaa.Pure
