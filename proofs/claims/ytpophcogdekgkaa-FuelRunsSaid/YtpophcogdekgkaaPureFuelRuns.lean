/- FuelRuns: for every account and every list of steps, Run and Least return what the reference returns, or the guard (300 limits, 300 steps) answers by the examples alone: the law answers true. -/
import Derived.Test.YtpophcogdekgkaaGoalFuelRuns
import Derived.Test.YtpophcogdekgkaaLemR
namespace Go.Proofs.Ytpophcogdekgkaa.Pure
open Go.RowKit Go.Proofs.Ytpophcogdekgkaa.P Go.Proofs.Ytpophcogdekgkaa.L Go.Proofs.YtpophcogdekgkaaW.PrintWords Go.Proofs.YtpophcogdekgkaaW.PrintLast

theorem FuelRuns : mummerlaw16_FuelRuns.Goal := by
  intro u l l1 hu hl h1
  refine ⟨1001, ?_⟩
  unfold mummerlaw16_FuelRuns.f
  have aw : mummerlaw16_awake.f 1000 = some true := awake_ok 1000 (by omega)
  have out : mummerlaw16_FuelRuns.j0 1001 l1 true u l = some true := by
    simp only [mummerlaw16_FuelRuns.j0]
    rw [if_pos trivial, aw]; rfl
  by_cases c1 : (l.length : Int) > 300
  · rw [if_pos c1]; exact out
  rw [if_neg c1]
  by_cases c2 : (l1.length : Int) > 300
  · rw [decide_eq_true c2]; exact out
  rw [decide_eq_false c2]
  simp only [mummerlaw16_FuelRuns.j0]
  rw [if_neg (by simp), Run_prog u l l1 h1.1 1000 (by omega), Run_ref u l l1 h1.1 1000 (by omega), Least_prog l1 h1.1 1000 (by omega), Least_ref l1 h1.1 1000 (by omega)]
  simp only [Option.bind_some]
  have hn : (Rn u l l1).2.1.length ≤ 300 := by
    unfold Rn
    split
    · rename_i h
      exact Nat.le_trans (run_len l1 u l 0 ((valid_iff u l).1 h)) (by omega)
    · simp only; omega
  rw [Same_self _ _ (by omega) 1000 (by omega)]
  simp only [Option.bind_some, if_true, aw]

end Go.Proofs.Ytpophcogdekgkaa.Pure
