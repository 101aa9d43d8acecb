/- FuelSums: two FuSpend are done exactly if one of their sum is, with the same account (at most 300 limits): the law answers true for every input. -/
import Derived.Test.YtpophcogdekgkaaGoalFuelSums
import Derived.Test.YtpophcogdekgkaaLemS
namespace Go.Proofs.Ytpophcogdekgkaa.Pure
open Go.RowKit Go.Proofs.Ytpophcogdekgkaa.P Go.Proofs.Ytpophcogdekgkaa.L Go.Proofs.YtpophcogdekgkaaW.PrintWords Go.Proofs.YtpophcogdekgkaaW.PrintLast

theorem FuelSums : mummerlaw16_FuelSums.Goal := by
  intro u l a b hu hl ha hb
  refine ⟨1003, ?_⟩
  have aw : ∀ k, 1000 ≤ k → mummerlaw16_awake.f k = some true := fun k hk => awake_ok k (by omega)
  have out : mummerlaw16_FuelSums.j0 1003 a b true u l = some true := by
    simp only [mummerlaw16_FuelSums.j0]
    rw [if_pos trivial, aw _ (by omega)]; rfl
  unfold mummerlaw16_FuelSums.f
  by_cases c1 : (l.length : Int) > 300
  · rw [if_pos c1]; exact out
  rw [if_neg c1, Check_prog u l 1003 (by omega)]
  simp only [Option.bind_some]
  by_cases c2 : chk u l = 0
  · rw [if_pos c2]
    have hv := (valid_iff u l).1 c2
    have h4 := hv.lst
    have h0 := hv.u0
    by_cases c3 : a < 0
    · rw [if_pos c3]; exact out
    rw [if_neg c3]
    by_cases c4 : b < 0
    · rw [if_pos c4]; exact out
    rw [if_neg c4]
    by_cases c5 : a > 1000000000
    · rw [if_pos c5]; exact out
    rw [if_neg c5]
    by_cases c6 : b > 1000000000
    · rw [if_pos c6]; exact out
    rw [if_neg c6, w64 (x := a + b) (by omega) (by omega)]
    by_cases c7 : a + b > 1000000000
    · rw [decide_eq_true c7]; exact out
    rw [decide_eq_false c7]
    simp only [mummerlaw16_FuelSums.j0]
    rw [if_neg (by simp), w64 (x := a + b) (by omega) (by omega), Spend_prog _ _ _ 1002 (by omega)]
    simp only [Option.bind_some]
    rw [Spend_prog _ _ _ 1002 (by omega), Spend_prog _ _ _ 1002 (by omega)]
    simp only [Option.bind_some]
    rw [one_valid hv 1 a, one_valid hv 1 (a + b)]
    have sa : stp u l 1 a = if a > last l - u then (u, l, 5) else (u + a, l, 0) := by unfold stp; rw [if_pos rfl, if_neg (by omega)]
    have sab : stp u l 1 (a + b) = if a + b > last l - u then (u, l, 5) else (u + (a + b), l, 0) := by unfold stp; rw [if_pos rfl, if_neg (by omega)]
    rw [sa, sab]
    by_cases d1 : a > last l - u
    · rw [if_pos d1, if_pos (show a + b > last l - u by omega)]
      simp only
      rw [if_neg (by decide)]
      simp only [mummerlaw16_FuelSums.j1]
      rw [if_neg (by decide), if_neg (by decide), aw _ (by omega)]; rfl
    · rw [if_neg d1]
      simp only [if_true]
      rw [one_valid (hv.spend (by omega) (by omega)) 1 b]
      have sb : stp (u + a) l 1 b = if b > last l - (u + a) then (u + a, l, 5) else (u + a + b, l, 0) := by unfold stp; rw [if_pos rfl, if_neg (by omega)]
      rw [sb]
      by_cases d2 : a + b > last l - u
      · rw [if_pos d2, if_pos (show b > last l - (u + a) by omega)]
        simp only [mummerlaw16_FuelSums.j1]
        rw [if_neg (by decide), if_neg (by decide), aw _ (by omega)]; rfl
      · rw [if_neg d2, if_neg (show ¬ b > last l - (u + a) by omega)]
        simp only [mummerlaw16_FuelSums.j1]
        rw [if_neg (by decide), if_pos (by decide), show u + (a + b) = u + a + b from by omega, Same_self _ _ (by have := hv.len; omega) 1001 (by have := hv.len; omega)]
        simp only [Option.bind_some, if_true]
        rw [w64 (x := u + a) (by omega) (by omega), w64 (by omega) (by omega), if_pos rfl, aw _ (by omega)]; rfl
  · rw [if_neg c2]; exact out

end Go.Proofs.Ytpophcogdekgkaa.Pure
