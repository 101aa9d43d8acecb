/- FuelParts: in a part (Open, at most 100 Spend, Close) no more is used than it may, nor than what was left, and afterwards what is left is what was left less what was used: the law answers true for every input. -/
import Derived.Test.YtpophcogdekgkaaGoalFuelParts
import Derived.Test.YtpophcogdekgkaaLemS
namespace Go.Proofs.Ytpophcogdekgkaa.Pure
open Go.RowKit Go.Proofs.Ytpophcogdekgkaa.P Go.Proofs.Ytpophcogdekgkaa.L Go.Proofs.YtpophcogdekgkaaW.PrintWords Go.Proofs.YtpophcogdekgkaaW.PrintLast

/-- The spends within a part: l[lim] is open, so much was used. -/
theorem parts_loop (l2 : List Int) (hl2 : l2.length ≤ 100) (n before u : Int) (l : List Int) (lim : Int) (hv : Valid u l) (hne : l.length ≠ 200) (hlim : lim = u + min n (last l - u)) (_hn : 0 ≤ n) (hb : before = last l - u) :
    ∀ (d k i : Nat) (used : Int), i + d = l2.length → d + 900 < k → 0 ≤ used → u + used ≤ lim →
      mummerlaw16_FuelParts.l0 k n l2 before used (i : Int) u l (u + used) (l ++ [lim]) = some true := by
  have h4 := hv.lst
  have h0 := hv.u0
  have h2 := hv.len
  intro d
  induction d with
  | zero =>
    intro k i used he hk hu1 hu2
    obtain ⟨k, rfl⟩ : ∃ m, k = m + 1 := ⟨k - 1, by omega⟩
    simp only [mummerlaw16_FuelParts.l0]
    rw [if_neg (by omega), if_neg (by omega), decide_eq_false (by omega)]
    obtain ⟨k, rfl⟩ : ∃ m, k = m + 1 := ⟨k - 1, by omega⟩
    simp only [mummerlaw16_FuelParts.j2]
    rw [if_neg (by simp)]
    have hvu : Valid (u + used) l := hv.spend (by omega) (by omega)
    have hvt : Valid (u + used) (l ++ [lim]) := hvu.opened hne (by omega) (by omega)
    unfold fuel_Close.f
    rw [one_prog _ _ _ _ k (by omega), one_valid hvt]
    have sc : stp (u + used) (l ++ [lim]) 3 0 = (u + used, l, 0) := by
      unfold stp
      rw [if_neg (by decide), if_neg (by decide), if_pos rfl, if_neg (by decide), if_neg (by have := hv.pos; rw [List.length_append, List.length_cons, List.length_nil]; omega), List.dropLast_concat]
    rw [sc]
    simp only [Option.bind_some]
    rw [Left_prog _ _ k (by omega), if_pos ((valid_iff _ _).2 hvu)]
    simp only [Option.bind_some, if_true]
    rw [w64 (by omega) (by omega), w64 (by omega) (by omega), if_pos (by omega), if_pos (by trivial), awake_ok k (by omega)]
    rfl
  | succ d ih =>
    intro k i used he hk hu1 hu2
    obtain ⟨k, rfl⟩ : ∃ m, k = m + 1 := ⟨k - 1, by omega⟩
    have hlt : i < l2.length := by omega
    simp only [mummerlaw16_FuelParts.l0]
    rw [if_pos (by omega), if_pos (by omega), rd_lt l2 i hlt, Spend_prog _ _ _ k (by omega)]
    have hvu : Valid (u + used) l := hv.spend (by omega) (by omega)
    have hvt : Valid (u + used) (l ++ [lim]) := hvu.opened hne (by omega) (by omega)
    rw [one_valid hvt]
    have hs : stp (u + used) (l ++ [lim]) 1 l2[i] = if l2[i] < 0 ∨ l2[i] > 1000000000 then (u + used, l ++ [lim], 7) else if l2[i] > lim - (u + used) then (u + used, l ++ [lim], 5) else (u + used + l2[i], l ++ [lim], 0) := by
      unfold stp; rw [if_pos rfl, last_append]
    rw [hs]
    have hi : wrap64 ((i : Int) + 1) = ((i + 1 : Nat) : Int) := by rw [w64 (by omega) (by omega)]; omega
    simp only [Option.bind_some]
    by_cases c1 : l2[i] < 0 ∨ l2[i] > 1000000000
    · rw [if_pos c1]
      simp only
      rw [if_neg (by decide), hi]
      exact ih k (i + 1) used (by omega) (by omega) hu1 hu2
    rw [if_neg c1]
    by_cases c2 : l2[i] > lim - (u + used)
    · rw [if_pos c2]
      simp only
      rw [if_neg (by decide), hi]
      exact ih k (i + 1) used (by omega) (by omega) hu1 hu2
    · rw [if_neg c2]
      simp only [if_true]
      rw [hi, w64 (by omega) (by omega)]
      have := ih k (i + 1) (used + l2[i]) (by omega) (by omega) (by omega) (by omega)
      rw [show u + used + l2[i] = u + (used + l2[i]) from by omega]
      exact this

theorem FuelParts : mummerlaw16_FuelParts.Goal := by
  intro u l n l2 hu hl hn hl2
  refine ⟨2000, ?_⟩
  have aw : ∀ k, 1000 ≤ k → mummerlaw16_awake.f k = some true := fun k hk => awake_ok k (by omega)
  have out : ∀ b, mummerlaw16_FuelParts.j0 2000 n l2 b true u l = some true := by
    intro b
    simp only [mummerlaw16_FuelParts.j0]
    rw [if_pos trivial, aw _ (by omega)]; rfl
  unfold mummerlaw16_FuelParts.f
  rw [Left_prog _ _ 2000 (by omega)]
  simp only [Option.bind_some]
  by_cases c1 : (l2.length : Int) > 100
  · rw [if_pos c1]; exact out _
  rw [if_neg c1]
  by_cases c2 : (l.length : Int) > 300
  · rw [if_pos c2]; exact out _
  rw [if_neg c2]
  by_cases c3 : chk u l = 0
  · rw [if_pos c3]
    have hv := (valid_iff u l).1 c3
    have h4 := hv.lst
    have h0 := hv.u0
    have h2 := hv.len
    simp only [mummerlaw16_FuelParts.j0]
    rw [if_neg (by simp), Open_prog _ _ _ 1999 (by omega), one_valid hv]
    simp only [Option.bind_some]
    have so : stp u l 2 n = if n < 0 ∨ n > 1000000000 then (u, l, 7) else if l.length = 200 then (u, l, 3) else (u, l ++ [u + min n (last l - u)], 0) := by
      unfold stp; rw [if_neg (by decide), if_pos rfl]
    rw [so]
    by_cases d1 : n < 0 ∨ n > 1000000000
    · rw [if_pos d1]
      simp only
      rw [if_neg (by decide), if_pos trivial, Same_self _ _ (by omega) 1999 (by omega)]
      simp only [Option.bind_some, if_true]
      rw [aw _ (by omega)]
      rfl
    rw [if_neg d1]
    by_cases d2 : l.length = 200
    · rw [if_pos d2]
      simp only
      rw [if_neg (by decide), if_neg (by decide), if_pos trivial, Same_self _ _ (by omega) 1999 (by omega)]
      simp only [Option.bind_some, if_true]
      rw [aw _ (by omega)]
      rfl
    rw [if_neg d2]
    simp only [if_true]
    have := parts_loop l2 (by omega) n (last l - u) u l (u + min n (last l - u)) hv d2 rfl (by omega) rfl l2.length 1999 0 0 (by omega) (by omega) (by omega) (by omega)
    simpa using this
  · rw [if_neg c3]
    simp only
    rw [show (chk u l != 0) = true from by simpa using c3]
    exact out _

end Go.Proofs.Ytpophcogdekgkaa.Pure
