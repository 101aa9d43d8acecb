/- Plain lemmas over the printed functions, for law_flips. -/
import Derived.Test.YtkalbdeopogbpaaDoorPx22
import Derived.Test.YtkalbdeopogbpaaDoorL0
import Derived.Test.YtkalbdeopogbpaaDoorL2
import Derived.Test.YtkalbdeopogbpaaDoorL3
import Derived.Test.YtkalbdeopogbpaaDoorL6
namespace Go.Proofs.YtkalbdeopogbpaaDoor.P
open Go.RowKit Go.Proofs.YtkalbdeopogbpaaDoorW.PrintWords Go.Proofs.YtkalbdeopogbpaaDoorW.PrintLast Sc
set_option linter.unusedVariables false
set_option linter.unusedSimpArgs false
set_option maxRecDepth 20000
theorem setSpec_size (s : ByteArray) : (setSpec s).1.size ≤ 20000 := by
  unfold setSpec
  split
  · exact Nat.zero_le _
  · show s.size ≤ 20000; omega
theorem flipS_size (s : ByteArray) (n : Int) : (flipS s n).1.size ≤ 20000 := by
  unfold flipS dropS addS
  split
  · split
    · split
      · exact setSpec_size _
      · exact Nat.zero_le _
    · exact Nat.zero_le _
  · split
    · split
      · exact setSpec_size _
      · exact Nat.zero_le _
    · exact Nat.zero_le _
theorem flipS_err (s : ByteArray) (n : Int) (h : ¬ (flipS s n).2 = 0) : (flipS s n).1 = ⟨#[]⟩ := by
  by_cases c : chk s = 0 ∧ inR n = true
  · obtain ⟨c1, c2⟩ := c
    rw [flipS_ok s n c1 c2] at h ⊢
    unfold setSpec at h ⊢
    split at h
    · rw [if_pos (by assumption)]
    · exact absurd rfl h
  · rw [(flipS_bad s n c).1]
theorem flips_j1 (s x : ByteArray) (b : Int) (f : Bool) (hs : s.size ≤ 20100) (hx : x.size ≤ 20100) (h : f = true → ∃ d : Bool, hasS s b = (d, 0) ∧ hasS x b = (d, 0)) (k : Nat) (hk : 6100000 < k) : mummerlaw09_ScopesFlips.j1 k s b x f = some true := by
  obtain ⟨k, rfl⟩ : ∃ m, k = m + 1 := ⟨k - 1, by omega⟩
  simp only [mummerlaw09_ScopesFlips.j1]
  cases f with
  | false => rw [if_neg (by decide), awake_f k (by omega)]; rfl
  | true =>
    obtain ⟨d, e1, e2⟩ := h rfl
    rw [if_pos rfl, sHas s b (by omega), Option.bind_some, sHas x b (by omega), Option.bind_some, e1, e2]
    dsimp only
    rw [if_pos rfl, if_pos rfl, if_neg (by simp), awake_f k (by omega)]
    rfl
theorem flips_j0 (s x : ByteArray) (a b : Int) (hs : s.size ≤ 20100) (h1 : flipS s a = (x, 0)) (k : Nat) (hk : 6200000 < k) : mummerlaw09_ScopesFlips.j0 k s a b x (flipS x b).2 false = some true := by
  obtain ⟨k, rfl⟩ : ∃ m, k = m + 1 := ⟨k - 1, by omega⟩
  simp only [mummerlaw09_ScopesFlips.j0]
  have hx : x.size ≤ 20000 := by have := flipS_size s a; rwa [h1] at this
  rw [if_neg (by decide)]
  by_cases hab : a = b
  · rw [if_pos hab]
    exact flips_j1 s x b false hs (by omega) (fun h => by cases h) k (by omega)
  · rw [if_neg hab]
    refine flips_j1 s x b _ hs (by omega) (fun h => ?_) k (by omega)
    have h0 : (flipS x b).2 = 0 := by simpa using h
    have h2 : flipS x b = ((flipS x b).1, 0) := by rw [← h0]
    obtain ⟨e1, e2⟩ := flip_else hab h1 h2
    exact ⟨_, e1, e2⟩
theorem law_flips (s : ByteArray) (a b : Int) : ∃ k, mummerlaw09_ScopesFlips.f k s a b = some true := by
  refine ⟨8000000, ?_⟩
  unfold mummerlaw09_ScopesFlips.f
  rw [far_f, Option.bind_some]
  cases hf : farB s with
  | true => rw [if_pos rfl, awake_f _ (by omega)]; rfl
  | false =>
    have hs := far_le hf
    rw [if_neg (by decide), sFlip s a (by omega), Option.bind_some]
    by_cases h0 : (flipS s a).2 = 0
    · obtain ⟨x, hx⟩ : ∃ x, (flipS s a).1 = x := ⟨_, rfl⟩
      have h1 : flipS s a = (x, 0) := by rw [← h0, ← hx]
      have hxs : x.size ≤ 20000 := by have := flipS_size s a; rwa [hx] at this
      obtain ⟨e1, e2, e3, e4⟩ := flip_back h1
      rw [h1]
      dsimp only
      rw [if_pos rfl, sFlip x a (by omega), Option.bind_some, sHas s a (by omega), Option.bind_some, sHas x a (by omega), Option.bind_some, e1, e2, e3]
      dsimp only
      rw [if_pos rfl, if_pos rfl, if_pos rfl, if_pos rfl, if_neg (by cases decide (a ∈ P s) <;> decide), sChk x (by omega), Option.bind_some, if_pos e4]
      rw [sFlip s b (by omega), Option.bind_some, sFlip x b (by omega), Option.bind_some, sFlip _ a (by have := flipS_size s b; omega), Option.bind_some]
      have hj := flips_j0 s x a b hs h1 8000000 (by omega)
      split
      · split
        · split
          · rename_i y1 y2 y3
            have h2 : flipS s b = ((flipS s b).1, 0) := by rw [← y1]
            have h3 : flipS x b = ((flipS x b).1, 0) := by rw [← y2]
            have h4 : flipS (flipS s b).1 a = ((flipS (flipS s b).1 a).1, 0) := by rw [← y3]
            have e := flip_swap h1 h2 h3 h4
            rw [e]
            have : ((flipS (flipS s b).1 a).1.toList != (flipS (flipS s b).1 a).1.toList) = false := by simp
            rw [this]
            exact hj
          · exact hj
        · exact hj
      · exact hj
    · rw [if_neg h0, flipS_err s a h0]
      rw [if_pos (by rw [ByteArray.toList_eq]), awake_f _ (by omega)]
      rfl
end Go.Proofs.YtkalbdeopogbpaaDoor.P
