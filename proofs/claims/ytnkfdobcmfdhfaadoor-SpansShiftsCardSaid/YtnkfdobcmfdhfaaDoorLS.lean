import Derived.Test.YtnkfdobcmfdhfaaDoorLN
namespace Go.Proofs.YtnkfdobcmfdhfaaDoor.P
open Go.RowKit Go.Proofs.YtnkfdobcmfdhfaaDoorW.PrintWords Go.Proofs.YtnkfdobcmfdhfaaDoorW.PrintLast Sc
set_option linter.unusedVariables false
set_option linter.unusedSimpArgs false
set_option maxRecDepth 20000
theorem same_l0 (l : List Int) (h : l.length ≤ 1000000) : ∀ (d j k : Nat), j + d = l.length → d < k → mummerref02_SameInts.l0 k l l (j : Int) = some true := by
  intro d
  induction d with
  | zero =>
    intro j k hj hk
    obtain ⟨k, rfl⟩ : ∃ m, k = m + 1 := ⟨k - 1, by omega⟩
    simp only [mummerref02_SameInts.l0]
    rw [if_neg (by omega)]
  | succ d ih =>
    intro j k hj hk
    obtain ⟨k, rfl⟩ : ∃ m, k = m + 1 := ⟨k - 1, by omega⟩
    simp only [mummerref02_SameInts.l0]
    rw [if_pos (by omega), if_pos (by omega), if_pos (by omega), if_pos trivial, w64 (by omega) (by omega)]
    have := ih (j + 1) k (by omega) (by omega)
    rwa [show ((j + 1 : Nat) : Int) = (j : Int) + 1 by omega] at this
theorem same_f (l : List Int) (h : l.length ≤ 1000000) (k : Nat) (hk : 1000000 < k) : mummerref02_SameInts.f k l l = some true := by
  unfold mummerref02_SameInts.f
  rw [if_pos rfl]
  exact same_l0 l h l.length 0 k (by omega) (by omega)
theorem nestGo_len (l : List S24) : ∀ (d k : Nat) (out : List Int), (nestGo l d k out).1.length ≤ out.length + d
  | 0, k, out => Nat.le_refl _
  | d + 1, k, out => by
    simp only [nestGo]
    cases rp l k k 0 (-1) with
    | none => exact Nat.zero_le _
    | some q => have := nestGo_len l d (k + 1) (out ++ [q]); simp at this ⊢; omega
theorem nestS_len (l : List S24) : (nestS l).1.length ≤ 2000 := by
  unfold nestS
  split
  · exact Nat.zero_le _
  · split
    · exact Nat.zero_le _
    · have := nestGo_len l l.length 0 []; simp at this; omega
theorem shifts_j3 (l : List S24) (F : Nat) (hF : 5000010 < F) : mummerlaw03_SpansShifts.j3 F l = some true := by
  obtain ⟨F, rfl⟩ : ∃ m, F = m + 1 := ⟨F - 1, by omega⟩
  simp only [mummerlaw03_SpansShifts.j3]
  rw [code_nest l F (by omega), Option.bind_some, ref_nest l F (by omega), Option.bind_some, same_f _ (by have := nestS_len l; omega) F (by omega), Option.bind_some, if_pos rfl, if_pos rfl, if_pos rfl, awake_f F (by omega)]
  rfl
theorem shifts_l0 (l : List S24) (s : S24) (n : Int) : ∀ (d j F : Nat), j + d = 60 → 5000100 + 2 * d < F → mummerlaw03_SpansShifts.l0 F l (j : Int) s.f0 s.f1 n = some true := by
  intro d
  induction d with
  | zero =>
    intro j F hj hF
    obtain ⟨F, rfl⟩ : ∃ m, F = m + 1 + 1 := ⟨F - 2, by omega⟩
    simp only [mummerlaw03_SpansShifts.l0]
    rw [decide_eq_false (by omega)]
    have h : mummerlaw03_SpansShifts.j2 (F + 1) l j false s.f0 s.f1 n = some true := by
      simp only [mummerlaw03_SpansShifts.j2]
      rw [if_neg (by decide)]
      exact shifts_j3 l F (by omega)
    rw [h]
    split <;> rfl
  | succ d ih =>
    intro j F hj hF
    obtain ⟨F, rfl⟩ : ∃ m, F = m + 1 + 1 := ⟨F - 2, by omega⟩
    simp only [mummerlaw03_SpansShifts.l0]
    by_cases c : (j : Int) < (l.length : Int)
    · rw [if_pos c, decide_eq_true (by omega)]
      simp only [mummerlaw03_SpansShifts.j2]
      rw [if_pos trivial, if_pos (by omega), if_pos c, rd_sp, code_shift _ s n F (by omega), Option.bind_some, ref_shift _ s n F (by omega), Option.bind_some, if_neg (by simp), if_pos rfl, w64 (by omega) (by omega)]
      have := ih (j + 1) F (by omega) (by omega)
      rwa [show ((j + 1 : Nat) : Int) = (j : Int) + 1 by omega] at this
    · rw [if_neg c]
      simp only [mummerlaw03_SpansShifts.j2]
      rw [if_neg (by decide)]
      exact shifts_j3 l F (by omega)
theorem shifts_j0 (l : List S24) (b : Bool) (s : S24) (n : Int) (F : Nat) (hF : 6000000 < F) : mummerlaw03_SpansShifts.j0 F l b s.f0 s.f1 n = some true := by
  obtain ⟨F, rfl⟩ : ∃ m, F = m + 1 := ⟨F - 1, by omega⟩
  simp only [mummerlaw03_SpansShifts.j0]
  cases b with
  | true => rw [if_pos rfl, awake_f F (by omega)]; rfl
  | false => rw [if_neg (by decide)]; exact shifts_l0 l s n 60 0 F rfl (by omega)
theorem law_shifts (l : List S24) (s : S24) (n : Int) : ∃ k, mummerlaw03_SpansShifts.f k l s.f0 s.f1 n = some true := by
  refine ⟨7000000, ?_⟩
  unfold mummerlaw03_SpansShifts.f
  split
  · split
    · exact shifts_j0 l _ s n _ (by omega)
    · exact shifts_j0 l _ s n _ (by omega)
  · exact shifts_j0 l _ s n _ (by omega)
end Go.Proofs.YtnkfdobcmfdhfaaDoor.P
