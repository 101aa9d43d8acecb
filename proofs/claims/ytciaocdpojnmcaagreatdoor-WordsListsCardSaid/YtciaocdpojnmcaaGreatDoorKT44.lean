import Derived.Test.YtciaocdpojnmcaaGreatDoorKT43
namespace Go.Proofs.YtciaocdpojnmcaaGreatDoor.P
open Go.RowKit Go.Proofs.YtciaocdpojnmcaaGreatDoorW.PrintWords Go.Proofs.YtciaocdpojnmcaaGreatDoorW.PrintLast
set_option linter.unusedVariables false
set_option linter.unusedSimpArgs false
set_option maxRecDepth 20000
theorem itoa_pos (x : Int) (h : 0 ≤ x) : Lib.itoa x = Lib.decDigits x.toNat := by
  unfold Lib.itoa
  rw [if_neg (by omega)]
theorem formK_lt : ∀ (l : List Int) (n : Nat), Wd.formK l n = 0 → ∀ k, k + 1 < n → l.getD k 0 < l.getD (k + 1) 0 := by
  intro l n
  induction n with
  | zero => intro _ k hk; omega
  | succ n ih =>
    intro h k hk
    rw [Wd.formK] at h
    split at h
    · exact absurd h (by decide)
    · rename_i hc
      by_cases he : k + 1 = n
      · subst he
        rw [Nat.add_sub_cancel] at hc
        have h2 : ¬ l.getD (k + 1) 0 ≤ l.getD k 0 := fun h2 => hc ⟨by omega, h2⟩
        omega
      · exact ih h k (by omega)
theorem formK_of : ∀ (l : List Int) (n : Nat), (∀ k, k + 1 < n → l.getD k 0 < l.getD (k + 1) 0) → Wd.formK l n = 0 := by
  intro l n
  induction n with
  | zero => intro _; rfl
  | succ n ih =>
    intro h
    rw [Wd.formK, if_neg, ih (fun k hk => h k (by omega))]
    rintro ⟨h1, h2⟩
    have := h (n - 1) (by omega)
    rw [show n - 1 + 1 = n by omega] at this
    omega
theorem lastN_mem (ps : List (Nat × Nat)) : lastN ps = 0 ∨ ∃ p ∈ ps, lastN ps = p.2 := by
  unfold lastN
  cases h : ps.getLast? with
  | none => exact .inl rfl
  | some p => exact .inr ⟨p, List.mem_of_getLast? h, rfl⟩
end Go.Proofs.YtciaocdpojnmcaaGreatDoor.P
