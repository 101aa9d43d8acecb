import Derived.Test.YtnkfdobcmfdhfaaDoorKX25
namespace Go.Proofs.YtnkfdobcmfdhfaaDoor.P
open Go.RowKit Go.Proofs.YtnkfdobcmfdhfaaDoorW.PrintWords Go.ChangeShapes
set_option linter.unusedVariables false
set_option linter.unusedSimpArgs false
set_option maxRecDepth 100000
theorem okWide_array2 {P : Program} {w : World} {r : Reach} {base : Nat} {t e : TypeId} {v : Value} (ht : P.underlying t = some (.array 2 e)) (h : Value.okWide P w r base t v) : ∃ cs, v = .agg cs ∧ cs.size = P.cellsOf t := by
  simp only [Value.okWide, ht] at h
  obtain ⟨cs, h1, h2, _⟩ := h
  exact ⟨cs, h1, h2⟩
theorem trod_array2_2 {H : Type} {enc : TypeId × Value → H} {P : Program} {w : World} {base : Nat} {spare : Nat → Bool} {held : Bool} {t e : TypeId} {fuel : Nat} {cs : List Value} {x : DataW H × List MemPlace} (ht : P.underlying t = some (.array 2 e)) (hce : P.cellsOf e = 2) (hct : P.cellsOf t = 4)
    (h : DataW.trod enc P w base spare held fuel t cs = some x) :
    ∃ a0 a1 b0 b1 y0 y1 n, cs = [a0, a1, b0, b1] ∧ DataW.trod enc P w base spare held n e [a0, a1] = some y0 ∧ DataW.trod enc P w base spare held n e [b0, b1] = some y1 := by
  cases fuel with
  | zero => simp [DataW.trod] at h
  | succ n =>
    unfold DataW.trod at h
    rw [ht] at h
    have r2 : List.range 2 = [0, 1] := rfl
    simp only [hct] at h
    by_cases hl : cs.length = 4
    · match cs, hl with
      | [a0, a1, b0, b1], _ =>
        simp [r2, hce] at h
        cases h0 : DataW.trod enc P w base spare held n e [a0, a1] with
        | none => simp [h0] at h
        | some y0 =>
          cases h1 : DataW.trod enc P w base spare held n e [b0, b1] with
          | none => simp [h0, h1] at h
          | some y1 => exact ⟨a0, a1, b0, b1, y0, y1, n, rfl, h0, h1⟩
    · simp [hl] at h
theorem opn46 : Opn Tryd.prog 46 (Kd.pair k24 k24) (fun x : S24 × S24 => W24 x.1 ∧ W24 x.2) := by
  refine ⟨by kernel_rfl, fun H enc w base spare held fuel cs x h => ?_⟩
  obtain ⟨a0, a1, b0, b1, y0, y1, n, rfl, h0, h1⟩ := trod_array2_2 Tryd.underlying46 (by kernel_rfl) (by kernel_rfl) h
  obtain ⟨v0, k0, w0⟩ := opn24.2 _ _ _ _ _ _ _ _ _ h0
  obtain ⟨v1, k1, w1⟩ := opn24.2 _ _ _ _ _ _ _ _ _ h1
  exact ⟨(v0, v1), ⟨[a0, a1], [b0, b1], rfl, k0, k1⟩, w0, w1⟩
end Go.Proofs.YtnkfdobcmfdhfaaDoor.P
