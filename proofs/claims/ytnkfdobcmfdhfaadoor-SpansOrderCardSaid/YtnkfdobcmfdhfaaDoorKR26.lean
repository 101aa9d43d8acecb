import Derived.Test.YtnkfdobcmfdhfaaDoorKR25
namespace Go.Proofs.YtnkfdobcmfdhfaaDoor.P
open Go.RowKit Go.Proofs.YtnkfdobcmfdhfaaDoorW.PrintWords Go.ChangeShapes
set_option linter.unusedVariables false
set_option maxRecDepth 100000
theorem opn37 : Opn Tryd.prog 37 (Kd.pair k24 (Kd.pair k24 k24)) (fun x : S24 × S24 × S24 => W24 x.1 ∧ W24 x.2.1 ∧ W24 x.2.2) := by
  refine ⟨by kernel_rfl, fun H enc w base spare held fuel cs x h => ?_⟩
  obtain ⟨xs, n, _, _, hl, hlen, hf⟩ := DataW.trod_struct Tryd.underlying37 h
  have hl' : cs.length = 6 := hl.trans (by kernel_rfl)
  have hlen' : xs.length = 3 := hlen
  have h0 := hf 0 _ rfl
  rw [List.getElem?_eq_getElem (show 0 < xs.length by omega)] at h0
  obtain ⟨v0, k0, w0⟩ := opn24.2 _ _ _ _ _ _ _ _ _ h0
  have h1 := hf 1 _ rfl
  rw [List.getElem?_eq_getElem (show 1 < xs.length by omega)] at h1
  obtain ⟨v1, k1, w1⟩ := opn24.2 _ _ _ _ _ _ _ _ _ h1
  have h2 := hf 2 _ rfl
  rw [List.getElem?_eq_getElem (show 2 < xs.length by omega)] at h2
  obtain ⟨v2, k2, w2⟩ := opn24.2 _ _ _ _ _ _ _ _ _ h2
  match cs, hl', k0, k1, k2 with
  | [c0, c1, c2, c3, c4, c5], _, k0, k1, k2 =>
    exact ⟨(v0, v1, v2), ⟨[c0, c1], [c2, c3, c4, c5], rfl, k0, ⟨[c2, c3], [c4, c5], rfl, k1, k2⟩⟩, w0, w1, w2⟩
end Go.Proofs.YtnkfdobcmfdhfaaDoor.P
