/- An argument that is an array of two strings, as data: its two cells. -/
import Derived.Test.YtpjcahjpjeiicaaOpen
namespace Go.Proofs.Ytpjcahjpjeiicaa.P
open Go.RowKit Go.Proofs.YtpjcahjpjeiicaaW.PrintWords Go.ChangeShapes
theorem okWide_array2 {P : Program} {w : World} {r : Reach} {base : Nat} {t e : TypeId} {v : Value} (ht : P.underlying t = some (.array 2 e)) (h : Value.okWide P w r base t v) : ∃ cs, v = .agg cs ∧ cs.size = P.cellsOf t := by
  simp only [Value.okWide, ht] at h
  obtain ⟨cs, h1, h2, _⟩ := h
  exact ⟨cs, h1, h2⟩
theorem trod_array2 {H : Type} {enc : TypeId × Value → H} {P : Program} {w : World} {base : Nat} {spare : Nat → Bool} {held : Bool} {t e : TypeId} {fuel : Nat} {c0 c1 : Value} {x : DataW H × List MemPlace} (ht : P.underlying t = some (.array 2 e)) (hce : P.cellsOf e = 1)
    (h : DataW.trod enc P w base spare held fuel t [c0, c1] = some x) :
    ∃ y0 y1 n, DataW.trod enc P w base spare held n e [c0] = some y0 ∧ DataW.trod enc P w base spare held n e [c1] = some y1 := by
  cases fuel with
  | zero => simp [DataW.trod] at h
  | succ n =>
    unfold DataW.trod at h
    rw [ht] at h
    have r2 : List.range 2 = [0, 1] := rfl
    simp [r2, hce] at h
    obtain ⟨_, h⟩ := h
    cases h0 : DataW.trod enc P w base spare held n e [c0] with
    | none => simp [h0] at h
    | some y0 =>
      cases h1 : DataW.trod enc P w base spare held n e [c1] with
      | none => simp [h0, h1] at h
      | some y1 => exact ⟨y0, y1, n, h0, h1⟩
theorem opn41 {H : Type} {enc : TypeId × Value → H} {w : World} {base : Nat} {spare : Nat → Bool} {held : Bool} {fuel : Nat} {cs : List Value} {x : DataW H × List MemPlace} (hl : cs.length = 2)
    (h : DataW.trod enc Try.prog w base spare held fuel 41 cs = some x) : ∃ a b : ByteArray, cs = [.string a, .string b] ∧ a.size ≤ 9223372036854775807 ∧ b.size ≤ 9223372036854775807 := by
  match cs, hl with
  | [c0, c1], _ =>
    obtain ⟨y0, y1, n, h0, h1⟩ := trod_array2 Try.underlying41 (by kernel_rfl) h
    obtain ⟨v0, k0, w0⟩ := opn9.2 _ _ _ _ _ _ _ _ _ h0
    obtain ⟨v1, k1, w1⟩ := opn9.2 _ _ _ _ _ _ _ _ _ h1
    have e0 : [c0] = [Value.string v0] := k0
    have e1 : [c1] = [Value.string v1] := k1
    simp only [List.cons.injEq, and_true] at e0 e1
    exact ⟨v0, v1, by rw [e0, e1], w0, w1⟩
end Go.Proofs.Ytpjcahjpjeiicaa.P
