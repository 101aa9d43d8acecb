/- An argument that is an array of three bindings, as data: its twelve cells. -/
import Derived.Test.YtpjcahjpjeiicaaOpen
namespace Go.Proofs.Ytpjcahjpjeiicaa.P
open Go.RowKit Go.Proofs.YtpjcahjpjeiicaaW.PrintWords Go.ChangeShapes
theorem okWide_array3 {P : Program} {w : World} {r : Reach} {base : Nat} {t e : TypeId} {v : Value} (ht : P.underlying t = some (.array 3 e)) (h : Value.okWide P w r base t v) : ∃ cs, v = .agg cs ∧ cs.size = P.cellsOf t := by
  simp only [Value.okWide, ht] at h
  obtain ⟨cs, h1, h2, _⟩ := h
  exact ⟨cs, h1, h2⟩
theorem trod_array3_4 {H : Type} {enc : TypeId × Value → H} {P : Program} {w : World} {base : Nat} {spare : Nat → Bool} {held : Bool} {t e : TypeId} {fuel : Nat} {a0 a1 a2 a3 b0 b1 b2 b3 c0 c1 c2 c3 : Value} {x : DataW H × List MemPlace} (ht : P.underlying t = some (.array 3 e)) (hce : P.cellsOf e = 4)
    (h : DataW.trod enc P w base spare held fuel t [a0, a1, a2, a3, b0, b1, b2, b3, c0, c1, c2, c3] = some x) :
    ∃ y0 y1 y2 n, DataW.trod enc P w base spare held n e [a0, a1, a2, a3] = some y0 ∧ DataW.trod enc P w base spare held n e [b0, b1, b2, b3] = some y1 ∧ DataW.trod enc P w base spare held n e [c0, c1, c2, c3] = some y2 := by
  cases fuel with
  | zero => simp [DataW.trod] at h
  | succ n =>
    unfold DataW.trod at h
    rw [ht] at h
    have r3 : List.range 3 = [0, 1, 2] := rfl
    simp [r3, hce] at h
    obtain ⟨_, h⟩ := h
    cases h0 : DataW.trod enc P w base spare held n e [a0, a1, a2, a3] with
    | none => simp [h0] at h
    | some y0 =>
      cases h1 : DataW.trod enc P w base spare held n e [b0, b1, b2, b3] with
      | none => simp [h0, h1] at h
      | some y1 =>
        cases h2 : DataW.trod enc P w base spare held n e [c0, c1, c2, c3] with
        | none => simp [h0, h1, h2] at h
        | some y2 => exact ⟨y0, y1, y2, n, h0, h1, h2⟩
theorem k24_cells {w : World} {v : S24} {cs : List Value} (h : k24.K w v cs) : cs = [.string v.f0, .string v.f1, .int .i64 v.f2, .int .i64 v.f3] := by
  obtain ⟨c1, r1, e1, q1, c2, r2, e2, q2, c3, c4, e3, q3, q4⟩ := h
  have q1' : c1 = [Value.string v.f0] := q1
  have q2' : c2 = [Value.string v.f1] := q2
  have q3' : c3 = [Value.int .i64 v.f2] := q3
  have q4' : c4 = [Value.int .i64 v.f3] := q4
  subst q1' q2' q3' q4'
  rw [e1, e2, e3]
  rfl
theorem opn46 {H : Type} {enc : TypeId × Value → H} {w : World} {base : Nat} {spare : Nat → Bool} {held : Bool} {fuel : Nat} {cs : List Value} {x : DataW H × List MemPlace} (hl : cs.length = 12)
    (h : DataW.trod enc Try.prog w base spare held fuel 46 cs = some x) : ∃ u v z : S24, cs = [.string u.f0, .string u.f1, .int .i64 u.f2, .int .i64 u.f3, .string v.f0, .string v.f1, .int .i64 v.f2, .int .i64 v.f3, .string z.f0, .string z.f1, .int .i64 z.f2, .int .i64 z.f3] := by
  match cs, hl with
  | [a0, a1, a2, a3, b0, b1, b2, b3, c0, c1, c2, c3], _ =>
    obtain ⟨y0, y1, y2, n, h0, h1, h2⟩ := trod_array3_4 Try.underlying46 (by kernel_rfl) h
    obtain ⟨u, k0, _⟩ := opn24.2 _ _ _ _ _ _ _ _ _ h0
    obtain ⟨v, k1, _⟩ := opn24.2 _ _ _ _ _ _ _ _ _ h1
    obtain ⟨z, k2, _⟩ := opn24.2 _ _ _ _ _ _ _ _ _ h2
    have e0 := k24_cells k0
    have e1 := k24_cells k1
    have e2 := k24_cells k2
    simp only [List.cons.injEq, and_true] at e0 e1 e2
    obtain ⟨rfl, rfl, rfl, rfl⟩ := e0
    obtain ⟨rfl, rfl, rfl, rfl⟩ := e1
    obtain ⟨rfl, rfl, rfl, rfl⟩ := e2
    exact ⟨u, v, z, rfl⟩
end Go.Proofs.Ytpjcahjpjeiicaa.P
