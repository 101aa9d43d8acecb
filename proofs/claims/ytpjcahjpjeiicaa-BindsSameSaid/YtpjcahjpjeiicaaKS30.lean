/- It is proved that mummerlaw11.BindsSame returns true for every input that its row names, and never panics. Conditions: none but the statement's own. -/
import Derived.Test.YtpjcahjpjeiicaaRows
import Derived.Test.YtpjcahjpjeiicaaKS28
import Derived.WalkKit
import Derived.ProofKit
import Derived.OpenShut
import Derived.ShutString
import Derived.ChangeOld
import Derived.Below
import Derived.SizedLaws
import Derived.Test.YtpjcahjpjeiicaaKS29
namespace Go.Proofs.Ytpjcahjpjeiicaa.bindsSame
open Go.ChangeShapes Go.WideShapes Go.ChangeAt Go.RowKit Go.Proofs.YtpjcahjpjeiicaaW.PrintWords Go.Proofs.Ytpjcahjpjeiicaa.P
open Go.ChangeMaps (open_string shut_string)
set_option linter.unusedVariables false
theorem own : ownKnob Try.prog.godebug = none := by kernel_rfl
theorem laidOut : laidOutB Try.prog = true := by kernel_rfl
set_option maxRecDepth 100000 in
set_option maxHeartbeats 1000000 in
theorem lifted (os : Os) (started : os.Started) (H : Type) (enc : TypeId × Value → H) :
    ReturnsInHanded {} Try.checked os 9 .any (Rows.bindsSameSpec.pre6 enc Try.prog Try.f9 Rows.bindsSameRow.domain false) (Rows.bindsSameSpec.post enc Try.prog Try.f9 false true false false) := by
  refine returnsInHanded_of_change_sized (C := Try.checked) own started (by kernel_rfl) Try.func9
    (ChangeSpec.witness6 (enc := enc) (C := Try.checked) false ⟨#[], #[.slice none 0 0, .agg #[.string ByteArray.empty, .string ByteArray.empty, .int .i64 0, .int .i64 0], .agg #[.string ByteArray.empty, .string ByteArray.empty, .int .i64 0, .int .i64 0]], []⟩ 8 (by kernel_rfl) (by kernel_rfl) (by kernel_rfl) (by kernel_rfl)) ?_
  intro W base args ds gs before hval0 hW hcnd hsz0 _
  have hsz : (DataW.weightsEach Try.prog (Try.f9.params.toList ++ Rows.bindsSameSpec.plain.varTypes Try.prog) (ds ++ gs)).all (· ≤ reachBytes) = true := hsz0
  have hval : ∀ (j : Nat) t v, Try.f9.params[j]? = some t → args[j]? = some v → Value.okWide Try.prog W .any base t v := hval0
  have hW' := hW
  obtain ⟨p, q, hA0, hV, rfl, hfz, hnd⟩ := hW
  have hA : DataW.TrodAll enc Try.prog W 0 (fun _ => true) true Try.f9.params.toList args.toList ds p := hA0
  rw [Try.params9] at hA hval hsz
  obtain ⟨v0, vs0, d0, ds0, p0, q0, hargs, rfl, rfl, h0, r0⟩ := trodAll_cons hA
  obtain ⟨v1, vs1, d1, ds1, p1, q1, rfl, rfl, rfl, h1, r1⟩ := trodAll_cons r0
  obtain ⟨v2, vs2, d2, ds2, p2, q2, rfl, rfl, rfl, h2, r2⟩ := trodAll_cons r1
  obtain ⟨rfl, rfl, rfl⟩ := trodAll_nil r2
  obtain rfl : args = #[v0, v1, v2] := by cases args; simp_all
  obtain ⟨rfl, rfl⟩ := trodVars_none hV
  obtain ⟨A0, n0, c0, rfl⟩ := okWide_slice Try.underlying22 (hval 0 22 v0 rfl rfl)
  have k0 := h0
  have lt0 : ∀ x ∈ p0, x.block < W.heap.size := by obtain ⟨m, hm⟩ := k0; exact DataW.trod_lt m _ _ _ hm
  obtain ⟨l0, rfl, hc0, hr0, w0⟩ : ∃ zs : (List S24), n0 = zs.length ∧ zs.length ≤ c0 ∧ Kd.C k24 W A0 zs.length zs ∧ (zs.length ≤ 9223372036854775807 ∧ ∀ z ∈ zs, W24 z) := by
    obtain ⟨fuel, hf⟩ := h0
    obtain ⟨v, ⟨A', c', e', hle, hC⟩, hw⟩ := opn22.2 _ _ _ _ _ _ _ _ _ hf
    simp [Value.cells] at e'
    obtain ⟨rfl, rfl, rfl⟩ := e'
    exact ⟨v, rfl, hle, hC, hw⟩
  obtain ⟨cs1, rfl, _⟩ := okWide_struct Try.underlying24 (hval 1 24 v1 rfl rfl)
  have k1 := h1
  have lt1 : ∀ x ∈ p1, x.block < W.heap.size := by obtain ⟨m, hm⟩ := k1; exact DataW.trod_lt m _ _ _ hm
  obtain ⟨a1_0, a1_1, a1_2, a1_3, rfl, w1_0, w1_1, w1_2, w1_3⟩ : ∃ (a1_0 : ByteArray) (a1_1 : ByteArray) (a1_2 : Int) (a1_3 : Int), cs1 = #[.string a1_0, .string a1_1, .int .i64 a1_2, .int .i64 a1_3] ∧ (a1_0.size ≤ 9223372036854775807) ∧ (a1_1.size ≤ 9223372036854775807) ∧ ((-9223372036854775808) ≤ a1_2 ∧ a1_2 ≤ 9223372036854775807) ∧ ((-9223372036854775808) ≤ a1_3 ∧ a1_3 ≤ 9223372036854775807) := by
    obtain ⟨fuel, hf⟩ := h1
    obtain ⟨v, hK, hw⟩ := opn24p.2 _ _ _ _ _ _ _ _ _ hf
    have he : cs1.toList = [.string (v.1), .string (v.2.1), .int .i64 (v.2.2.1), .int .i64 (v.2.2.2)] := by
      obtain ⟨z1_, y1_, e1_, q1_, r_1⟩ := hK
      have q1_' : _ = _ := q1_
      obtain ⟨z2_, y2_, e2_, q2_, r_2⟩ := r_1
      have q2_' : _ = _ := q2_
      obtain ⟨z3_, y3_, e3_, q3_, r_3⟩ := r_2
      have q3_' : _ = _ := q3_
      have r_3' : _ = _ := r_3
      have h_ : cs1.toList = _ := e1_
      rw [h_]; simp [q1_', e2_, q2_', e3_, q3_', r_3']
    exact ⟨v.1, v.2.1, v.2.2.1, v.2.2.2, by rw [← Array.toList_inj, he], hw.1, hw.2.1, hw.2.2.1, hw.2.2.2⟩
  obtain ⟨cs2, rfl, _⟩ := okWide_struct Try.underlying24 (hval 2 24 v2 rfl rfl)
  have k2 := h2
  have lt2 : ∀ x ∈ p2, x.block < W.heap.size := by obtain ⟨m, hm⟩ := k2; exact DataW.trod_lt m _ _ _ hm
  obtain ⟨a2_0, a2_1, a2_2, a2_3, rfl, w2_0, w2_1, w2_2, w2_3⟩ : ∃ (a2_0 : ByteArray) (a2_1 : ByteArray) (a2_2 : Int) (a2_3 : Int), cs2 = #[.string a2_0, .string a2_1, .int .i64 a2_2, .int .i64 a2_3] ∧ (a2_0.size ≤ 9223372036854775807) ∧ (a2_1.size ≤ 9223372036854775807) ∧ ((-9223372036854775808) ≤ a2_2 ∧ a2_2 ≤ 9223372036854775807) ∧ ((-9223372036854775808) ≤ a2_3 ∧ a2_3 ≤ 9223372036854775807) := by
    obtain ⟨fuel, hf⟩ := h2
    obtain ⟨v, hK, hw⟩ := opn24p.2 _ _ _ _ _ _ _ _ _ hf
    have he : cs2.toList = [.string (v.1), .string (v.2.1), .int .i64 (v.2.2.1), .int .i64 (v.2.2.2)] := by
      obtain ⟨z1_, y1_, e1_, q1_, r_1⟩ := hK
      have q1_' : _ = _ := q1_
      obtain ⟨z2_, y2_, e2_, q2_, r_2⟩ := r_1
      have q2_' : _ = _ := q2_
      obtain ⟨z3_, y3_, e3_, q3_, r_3⟩ := r_2
      have q3_' : _ = _ := q3_
      have r_3' : _ = _ := r_3
      have h_ : cs2.toList = _ := e1_
      rw [h_]; simp [q1_', e2_, q2_', e3_, q3_', r_3']
    exact ⟨v.1, v.2.1, v.2.2.1, v.2.2.2, by rw [← Array.toList_inj, he], hw.1, hw.2.1, hw.2.2.1, hw.2.2.2⟩
  clear hA0 hval0 hsz0 hsz
  obtain ⟨k, hk⟩ := Pure.BindsSame l0 a1_0 a1_1 a1_2 a1_3 a2_0 a2_1 a2_2 a2_3 w0 w1_0 w1_1 w1_2 w1_3 w2_0 w2_1 w2_2 w2_3
  refine (mummerlaw11_BindsSame.calls k _ _ l0 a1_0 a1_1 a1_2 a1_3 a2_0 a2_1 a2_2 a2_3 true W hr0 hc0 ⟨rfl⟩ hk).mono fun e W' ⟨he, hd⟩ => ?_
  have bel : Below W.heap.size W W' := hd
  subst he
  exact ⟨_, rfl, _, _, _, [], _, [], hW', trodAll_mk1 (shut_bool Try.underlying4 _), (trodAll_cons_mk (Below.trod laidOut (by kernel_rfl) (of_decide_eq_true (by kernel_rfl)) k0 bel lt0) (trodAll_cons_mk (Below.trod laidOut (by kernel_rfl) (of_decide_eq_true (by kernel_rfl)) k1 bel lt1) (trodAll_cons_mk (Below.trod laidOut (by kernel_rfl) (of_decide_eq_true (by kernel_rfl)) k2 bel lt2) trodAll_mk0))), rfl, bel.frame _, fun h => by cases h⟩
theorem over : Rows.bindsSameRow.holds Try.pinned (OpenSpec.ofChange Rows.bindsSameSpec) :=
  OpenClaim.holds_of_wide 9 Try.f9 rfl rfl rfl rfl rfl rfl rfl ⟨rfl, rfl, rfl, rfl, rfl⟩ rfl rfl rfl rfl rfl (by kernel_rfl) Try.func9 (by kernel_rfl)
    (of_decide_eq_true (by kernel_rfl)) (by unfold Func.isWrapper; first | (rw [if_pos (by decide +kernel)]; kernel_rfl) | (rw [if_neg (by decide +kernel)]; exact ⟨rfl, rfl⟩))
    (fun os started H enc _ => lifted os started H enc)
theorem proved : Rows.BindsSameSaid := over
#print axioms proved
end Go.Proofs.Ytpjcahjpjeiicaa.bindsSame
namespace Go.Proofs.Ytpjcahjpjeiicaa
/-- The row, under a short name, for the claim. -/
theorem bindsSame_holds : Rows.BindsSameSaid := bindsSame.proved
end Go.Proofs.Ytpjcahjpjeiicaa
