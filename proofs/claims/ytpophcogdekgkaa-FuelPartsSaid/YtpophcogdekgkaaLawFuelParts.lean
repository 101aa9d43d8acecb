/- It is proved that mummerlaw16.FuelParts returns true for every input that its row names, and never panics. Conditions: none but the statement's own. -/
-- Written by wip/tools/myprint.py of this session over the kit's print; Lean checks it.
import Derived.Test.YtpophcogdekgkaaRows
import Derived.Test.YtpophcogdekgkaaPureFuelParts
import Derived.WalkKit
import Derived.ProofKit
import Derived.OpenShut
import Derived.ShutString
import Derived.ChangeOld
import Derived.Below
import Derived.SizedLaws
import Derived.Test.YtpophcogdekgkaaWSized
namespace Go.Proofs.Ytpophcogdekgkaa.fuelParts
open Go.ChangeShapes Go.WideShapes Go.ChangeAt Go.RowKit Go.Proofs.YtpophcogdekgkaaW.PrintWords Go.Proofs.Ytpophcogdekgkaa.P
open Go.ChangeMaps (open_string shut_string)
set_option linter.unusedVariables false
theorem own : ownKnob Try.prog.godebug = none := by kernel_rfl
theorem laidOut : laidOutB Try.prog = true := by kernel_rfl
set_option maxRecDepth 100000 in
set_option maxHeartbeats 1000000 in
theorem lifted (os : Os) (started : os.Started) (H : Type) (enc : TypeId × Value → H) :
    ReturnsInHanded {} Try.checked os 7 .any (Rows.fuelPartsSpec.pre6 enc Try.prog Try.f7 Rows.fuelPartsRow.domain false) (Rows.fuelPartsSpec.post enc Try.prog Try.f7 false true false false) := by
  refine returnsInHanded_of_change_sized (C := Try.checked) own started (by kernel_rfl) Try.func7
    (ChangeSpec.witness6 (enc := enc) (C := Try.checked) false ⟨#[], #[.agg #[.int .i64 0, .slice none 0 0], .int .i64 0, .slice none 0 0], []⟩ 8 (by kernel_rfl) (by kernel_rfl) (by kernel_rfl) (by kernel_rfl)) ?_
  intro W base args ds gs before hval0 hW hcnd hsz0 _
  have hsz : (DataW.weightsEach Try.prog (Try.f7.params.toList ++ Rows.fuelPartsSpec.plain.varTypes Try.prog) (ds ++ gs)).all (· ≤ reachBytes) = true := hsz0
  have hval : ∀ (j : Nat) t v, Try.f7.params[j]? = some t → args[j]? = some v → Value.okWide Try.prog W .any base t v := hval0
  have hW' := hW
  obtain ⟨p, q, hA0, hV, rfl, hfz, hnd⟩ := hW
  have hA : DataW.TrodAll enc Try.prog W 0 (fun _ => true) true Try.f7.params.toList args.toList ds p := hA0
  rw [Try.params7] at hA hval hsz
  obtain ⟨v0, vs0, d0, ds0, p0, q0, hargs, rfl, rfl, h0, r0⟩ := trodAll_cons hA
  obtain ⟨v1, vs1, d1, ds1, p1, q1, rfl, rfl, rfl, h1, r1⟩ := trodAll_cons r0
  obtain ⟨v2, vs2, d2, ds2, p2, q2, rfl, rfl, rfl, h2, r2⟩ := trodAll_cons r1
  obtain ⟨rfl, rfl, rfl⟩ := trodAll_nil r2
  obtain rfl : args = #[v0, v1, v2] := by cases args; simp_all
  obtain ⟨rfl, rfl⟩ := trodVars_none hV
  obtain ⟨cs0, rfl, _⟩ := okWide_struct Try.underlying24 (hval 0 24 v0 rfl rfl)
  have k0 := h0
  have lt0 : ∀ x ∈ p0, x.block < W.heap.size := by obtain ⟨m, hm⟩ := k0; exact DataW.trod_lt m _ _ _ hm
  obtain ⟨a0_0, l0_1, A0_1, c0_1, rfl, hc0_1, hr0_1, w0_0, w0_1⟩ : ∃ (a0_0 : Int) (l0_1 : (List Int)) (A0_1 : Option Addr) (c0_1 : Nat), cs0 = #[.int .i64 a0_0, .slice A0_1 l0_1.length c0_1] ∧ l0_1.length ≤ c0_1 ∧ Kd.C (Kd.int .i64) W A0_1 l0_1.length l0_1 ∧ ((-9223372036854775808) ≤ a0_0 ∧ a0_0 ≤ 9223372036854775807) ∧ (l0_1.length ≤ 9223372036854775807 ∧ ∀ z ∈ l0_1, ((-9223372036854775808) ≤ z ∧ z ≤ 9223372036854775807)) := by
    obtain ⟨fuel, hf⟩ := h0
    obtain ⟨v, hK, hw⟩ := opn24.2 _ _ _ _ _ _ _ _ _ hf
    obtain ⟨A0_1, c0_1, he, hc0_1, hr0_1⟩ : ∃ (A0_1 : Option Addr) (c0_1 : Nat), cs0.toList = [.int .i64 (v.1), .slice A0_1 (v.2).length c0_1] ∧ (v.2).length ≤ c0_1 ∧ Kd.C (Kd.int .i64) W A0_1 (v.2).length (v.2) := by
      obtain ⟨z1_, y1_, e1_, q1_, r_1⟩ := hK
      have q1_' : _ = _ := q1_
      obtain ⟨B1, d1, f1_, hd1, hs1⟩ := r_1
      exact ⟨B1, d1, by have h_ : cs0.toList = _ := e1_; rw [h_]; simp [q1_', f1_], hd1, hs1⟩
    exact ⟨v.1, v.2, A0_1, c0_1, by rw [← Array.toList_inj, he], hc0_1, hr0_1, hw.1, hw.2⟩
  obtain ⟨a1, rfl, rfl, rfl, w1⟩ := open_int Try.underlying2 (hval 1 2 v1 rfl rfl) h1
  have y1 : ((-9223372036854775808) ≤ a1 ∧ a1 ≤ 9223372036854775807) := by have e : (decide ((-9223372036854775808) ≤ a1) && decide (a1 ≤ 9223372036854775807)) = true := w1; simpa using e
  obtain ⟨A2, n2, c2, rfl⟩ := okWide_slice Try.underlying22 (hval 2 22 v2 rfl rfl)
  have k2 := h2
  have lt2 : ∀ x ∈ p2, x.block < W.heap.size := by obtain ⟨m, hm⟩ := k2; exact DataW.trod_lt m _ _ _ hm
  obtain ⟨l2, rfl, hc2, hr2, w2⟩ : ∃ zs : (List Int), n2 = zs.length ∧ zs.length ≤ c2 ∧ Kd.C (Kd.int .i64) W A2 zs.length zs ∧ (zs.length ≤ 9223372036854775807 ∧ ∀ z ∈ zs, ((-9223372036854775808) ≤ z ∧ z ≤ 9223372036854775807)) := by
    obtain ⟨fuel, hf⟩ := h2
    obtain ⟨v, ⟨A', c', e', hle, hC⟩, hw⟩ := opn22.2 _ _ _ _ _ _ _ _ _ hf
    simp [Value.cells] at e'
    obtain ⟨rfl, rfl, rfl⟩ := e'
    exact ⟨v, rfl, hle, hC, hw⟩
  clear hA0 hval0 hsz0 hsz
  obtain ⟨k, hk⟩ := Pure.FuelParts a0_0 l0_1 a1 l2 w0_0 w0_1 y1 w2
  refine (mummerlaw16_FuelParts.calls k a0_0 _ _ l0_1 a1 _ _ l2 true W hr0_1 hc0_1 hr2 hc2 ⟨rfl⟩ hk).mono fun e W' ⟨he, hd⟩ => ?_
  have bel : Below W.heap.size W W' := hd
  subst he
  exact ⟨_, rfl, _, _, _, [], _, [], hW', trodAll_mk1 (shut_bool Try.underlying4 _), (trodAll_cons_mk (Below.trod laidOut (by kernel_rfl) (of_decide_eq_true (by kernel_rfl)) k0 bel lt0) (trodAll_cons_mk (shut_int Try.underlying2 w1) (trodAll_cons_mk (Below.trod laidOut (by kernel_rfl) (of_decide_eq_true (by kernel_rfl)) k2 bel lt2) trodAll_mk0))), rfl, bel.frame _, fun h => by cases h⟩
theorem over : Rows.fuelPartsRow.holds Try.pinned (OpenSpec.ofChange Rows.fuelPartsSpec) :=
  OpenClaim.holds_of_wide 7 Try.f7 rfl rfl rfl rfl rfl rfl rfl ⟨rfl, rfl, rfl, rfl, rfl⟩ rfl rfl rfl rfl rfl (by kernel_rfl) Try.func7 (by kernel_rfl)
    (of_decide_eq_true (by kernel_rfl)) (by unfold Func.isWrapper; first | (rw [if_pos (by decide +kernel)]; kernel_rfl) | (rw [if_neg (by decide +kernel)]; exact ⟨rfl, rfl⟩))
    (fun os started H enc _ => lifted os started H enc)
theorem proved : Rows.FuelPartsSaid := over
#print axioms proved
end Go.Proofs.Ytpophcogdekgkaa.fuelParts
namespace Go.Proofs.Ytpophcogdekgkaa
/-- The row, under a short name, for the claim. -/
theorem fuelParts_holds : Rows.FuelPartsSaid := fuelParts.proved
end Go.Proofs.Ytpophcogdekgkaa
