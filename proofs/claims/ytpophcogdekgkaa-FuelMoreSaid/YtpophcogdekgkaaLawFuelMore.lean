/- It is proved that mummerlaw16.FuelMore returns true for every input that its row names, and never panics. Conditions: none but the statement's own. -/
-- Written by wip/tools/myprint.py of this session over the kit's print; Lean checks it.
import Derived.Test.YtpophcogdekgkaaRows
import Derived.Test.YtpophcogdekgkaaPureFuelMore
import Derived.WalkKit
import Derived.ProofKit
import Derived.OpenShut
import Derived.ShutString
import Derived.ChangeOld
import Derived.Below
import Derived.SizedLaws
import Derived.Test.YtpophcogdekgkaaWSized
namespace Go.Proofs.Ytpophcogdekgkaa.fuelMore
open Go.ChangeShapes Go.WideShapes Go.ChangeAt Go.RowKit Go.Proofs.YtpophcogdekgkaaW.PrintWords Go.Proofs.Ytpophcogdekgkaa.P
open Go.ChangeMaps (open_string shut_string)
set_option linter.unusedVariables false
theorem own : ownKnob Try.prog.godebug = none := by kernel_rfl
theorem laidOut : laidOutB Try.prog = true := by kernel_rfl
set_option maxRecDepth 100000 in
set_option maxHeartbeats 1000000 in
theorem lifted (os : Os) (started : os.Started) (H : Type) (enc : TypeId × Value → H) :
    ReturnsInHanded {} Try.checked os 4 .any (Rows.fuelMoreSpec.pre6 enc Try.prog Try.f4 Rows.fuelMoreRow.domain false) (Rows.fuelMoreSpec.post enc Try.prog Try.f4 false true false false) := by
  refine returnsInHanded_of_change_sized (C := Try.checked) own started (by kernel_rfl) Try.func4
    (ChangeSpec.witness6 (enc := enc) (C := Try.checked) false ⟨#[], #[.slice none 0 0, .int .i64 0, .int .i64 0], []⟩ 8 (by kernel_rfl) (by kernel_rfl) (by kernel_rfl) (by kernel_rfl)) ?_
  intro W base args ds gs before hval0 hW hcnd hsz0 _
  have hsz : (DataW.weightsEach Try.prog (Try.f4.params.toList ++ Rows.fuelMoreSpec.plain.varTypes Try.prog) (ds ++ gs)).all (· ≤ reachBytes) = true := hsz0
  have hval : ∀ (j : Nat) t v, Try.f4.params[j]? = some t → args[j]? = some v → Value.okWide Try.prog W .any base t v := hval0
  have hW' := hW
  obtain ⟨p, q, hA0, hV, rfl, hfz, hnd⟩ := hW
  have hA : DataW.TrodAll enc Try.prog W 0 (fun _ => true) true Try.f4.params.toList args.toList ds p := hA0
  rw [Try.params4] at hA hval hsz
  obtain ⟨v0, vs0, d0, ds0, p0, q0, hargs, rfl, rfl, h0, r0⟩ := trodAll_cons hA
  obtain ⟨v1, vs1, d1, ds1, p1, q1, rfl, rfl, rfl, h1, r1⟩ := trodAll_cons r0
  obtain ⟨v2, vs2, d2, ds2, p2, q2, rfl, rfl, rfl, h2, r2⟩ := trodAll_cons r1
  obtain ⟨rfl, rfl, rfl⟩ := trodAll_nil r2
  obtain rfl : args = #[v0, v1, v2] := by cases args; simp_all
  obtain ⟨rfl, rfl⟩ := trodVars_none hV
  obtain ⟨A0, n0, c0, rfl⟩ := okWide_slice Try.underlying25 (hval 0 25 v0 rfl rfl)
  have k0 := h0
  have lt0 : ∀ x ∈ p0, x.block < W.heap.size := by obtain ⟨m, hm⟩ := k0; exact DataW.trod_lt m _ _ _ hm
  obtain ⟨l0, rfl, hc0, hr0, w0⟩ : ∃ zs : (List S46), n0 = zs.length ∧ zs.length ≤ c0 ∧ Kd.C k46 W A0 zs.length zs ∧ (zs.length ≤ 9223372036854775807 ∧ ∀ z ∈ zs, W46 z) := by
    obtain ⟨fuel, hf⟩ := h0
    obtain ⟨v, ⟨A', c', e', hle, hC⟩, hw⟩ := opn25.2 _ _ _ _ _ _ _ _ _ hf
    simp [Value.cells] at e'
    obtain ⟨rfl, rfl, rfl⟩ := e'
    exact ⟨v, rfl, hle, hC, hw⟩
  obtain ⟨a1, rfl, rfl, rfl, w1⟩ := open_int Try.underlying2 (hval 1 2 v1 rfl rfl) h1
  have y1 : ((-9223372036854775808) ≤ a1 ∧ a1 ≤ 9223372036854775807) := by have e : (decide ((-9223372036854775808) ≤ a1) && decide (a1 ≤ 9223372036854775807)) = true := w1; simpa using e
  obtain ⟨a2, rfl, rfl, rfl, w2⟩ := open_int Try.underlying2 (hval 2 2 v2 rfl rfl) h2
  have y2 : ((-9223372036854775808) ≤ a2 ∧ a2 ≤ 9223372036854775807) := by have e : (decide ((-9223372036854775808) ≤ a2) && decide (a2 ≤ 9223372036854775807)) = true := w2; simpa using e
  clear hA0 hval0 hsz0 hsz
  obtain ⟨k, hk⟩ := Pure.FuelMore l0 a1 a2 w0 y1 y2
  refine (mummerlaw16_FuelMore.calls k _ _ l0 a1 a2 true W hr0 hc0 ⟨rfl⟩ hk).mono fun e W' ⟨he, hd⟩ => ?_
  have bel : Below W.heap.size W W' := hd
  subst he
  exact ⟨_, rfl, _, _, _, [], _, [], hW', trodAll_mk1 (shut_bool Try.underlying4 _), (trodAll_cons_mk (Below.trod laidOut (by kernel_rfl) (of_decide_eq_true (by kernel_rfl)) k0 bel lt0) (trodAll_cons_mk (shut_int Try.underlying2 w1) (trodAll_cons_mk (shut_int Try.underlying2 w2) trodAll_mk0))), rfl, bel.frame _, fun h => by cases h⟩
theorem over : Rows.fuelMoreRow.holds Try.pinned (OpenSpec.ofChange Rows.fuelMoreSpec) :=
  OpenClaim.holds_of_wide 4 Try.f4 rfl rfl rfl rfl rfl rfl rfl ⟨rfl, rfl, rfl, rfl, rfl⟩ rfl rfl rfl rfl rfl (by kernel_rfl) Try.func4 (by kernel_rfl)
    (of_decide_eq_true (by kernel_rfl)) (by unfold Func.isWrapper; first | (rw [if_pos (by decide +kernel)]; kernel_rfl) | (rw [if_neg (by decide +kernel)]; exact ⟨rfl, rfl⟩))
    (fun os started H enc _ => lifted os started H enc)
theorem proved : Rows.FuelMoreSaid := over
#print axioms proved
end Go.Proofs.Ytpophcogdekgkaa.fuelMore
namespace Go.Proofs.Ytpophcogdekgkaa
/-- The row, under a short name, for the claim. -/
theorem fuelMore_holds : Rows.FuelMoreSaid := fuelMore.proved
end Go.Proofs.Ytpophcogdekgkaa
