-- Written by wip/tools/myprint.py of this session over the kit's print; Lean checks it.
import Derived.Test.YtpophcogdekgkaaPx0
import Derived.Test.YtpophcogdekgkaaPx8
import Derived.Test.YtpophcogdekgkaaPx9
import Derived.Test.YtpophcogdekgkaaPx12
namespace Go.Proofs.Ytpophcogdekgkaa.P
open Go.RowKit Go.Proofs.YtpophcogdekgkaaW.PrintWords Go.Proofs.YtpophcogdekgkaaW.PrintLast Go.Proofs.YtpophcogdekgkaaW.PrintMore
attribute [local go_sem] max2_int min2_int max_two min_two max_three min_three max_four min_four   -- for this text's walks alone
set_option linter.unusedVariables false
set_option linter.unusedSimpArgs false

/-! ### mummerlaw16_FuelMore: function 4 -/
mutual
def mummerlaw16_FuelMore.j0 : Nat → List (S46) → Int → Int → Bool → Int → List Int → Int → List Int → Option (Bool)
  | 0, _, _, _, _, _, _, _, _ => none
  | k + 1, x0, x1, x2, x35, x405000, x405001, x411000, x411001 => if x35 = true then ((mummerlaw16_awake.f k).bind fun t411 => (some t411)) else (if x2 < x1 then (mummerlaw16_FuelMore.j1 k x0 x411000 x411001 x405000 x405001) else (mummerlaw16_FuelMore.j1 k x0 x405000 x405001 x411000 x411001))
def mummerlaw16_FuelMore.j1 : Nat → List (S46) → Int → List Int → Int → List Int → Option (Bool)
  | 0, _, _, _, _, _ => none
  | k + 1, x0, x405000, x405001, x411000, x411001 => (fuel_Run.f k x405000 x405001 x0).bind fun bt412 => ((fuel_Run.f k x411000 x411001 x0).bind fun bt419 => (if bt419.2.2.1 < bt412.2.2.1 then (mummerlaw16_FuelMore.j2 k bt412.2.2.2 bt419.2.2.2 bt412.2.2.1 bt419.2.2.1 true bt412.1 bt412.2.1 bt419.1 bt419.2.1) else (mummerlaw16_FuelMore.j2 k bt412.2.2.2 bt419.2.2.2 bt412.2.2.1 bt419.2.2.1 (decide (bt412.1 > bt419.1)) bt412.1 bt412.2.1 bt419.1 bt419.2.1)))
def mummerlaw16_FuelMore.j2 : Nat → Int → Int → Int → Int → Bool → Int → List Int → Int → List Int → Option (Bool)
  | 0, _, _, _, _, _, _, _, _, _ => none
  | k + 1, x8, x10, x12, x14, x65, x419000, x419001, x426000, x426001 => if x65 = true then (some false) else (if x8 = 0 then (if x10 = 0 then (if x419000 = x426000 then (mummerlaw16_FuelMore.j3 k x8 x10 x12 x14 (x12 != x14)) else (mummerlaw16_FuelMore.j3 k x8 x10 x12 x14 true)) else (mummerlaw16_FuelMore.j3 k x8 x10 x12 x14 true)) else (mummerlaw16_FuelMore.j3 k x8 x10 x12 x14 false))
def mummerlaw16_FuelMore.j3 : Nat → Int → Int → Int → Int → Bool → Option (Bool)
  | 0, _, _, _, _, _ => none
  | k + 1, x8, x10, x12, x14, x83 => if x83 = true then (some false) else (if x8 = 5 then ((mummerlaw16_awake.f k).bind fun t426 => (some t426)) else (if x10 = x8 then (if x12 = x14 then ((mummerlaw16_awake.f k).bind fun t427 => (some t427)) else (some false)) else (some false)))
end
def mummerlaw16_FuelMore.f (k : Nat) (l0 : List (S46)) (a1 : Int) (a2 : Int) : Option (Bool) := (fuel_New.f a1).bind fun bt399 => ((fuel_New.f a2).bind fun bt405 => (if (l0.length : Int) > 100 then (mummerlaw16_FuelMore.j0 k l0 a1 a2 true bt399.1 bt399.2.1 bt405.1 bt405.2.1) else (if bt399.2.2 = 0 then (mummerlaw16_FuelMore.j0 k l0 a1 a2 (bt405.2.2 != 0) bt399.1 bt399.2.1 bt405.1 bt405.2.1) else (mummerlaw16_FuelMore.j0 k l0 a1 a2 true bt399.1 bt399.2.1 bt405.1 bt405.2.1))))
theorem mummerlaw16_FuelMore.mono_l : ∀ k, (∀ y0 y1 y2 y3 y4 y5 y6 y7, LeO (mummerlaw16_FuelMore.j0 k y0 y1 y2 y3 y4 y5 y6 y7) (mummerlaw16_FuelMore.j0 (k + 1) y0 y1 y2 y3 y4 y5 y6 y7)) ∧ (∀ y0 y1 y2 y3 y4, LeO (mummerlaw16_FuelMore.j1 k y0 y1 y2 y3 y4) (mummerlaw16_FuelMore.j1 (k + 1) y0 y1 y2 y3 y4)) ∧ (∀ y0 y1 y2 y3 y4 y5 y6 y7 y8, LeO (mummerlaw16_FuelMore.j2 k y0 y1 y2 y3 y4 y5 y6 y7 y8) (mummerlaw16_FuelMore.j2 (k + 1) y0 y1 y2 y3 y4 y5 y6 y7 y8)) ∧ (∀ y0 y1 y2 y3 y4, LeO (mummerlaw16_FuelMore.j3 k y0 y1 y2 y3 y4) (mummerlaw16_FuelMore.j3 (k + 1) y0 y1 y2 y3 y4))
  | 0 => ⟨fun _ _ _ _ _ _ _ _ r h => by simp [mummerlaw16_FuelMore.j0] at h, fun _ _ _ _ _ r h => by simp [mummerlaw16_FuelMore.j1] at h, fun _ _ _ _ _ _ _ _ _ r h => by simp [mummerlaw16_FuelMore.j2] at h, fun _ _ _ _ _ r h => by simp [mummerlaw16_FuelMore.j3] at h⟩
  | k + 1 => by
    obtain ⟨ih0, ih1, ih2, ih3⟩ := mummerlaw16_FuelMore.mono_l k
    refine ⟨?_, ?_, ?_, ?_⟩
    · intro y0 y1 y2 y3 y4 y5 y6 y7
      unfold mummerlaw16_FuelMore.j0
      repeat' first
      | (with_reducible exact ih0 _ _ _ _ _ _ _ _)
      | (with_reducible exact ih1 _ _ _ _ _)
      | (with_reducible exact ih2 _ _ _ _ _ _ _ _ _)
      | (with_reducible exact ih3 _ _ _ _ _)
      | (with_reducible exact fuel_Run.mono _ _ _ _)
      | (with_reducible exact mummerlaw16_awake.mono _)
      | (with_reducible exact LeO.refl _)
      | (with_reducible exact LeO.none _)
      | (with_reducible refine LeO.ite ?_ ?_)
      | (with_reducible refine LeO.bind ?_ (fun _ => ?_))
      | exact ih0 _ _ _ _ _ _ _ _
      | exact ih1 _ _ _ _ _
      | exact ih2 _ _ _ _ _ _ _ _ _
      | exact ih3 _ _ _ _ _
      | exact fuel_Run.mono _ _ _ _
      | exact mummerlaw16_awake.mono _
      | exact LeO.none _
      | refine LeO.ite ?_ ?_
      | refine LeO.bind ?_ (fun _ => ?_)
    · intro y0 y1 y2 y3 y4
      unfold mummerlaw16_FuelMore.j1
      repeat' first
      | (with_reducible exact ih0 _ _ _ _ _ _ _ _)
      | (with_reducible exact ih1 _ _ _ _ _)
      | (with_reducible exact ih2 _ _ _ _ _ _ _ _ _)
      | (with_reducible exact ih3 _ _ _ _ _)
      | (with_reducible exact fuel_Run.mono _ _ _ _)
      | (with_reducible exact mummerlaw16_awake.mono _)
      | (with_reducible exact LeO.refl _)
      | (with_reducible exact LeO.none _)
      | (with_reducible refine LeO.ite ?_ ?_)
      | (with_reducible refine LeO.bind ?_ (fun _ => ?_))
      | exact ih0 _ _ _ _ _ _ _ _
      | exact ih1 _ _ _ _ _
      | exact ih2 _ _ _ _ _ _ _ _ _
      | exact ih3 _ _ _ _ _
      | exact fuel_Run.mono _ _ _ _
      | exact mummerlaw16_awake.mono _
      | exact LeO.none _
      | refine LeO.ite ?_ ?_
      | refine LeO.bind ?_ (fun _ => ?_)
    · intro y0 y1 y2 y3 y4 y5 y6 y7 y8
      unfold mummerlaw16_FuelMore.j2
      repeat' first
      | (with_reducible exact ih0 _ _ _ _ _ _ _ _)
      | (with_reducible exact ih1 _ _ _ _ _)
      | (with_reducible exact ih2 _ _ _ _ _ _ _ _ _)
      | (with_reducible exact ih3 _ _ _ _ _)
      | (with_reducible exact fuel_Run.mono _ _ _ _)
      | (with_reducible exact mummerlaw16_awake.mono _)
      | (with_reducible exact LeO.refl _)
      | (with_reducible exact LeO.none _)
      | (with_reducible refine LeO.ite ?_ ?_)
      | (with_reducible refine LeO.bind ?_ (fun _ => ?_))
      | exact ih0 _ _ _ _ _ _ _ _
      | exact ih1 _ _ _ _ _
      | exact ih2 _ _ _ _ _ _ _ _ _
      | exact ih3 _ _ _ _ _
      | exact fuel_Run.mono _ _ _ _
      | exact mummerlaw16_awake.mono _
      | exact LeO.none _
      | refine LeO.ite ?_ ?_
      | refine LeO.bind ?_ (fun _ => ?_)
    · intro y0 y1 y2 y3 y4
      unfold mummerlaw16_FuelMore.j3
      repeat' first
      | (with_reducible exact ih0 _ _ _ _ _ _ _ _)
      | (with_reducible exact ih1 _ _ _ _ _)
      | (with_reducible exact ih2 _ _ _ _ _ _ _ _ _)
      | (with_reducible exact ih3 _ _ _ _ _)
      | (with_reducible exact fuel_Run.mono _ _ _ _)
      | (with_reducible exact mummerlaw16_awake.mono _)
      | (with_reducible exact LeO.refl _)
      | (with_reducible exact LeO.none _)
      | (with_reducible refine LeO.ite ?_ ?_)
      | (with_reducible refine LeO.bind ?_ (fun _ => ?_))
      | exact ih0 _ _ _ _ _ _ _ _
      | exact ih1 _ _ _ _ _
      | exact ih2 _ _ _ _ _ _ _ _ _
      | exact ih3 _ _ _ _ _
      | exact fuel_Run.mono _ _ _ _
      | exact mummerlaw16_awake.mono _
      | exact LeO.none _
      | refine LeO.ite ?_ ?_
      | refine LeO.bind ?_ (fun _ => ?_)
theorem mummerlaw16_FuelMore.mono : ∀ a0 a1 a2 k, LeO (mummerlaw16_FuelMore.f k a0 a1 a2) (mummerlaw16_FuelMore.f (k + 1) a0 a1 a2) := by
  intro a0 a1 a2 k
  obtain ⟨ih0, ih1, ih2, ih3⟩ := mummerlaw16_FuelMore.mono_l k
  unfold mummerlaw16_FuelMore.f
  repeat' first
      | (with_reducible exact ih0 _ _ _ _ _ _ _ _)
      | (with_reducible exact ih1 _ _ _ _ _)
      | (with_reducible exact ih2 _ _ _ _ _ _ _ _ _)
      | (with_reducible exact ih3 _ _ _ _ _)
      | (with_reducible exact fuel_Run.mono _ _ _ _)
      | (with_reducible exact mummerlaw16_awake.mono _)
      | (with_reducible exact LeO.refl _)
      | (with_reducible exact LeO.none _)
      | (with_reducible refine LeO.ite ?_ ?_)
      | (with_reducible refine LeO.bind ?_ (fun _ => ?_))
      | exact ih0 _ _ _ _ _ _ _ _
      | exact ih1 _ _ _ _ _
      | exact ih2 _ _ _ _ _ _ _ _ _
      | exact ih3 _ _ _ _ _
      | exact fuel_Run.mono _ _ _ _
      | exact mummerlaw16_awake.mono _
      | exact LeO.none _
      | refine LeO.ite ?_ ?_
      | refine LeO.bind ?_ (fun _ => ?_)
set_option maxHeartbeats 8000000 in
set_option maxRecDepth 100000 in
theorem mummerlaw16_FuelMore.calls (k : Nat) (A0 : Option Addr) (c0 : Nat) (l0 : List (S46)) (a1 : Int) (a2 : Int) (r : Bool) (w : World) (hr0 : Kd.C k46 w A0 l0.length l0) (hc0 : l0.length ≤ c0) (hrt : Aside0 (r = true)) (h : mummerlaw16_FuelMore.f k l0 a1 a2 = some r) :
    Calls Try.prog 4 #[.slice A0 l0.length c0, .int .i64 a1, .int .i64 a2] w fun e w' => e = .returned (.bool r) ∧ Below w.heap.size w w' := by
  have hu24 := Try.underlying24
  have HR0 := ak hr0
  have HC0 := ak hc0
  clear hr0 hc0
  have HB := ak (Below.refl w.heap.size w)
  have H : ((fuel_New.f a1).bind fun bt399 => ((fuel_New.f a2).bind fun bt405 => (if (l0.length : Int) > 100 then (mummerlaw16_FuelMore.j0 k l0 a1 a2 true bt399.1 bt399.2.1 bt405.1 bt405.2.1) else (if bt399.2.2 = 0 then (mummerlaw16_FuelMore.j0 k l0 a1 a2 (bt405.2.2 != 0) bt399.1 bt399.2.1 bt405.1 bt405.2.1) else (mummerlaw16_FuelMore.j0 k l0 a1 a2 true bt399.1 bt399.2.1 bt405.1 bt405.2.1))))) = some r := h
  clear h
  replace H := Option.bind_eq_some_iff.mp H
  obtain ⟨⟨t399, t400, t403⟩, A40, H⟩ := H
  replace H : ((fuel_New.f a2).bind fun bt405 => (if (l0.length : Int) > 100 then (mummerlaw16_FuelMore.j0 k l0 a1 a2 true t399 t400 bt405.1 bt405.2.1) else (if t403 = 0 then (mummerlaw16_FuelMore.j0 k l0 a1 a2 (bt405.2.2 != 0) t399 t400 bt405.1 bt405.2.1) else (mummerlaw16_FuelMore.j0 k l0 a1 a2 true t399 t400 bt405.1 bt405.2.1)))) = some r := H
  have A4 := ak A40
  clear A40
  replace H := Option.bind_eq_some_iff.mp H
  obtain ⟨⟨t405, t406, t409⟩, A50, H⟩ := H
  replace H : (if (l0.length : Int) > 100 then (mummerlaw16_FuelMore.j0 k l0 a1 a2 true t399 t400 t405 t406) else (if t403 = 0 then (mummerlaw16_FuelMore.j0 k l0 a1 a2 (t409 != 0) t399 t400 t405 t406) else (mummerlaw16_FuelMore.j0 k l0 a1 a2 true t399 t400 t405 t406))) = some r := H
  have A5 := ak A50
  clear A50
  have HC6 := ak H
  clear H
  go_enter Try.func4, Try.ntmps4
  go_upto_region 3 with (first | ((with_reducible refine gate_callee (f := 15) rfl ?_); refine goesL_ (some 17) rfl rfl Try.func15 (by kernel_rfl) rfl #[.int .i64 a1] rfl (by (try simp only [List.map_toArray, List.map_cons, List.map_nil]); first | done | rfl | (simp only [List.length_drop, List.length_take]; rfl)) ?_; (with_reducible refine (fuel_New.calls a1 t399 t400 t403 _ A4.out).mono ?_); rintro e w7 ⟨v401, rfl, ho0, hb⟩; refine ⟨_, rfl, ?_⟩; have n0_ := ak (Kd.R_lower ho0 (below_size (by repeat (first | (with_reducible first | exact HB.out | apply wA | apply wN | apply wD) | exact HB.out)))); have n1_ := ak (below_step (by repeat (first | (with_reducible first | exact HB.out | apply wA | apply wN | apply wD) | exact HB.out)) hb); clear HB; have HO402 := n0_; have HB := n1_; clear n0_ n1_; (try clear hb); (try clear hb2); (try clear hk); (try clear hi); (try clear ho0)) | ((with_reducible refine gate_dst (N := 7) rfl ?_); refine box_event ?hg (N := 7) ?hd (cs := #[.int .i64 0, .slice none 0 0]) (t := 24) ?hr ?_; (case hd => rfl); (case hg => rfl); (case hr => first | (go_simp; done) | (go_simp; rfl)); intro gb404 hg w8 hbox hb; have n0_ := ak (Kd.R_below (by (with_reducible repeat (first | apply Kd.R_alloc | apply Kd.R_drewN | apply Kd.R_drew)); exact HO402.out) hb); have n1_ := ak (below_step (by repeat (first | (with_reducible first | exact HB.out | apply wA | apply wN | apply wD) | exact HB.out)) hb); have n2_ := ak (hbox); have n3_ := ak ((by rw [hg]; exact (below_size (by repeat (first | (with_reducible first | exact HB.out | apply wA | apply wN | apply wD) | exact HB.out))) : w.heap.size ≤ gb404)); have n4_ := ak ((by rw [hg]; exact (below_size (by repeat (first | (with_reducible first | exact HB.out | apply wA | apply wN | apply wD) | exact HB.out))) : w.heap.size ≤ gb404)); clear HO402; clear HB; have HO402 := n0_; have HB := n1_; have BK404 := n2_; have GW404 := n3_; have GE404 := n4_; clear n0_ n1_ n2_ n3_ n4_; clear hb hbox hg; have hcz9_0 : w8.cell? ⟨gb404, 0, none⟩ = some (.int .i64 0) := (blk_cell BK404.out 0).trans rfl; have hcz9_1 : w8.cell? ⟨gb404, 1, none⟩ = some (.slice none 0 0) := (blk_cell BK404.out 1).trans rfl; have hfz9_0 := blk_frozen BK404.out 0; have hfz9_1 := blk_frozen BK404.out 1; obtain ⟨Ao10, co10, eo10⟩ := Kd.R_slice HO402.out; subst eo10) | ((with_reducible refine gate_callee (f := 15) rfl ?_); refine goesL_ (some 22) rfl rfl Try.func15 (by kernel_rfl) rfl #[.int .i64 a2] rfl (by (try simp only [List.map_toArray, List.map_cons, List.map_nil]); first | done | rfl | (simp only [List.length_drop, List.length_take]; rfl)) ?_; (with_reducible refine (fuel_New.calls a2 t405 t406 t409 _ A5.out).mono ?_); rintro e w11 ⟨v407, rfl, ho0, hb⟩; refine ⟨_, rfl, ?_⟩; have n0_ := ak (Kd.R_elder' (by (with_reducible repeat (first | apply Kd.R_alloc | apply Kd.R_drewN | apply Kd.R_drew)); exact (Kd.R_mono (Kd.R_far (p := ⟨gb404, 1, none⟩) (Kd.R_far (p := ⟨gb404, 0, none⟩) (Kd.R_types HO402.out BK404.out (by decide)) (fun _ hk => hk.2) (.int .i64 t399)) (fun _ hk => hk.2) (.slice Ao10 t400.length co10)) (fun _ h_ => h_.1))) (Kd.R_base ho0) hb); have n1_ := ak (Kd.R_lower (Kd.R_new' ho0 (Kd.R_lt (by (with_reducible repeat (first | apply Kd.R_alloc | apply Kd.R_drewN | apply Kd.R_drew)); exact (Kd.R_mono (Kd.R_far (p := ⟨gb404, 1, none⟩) (Kd.R_far (p := ⟨gb404, 0, none⟩) (Kd.R_types HO402.out BK404.out (by decide)) (fun _ hk => hk.2) (.int .i64 t399)) (fun _ hk => hk.2) (.slice Ao10 t400.length co10)) (fun _ h_ => h_.1))))) (below_size (by repeat (first | (with_reducible first | exact HB.out | apply wA | apply wN | apply wD | refine below_set ?_ GE404.out) | exact HB.out)))); have n2_ := ak (blk_below (g := gb404) (o := .cells #[.int .i64 t399, .slice Ao10 t400.length co10] 24 (0, 0)) (by (with_reducible repeat (first | refine bN ?_ _ | refine bD ?_ | refine bA ?_ _)); refine blk_put (cs := #[.int .i64 t399, .slice none 0 0]) ?_ 1 _ rfl; (with_reducible repeat (first | refine bN ?_ _ | refine bD ?_ | refine bA ?_ _)); refine blk_put (cs := #[.int .i64 0, .slice none 0 0]) ?_ 0 _ rfl; (with_reducible repeat (first | refine bN ?_ _ | refine bD ?_ | refine bA ?_ _)); exact BK404.out) hb); have n3_ := ak (below_step (by repeat (first | (with_reducible first | exact HB.out | apply wA | apply wN | apply wD | refine below_set ?_ GE404.out) | exact HB.out)) hb); clear HO402; clear BK404; clear HB; have HO402 := n0_; have HO408 := n1_; have BK404 := n2_; have HB := n3_; clear n0_ n1_ n2_ n3_; (try clear hb); (try clear hb2); (try clear hk); (try clear hi); (try clear ho0)) | ((with_reducible refine gate_dst (N := 9) rfl ?_); refine box_event ?hg (N := 9) ?hd (cs := #[.int .i64 0, .slice none 0 0]) (t := 24) ?hr ?_; (case hd => rfl); (case hg => rfl); (case hr => first | (go_simp; done) | (go_simp; rfl)); intro gb410 hg w12 hbox hb; have n0_ := ak (Kd.R_below (by (with_reducible repeat (first | apply Kd.R_alloc | apply Kd.R_drewN | apply Kd.R_drew)); exact HO402.out) hb); have n1_ := ak (Kd.R_below (by (with_reducible repeat (first | apply Kd.R_alloc | apply Kd.R_drewN | apply Kd.R_drew)); exact HO408.out) hb); have n2_ := ak (blk_below (g := gb404) (o := .cells #[.int .i64 t399, .slice Ao10 t400.length co10] 24 (0, 0)) (by (with_reducible repeat (first | refine bN ?_ _ | refine bD ?_ | refine bA ?_ _)); exact BK404.out) hb); have n3_ := ak (below_step (by repeat (first | (with_reducible first | exact HB.out | apply wA | apply wN | apply wD | refine below_set ?_ GE404.out) | exact HB.out)) hb); have n4_ := ak (hbox); have n5_ := ak ((by rw [hg]; exact (below_size (by repeat (first | (with_reducible first | exact HB.out | apply wA | apply wN | apply wD | refine below_set ?_ GE404.out) | exact HB.out))) : w.heap.size ≤ gb410)); have n6_ := ak ((by rw [hg]; exact (below_size (by repeat (first | (with_reducible first | exact HB.out | apply wA | apply wN | apply wD | refine below_set ?_ GE404.out) | exact HB.out))) : w.heap.size ≤ gb410)); have n7_ := ak ((by rw [hg]; exact Nat.ne_of_lt (blk_lt (g := gb404) (o := .cells #[.int .i64 t399, .slice Ao10 t400.length co10] 24 (0, 0)) (by (with_reducible repeat (first | refine bN ?_ _ | refine bD ?_ | refine bA ?_ _)); exact BK404.out)) : gb404 ≠ gb410)); have n8_ := ak ((by rw [hg]; exact Nat.ne_of_gt (blk_lt (g := gb404) (o := .cells #[.int .i64 t399, .slice Ao10 t400.length co10] 24 (0, 0)) (by (with_reducible repeat (first | refine bN ?_ _ | refine bD ?_ | refine bA ?_ _)); exact BK404.out)) : gb410 ≠ gb404)); clear HO402; clear HO408; clear BK404; clear HB; have HO402 := n0_; have HO408 := n1_; have BK404 := n2_; have HB := n3_; have BK410 := n4_; have GW410 := n5_; have GE410 := n6_; have NB404_410 := n7_; have NB410_404 := n8_; clear n0_ n1_ n2_ n3_ n4_ n5_ n6_ n7_ n8_; clear hb hbox hg; have hnb13 := NB410_404.out; have hnc13 := NB404_410.out; have hcz14_0 : w12.cell? ⟨gb410, 0, none⟩ = some (.int .i64 0) := (blk_cell BK410.out 0).trans rfl; have hcz14_1 : w12.cell? ⟨gb410, 1, none⟩ = some (.slice none 0 0) := (blk_cell BK410.out 1).trans rfl; have hfz14_0 := blk_frozen BK410.out 0; have hfz14_1 := blk_frozen BK410.out 1; obtain ⟨Ao15, co15, eo15⟩ := Kd.R_slice HO408.out; subst eo15))
  (try simp only [Act.put, List.setIfInBounds_toArray, List.set_cons_zero, List.set_cons_succ])
  go_cut [35] (fun v35 wc => ∃ (kq : Nat) (x35_5 : Bool), v35 = .bool x35_5 ∧ Aside0 (mummerlaw16_FuelMore.j0 kq l0 a1 a2 x35_5 t399 t400 t405 t406 = some r) ∧ Aside0 (kq ≤ k) ∧ Aside0 (Kd.R (Kd.int .i64) 2 wc w.heap.size (fun k_ => some k_ ≠ ((.slice Ao15 t406.length co15) : Value).ownBlock) (.slice Ao10 t400.length co10) t400) ∧ Aside0 (Kd.R (Kd.int .i64) 2 wc w.heap.size (fun k_ => some k_ ≠ ((.slice Ao10 t400.length co10) : Value).ownBlock) (.slice Ao15 t406.length co15) t406) ∧ Aside0 (wc.heap[gb404]? = some (.cells #[.int .i64 t399, (.slice Ao10 t400.length co10)] 24 (0, 0))) ∧ Aside0 (wc.heap[gb410]? = some (.cells #[.int .i64 t405, (.slice Ao15 t406.length co15)] 24 (0, 0))) ∧ Aside0 (Below w.heap.size w wc))
  case first =>
    have H := HC6.out
    clear HC6
    by_cases c16 : (l0.length : Int) > 100
    · rw [if_pos c16] at H
      have c16b0 : decide (100 < (l0.length : Int)) = true := decide_eq_true c16
      have c16b1 : decide (100 < l0.length) = true := decide_eq_true (by omega)
      clear c16
      (first | rw [c16b0] | (simp only [i64_w, i32_w]; rw [c16b0]) | skip)
      have H' := ak H
      clear H
      go_wp2
      go_meet
      case rel => exact ⟨_, (true), (by first | rfl | (simp; done) | (simp [*]; done)), H', ⟨by first | omega | exact Nat.le_refl _⟩, ⟨by (with_reducible repeat (first | apply Kd.R_alloc | apply Kd.R_drewN | apply Kd.R_drew)); exact Kd.R_mono (Kd.R_far (p := ⟨gb410, 1, none⟩) (Kd.R_far (p := ⟨gb410, 0, none⟩) (Kd.R_types HO402.out BK410.out (by decide)) (fun _ hk => hk.2) (.int .i64 t405)) (fun _ hk => hk.2) (.slice Ao15 t406.length co15)) (fun _ hk => hk.1.2)⟩, ⟨by (with_reducible repeat (first | apply Kd.R_alloc | apply Kd.R_drewN | apply Kd.R_drew)); exact Kd.R_mono (Kd.R_far (p := ⟨gb410, 1, none⟩) (Kd.R_far (p := ⟨gb410, 0, none⟩) (Kd.R_types HO408.out BK410.out (by decide)) (fun _ hk => hk.2) (.int .i64 t405)) (fun _ hk => hk.2) (.slice Ao15 t406.length co15)) (fun _ hk => hk.1.2)⟩, ⟨by (with_reducible repeat (first | refine bN ?_ _ | refine bD ?_ | refine bA ?_ _)); refine blk_far ?_ NB404_410.out _; (with_reducible repeat (first | refine bN ?_ _ | refine bD ?_ | refine bA ?_ _)); refine blk_far ?_ NB404_410.out _; (with_reducible repeat (first | refine bN ?_ _ | refine bD ?_ | refine bA ?_ _)); exact BK404.out⟩, ⟨by (with_reducible repeat (first | refine bN ?_ _ | refine bD ?_ | refine bA ?_ _)); refine blk_put (cs := #[.int .i64 t405, .slice none 0 0]) ?_ 1 _ rfl; (with_reducible repeat (first | refine bN ?_ _ | refine bD ?_ | refine bA ?_ _)); refine blk_put (cs := #[.int .i64 0, .slice none 0 0]) ?_ 0 _ rfl; (with_reducible repeat (first | refine bN ?_ _ | refine bD ?_ | refine bA ?_ _)); exact BK410.out⟩, ⟨by repeat (first | (with_reducible first | exact HB.out | apply wA | apply wN | apply wD | refine below_set ?_ GE404.out | refine below_set ?_ GE410.out) | exact HB.out)⟩⟩
    · rw [if_neg c16] at H
      have c16b0 : decide (100 < (l0.length : Int)) = false := decide_eq_false c16
      have c16b1 : decide (100 < l0.length) = false := decide_eq_false (by omega)
      clear c16
      (first | rw [c16b0] | (simp only [i64_w, i32_w]; rw [c16b0]) | skip)
      by_cases c17 : t403 = 0
      · rw [if_pos c17] at H
        have c17b0 : (t403 == 0) = true := beq_iff_eq.mpr c17
        have c17b1 : (t403 != 0) = false := bne_eq_false_iff_eq.mpr c17
        clear c17
        have H' := ak H
        clear H
        go_wp2
        go_meet
        case rel => exact ⟨_, ((t409 != 0)), (by first | rfl | (simp; done) | (simp [*]; done)), H', ⟨by first | omega | exact Nat.le_refl _⟩, ⟨by (with_reducible repeat (first | apply Kd.R_alloc | apply Kd.R_drewN | apply Kd.R_drew)); exact Kd.R_mono (Kd.R_far (p := ⟨gb410, 1, none⟩) (Kd.R_far (p := ⟨gb410, 0, none⟩) (Kd.R_types HO402.out BK410.out (by decide)) (fun _ hk => hk.2) (.int .i64 t405)) (fun _ hk => hk.2) (.slice Ao15 t406.length co15)) (fun _ hk => hk.1.2)⟩, ⟨by (with_reducible repeat (first | apply Kd.R_alloc | apply Kd.R_drewN | apply Kd.R_drew)); exact Kd.R_mono (Kd.R_far (p := ⟨gb410, 1, none⟩) (Kd.R_far (p := ⟨gb410, 0, none⟩) (Kd.R_types HO408.out BK410.out (by decide)) (fun _ hk => hk.2) (.int .i64 t405)) (fun _ hk => hk.2) (.slice Ao15 t406.length co15)) (fun _ hk => hk.1.2)⟩, ⟨by (with_reducible repeat (first | refine bN ?_ _ | refine bD ?_ | refine bA ?_ _)); refine blk_far ?_ NB404_410.out _; (with_reducible repeat (first | refine bN ?_ _ | refine bD ?_ | refine bA ?_ _)); refine blk_far ?_ NB404_410.out _; (with_reducible repeat (first | refine bN ?_ _ | refine bD ?_ | refine bA ?_ _)); exact BK404.out⟩, ⟨by (with_reducible repeat (first | refine bN ?_ _ | refine bD ?_ | refine bA ?_ _)); refine blk_put (cs := #[.int .i64 t405, .slice none 0 0]) ?_ 1 _ rfl; (with_reducible repeat (first | refine bN ?_ _ | refine bD ?_ | refine bA ?_ _)); refine blk_put (cs := #[.int .i64 0, .slice none 0 0]) ?_ 0 _ rfl; (with_reducible repeat (first | refine bN ?_ _ | refine bD ?_ | refine bA ?_ _)); exact BK410.out⟩, ⟨by repeat (first | (with_reducible first | exact HB.out | apply wA | apply wN | apply wD | refine below_set ?_ GE404.out | refine below_set ?_ GE410.out) | exact HB.out)⟩⟩
      · rw [if_neg c17] at H
        have c17b0 : (t403 == 0) = false := beq_eq_false_iff_ne.mpr c17
        have c17b1 : (t403 != 0) = true := bne_iff_ne.mpr c17
        have H' := ak H
        clear H
        go_wp2
        go_meet
        case rel => exact ⟨_, (true), (by first | rfl | (simp; done) | (simp [*]; done)), H', ⟨by first | omega | exact Nat.le_refl _⟩, ⟨by (with_reducible repeat (first | apply Kd.R_alloc | apply Kd.R_drewN | apply Kd.R_drew)); exact Kd.R_mono (Kd.R_far (p := ⟨gb410, 1, none⟩) (Kd.R_far (p := ⟨gb410, 0, none⟩) (Kd.R_types HO402.out BK410.out (by decide)) (fun _ hk => hk.2) (.int .i64 t405)) (fun _ hk => hk.2) (.slice Ao15 t406.length co15)) (fun _ hk => hk.1.2)⟩, ⟨by (with_reducible repeat (first | apply Kd.R_alloc | apply Kd.R_drewN | apply Kd.R_drew)); exact Kd.R_mono (Kd.R_far (p := ⟨gb410, 1, none⟩) (Kd.R_far (p := ⟨gb410, 0, none⟩) (Kd.R_types HO408.out BK410.out (by decide)) (fun _ hk => hk.2) (.int .i64 t405)) (fun _ hk => hk.2) (.slice Ao15 t406.length co15)) (fun _ hk => hk.1.2)⟩, ⟨by (with_reducible repeat (first | refine bN ?_ _ | refine bD ?_ | refine bA ?_ _)); refine blk_far ?_ NB404_410.out _; (with_reducible repeat (first | refine bN ?_ _ | refine bD ?_ | refine bA ?_ _)); refine blk_far ?_ NB404_410.out _; (with_reducible repeat (first | refine bN ?_ _ | refine bD ?_ | refine bA ?_ _)); exact BK404.out⟩, ⟨by (with_reducible repeat (first | refine bN ?_ _ | refine bD ?_ | refine bA ?_ _)); refine blk_put (cs := #[.int .i64 t405, .slice none 0 0]) ?_ 1 _ rfl; (with_reducible repeat (first | refine bN ?_ _ | refine bD ?_ | refine bA ?_ _)); refine blk_put (cs := #[.int .i64 0, .slice none 0 0]) ?_ 0 _ rfl; (with_reducible repeat (first | refine bN ?_ _ | refine bD ?_ | refine bA ?_ _)); exact BK410.out⟩, ⟨by repeat (first | (with_reducible first | exact HB.out | apply wA | apply wN | apply wD | refine below_set ?_ GE404.out | refine below_set ?_ GE410.out) | exact HB.out)⟩⟩
  case rest =>
    clear HC6
    try clear c1
    try clear p2
    try clear c4
    try clear c13
    try clear c15
    try clear c16
    try clear c16b0
    try clear c16b1
    try clear c17
    try clear c17b0
    try clear c17b1
    try clear hcz14_0
    try clear hcz14_1
    try clear hcz9_0
    try clear hcz9_1
    try clear hfz14_0
    try clear hfz14_1
    try clear hfz9_0
    try clear hfz9_1
    obtain ⟨kq, x35_5, rfl, HA, HJ5, HO_405001, HO_411001, BK404, BK410, HB⟩ := hcut
    cases kq with
    | zero => exact absurd HA.out (by simp [mummerlaw16_FuelMore.j0])
    | succ kj5 =>
      have H := HA.out
      clear HA
      simp only [mummerlaw16_FuelMore.j0] at H
      by_cases c18 : x35_5 = true
      · subst c18
        have H1 : ((mummerlaw16_awake.f kj5).bind fun t411 => (some t411)) = some r := by rw [if_pos rfl] at H; exact H
        clear H
        have H := H1
        clear H1
        replace H := Option.bind_eq_some_iff.mp H
        obtain ⟨t411, A190, H⟩ := H
        replace H : (some t411) = some r := H
        have A19 := ak A190
        clear A190
        obtain rfl := Option.some.inj H
        go_wp2_with (first | ((with_reducible refine gate_callee (f := 9) rfl ?_); refine goesL_ (some 36) rfl rfl Try.func9 (by kernel_rfl) rfl #[] rfl (by (try simp only [List.map_toArray, List.map_cons, List.map_nil]); first | done | rfl | (simp only [List.length_drop, List.length_take]; rfl)) ?_; (with_reducible refine (mummerlaw16_awake.calls kj5  t411 _ hrt A19.out).mono ?_); rintro e w20 ⟨rfl, hb⟩; refine ⟨_, rfl, ?_⟩; have n0_ := ak (Kd.R_below (by (with_reducible repeat (first | apply Kd.R_alloc | apply Kd.R_drewN | apply Kd.R_drew)); exact HO_405001.out) hb); have n1_ := ak (Kd.R_below (by (with_reducible repeat (first | apply Kd.R_alloc | apply Kd.R_drewN | apply Kd.R_drew)); exact HO_411001.out) hb); have n2_ := ak (blk_below (g := gb404) (o := .cells #[.int .i64 t399, .slice Ao10 t400.length co10] 24 (0, 0)) (by (with_reducible repeat (first | refine bN ?_ _ | refine bD ?_ | refine bA ?_ _)); exact BK404.out) hb); have n3_ := ak (blk_below (g := gb410) (o := .cells #[.int .i64 t405, .slice Ao15 t406.length co15] 24 (0, 0)) (by (with_reducible repeat (first | refine bN ?_ _ | refine bD ?_ | refine bA ?_ _)); exact BK410.out) hb); have n4_ := ak (below_step (by repeat (first | (with_reducible first | exact HB.out | apply wA | apply wN | apply wD | refine below_set ?_ GE404.out | refine below_set ?_ GE410.out) | exact HB.out)) hb); clear HO_405001; clear HO_411001; clear BK404; clear BK410; clear HB; have HO_405001 := n0_; have HO_411001 := n1_; have BK404 := n2_; have BK410 := n3_; have HB := n4_; clear n0_ n1_ n2_ n3_ n4_; (try clear hb); (try clear hb2); (try clear hk); (try clear hi)))
        go_ret
        exact ⟨by first | rfl | (simp [errW_none, errW_some] <;> rfl) | (simp [*, errW_none, errW_some] <;> rfl), by repeat (first | (with_reducible first | exact HB.out | apply wA | apply wN | apply wD | refine below_set ?_ GE404.out | refine below_set ?_ GE410.out) | exact HB.out)⟩
      · replace c18 := Bool.eq_false_iff.mpr c18
        subst c18
        have H1 : (if a2 < a1 then (mummerlaw16_FuelMore.j1 kj5 l0 t405 t406 t399 t400) else (mummerlaw16_FuelMore.j1 kj5 l0 t399 t400 t405 t406)) = some r := by rw [if_neg (show ¬ (false = true) by decide)] at H; exact H
        clear H
        have H := H1
        clear H1
        have HC21 := ak H
        clear H
        go_upto_if 39 with (fail)
        go_cut [] (fun wc => ∃ (kq : Nat) (x405000_20 : Int) (x405001_20 : List Int) (x411000_20 : Int) (x411001_20 : List Int) (u405001 : Value) (u411001 : Value), Aside0 (mummerlaw16_FuelMore.j1 kq l0 x405000_20 x405001_20 x411000_20 x411001_20 = some r) ∧ Aside0 (kq ≤ kj5) ∧ Aside0 (Kd.R (Kd.int .i64) 2 wc w.heap.size (fun k_ => some k_ ≠ (u411001 : Value).ownBlock) u405001 x405001_20) ∧ Aside0 (Kd.R (Kd.int .i64) 2 wc w.heap.size (fun k_ => some k_ ≠ (u405001 : Value).ownBlock) u411001 x411001_20) ∧ Aside0 (wc.heap[gb404]? = some (.cells #[.int .i64 x405000_20, u405001] 24 (0, 0))) ∧ Aside0 (wc.heap[gb410]? = some (.cells #[.int .i64 x411000_20, u411001] 24 (0, 0))) ∧ Aside0 (Below w.heap.size w wc))
        case first =>
          have H := HC21.out
          clear HC21
          by_cases c22 : a2 < a1
          · rw [if_pos c22] at H
            have c22b0 : decide (a2 < a1) = true := decide_eq_true c22
            clear c22
            (first | rw [c22b0] | (simp only [i64_w, i32_w]; rw [c22b0]) | skip)
            have H' := ak H
            clear H
            have hnb23 := NB410_404.out
            have hnc23 := NB404_410.out
            have hcz24_0 : wc.cell? ⟨gb410, 0, none⟩ = some (.int .i64 t405) := (blk_cell BK410.out 0).trans rfl
            have hcz24_1 : wc.cell? ⟨gb410, 1, none⟩ = some (.slice Ao15 t406.length co15) := (blk_cell BK410.out 1).trans rfl
            have hfz24_0 := blk_frozen BK410.out 0
            have hfz24_1 := blk_frozen BK410.out 1
            have hcz25_0 : wc.cell? ⟨gb404, 0, none⟩ = some (.int .i64 t399) := (blk_cell BK404.out 0).trans rfl
            have hcz25_1 : wc.cell? ⟨gb404, 1, none⟩ = some (.slice Ao10 t400.length co10) := (blk_cell BK404.out 1).trans rfl
            have hfz25_0 := blk_frozen BK404.out 0
            have hfz25_1 := blk_frozen BK404.out 1
            go_wp2
            go_meet
            case rel => exact ⟨_, (t405), (t406), (t399), (t400), (.slice Ao15 t406.length co15), (.slice Ao10 t400.length co10), H', ⟨by have := HJ5.out; first | omega | exact Nat.le_refl _⟩, ⟨by (with_reducible repeat (first | apply Kd.R_alloc | apply Kd.R_drewN | apply Kd.R_drew)); exact Kd.R_mono (Kd.R_far (p := ⟨gb410, 1, none⟩) (Kd.R_far (p := ⟨gb410, 0, none⟩) (Kd.R_far (p := ⟨gb404, 1, none⟩) (Kd.R_far (p := ⟨gb404, 0, none⟩) (Kd.R_types (Kd.R_types HO_411001.out BK404.out (by decide)) BK410.out (by decide)) (fun _ hk => hk.1.2) (.int .i64 t405)) (fun _ hk => hk.1.2) (.slice Ao15 t406.length co15)) (fun _ hk => hk.2) (.int .i64 t399)) (fun _ hk => hk.2) (.slice Ao10 t400.length co10)) (fun _ hk => by first | exact hk.1.1 | exact hk.1 | exact hk)⟩, ⟨by (with_reducible repeat (first | apply Kd.R_alloc | apply Kd.R_drewN | apply Kd.R_drew)); exact Kd.R_mono (Kd.R_far (p := ⟨gb410, 1, none⟩) (Kd.R_far (p := ⟨gb410, 0, none⟩) (Kd.R_far (p := ⟨gb404, 1, none⟩) (Kd.R_far (p := ⟨gb404, 0, none⟩) (Kd.R_types (Kd.R_types HO_405001.out BK404.out (by decide)) BK410.out (by decide)) (fun _ hk => hk.1.2) (.int .i64 t405)) (fun _ hk => hk.1.2) (.slice Ao15 t406.length co15)) (fun _ hk => hk.2) (.int .i64 t399)) (fun _ hk => hk.2) (.slice Ao10 t400.length co10)) (fun _ hk => by first | exact hk.1.1 | exact hk.1 | exact hk)⟩, ⟨by (with_reducible repeat (first | refine bN ?_ _ | refine bD ?_ | refine bA ?_ _)); refine blk_far ?_ NB404_410.out _; (with_reducible repeat (first | refine bN ?_ _ | refine bD ?_ | refine bA ?_ _)); refine blk_far ?_ NB404_410.out _; (with_reducible repeat (first | refine bN ?_ _ | refine bD ?_ | refine bA ?_ _)); refine blk_put (cs := #[.int .i64 t405, .slice Ao10 t400.length co10]) ?_ 1 _ rfl; (with_reducible repeat (first | refine bN ?_ _ | refine bD ?_ | refine bA ?_ _)); refine blk_put (cs := #[.int .i64 t399, .slice Ao10 t400.length co10]) ?_ 0 _ rfl; (with_reducible repeat (first | refine bN ?_ _ | refine bD ?_ | refine bA ?_ _)); exact BK404.out⟩, ⟨by (with_reducible repeat (first | refine bN ?_ _ | refine bD ?_ | refine bA ?_ _)); refine blk_put (cs := #[.int .i64 t399, .slice Ao15 t406.length co15]) ?_ 1 _ rfl; (with_reducible repeat (first | refine bN ?_ _ | refine bD ?_ | refine bA ?_ _)); refine blk_put (cs := #[.int .i64 t405, .slice Ao15 t406.length co15]) ?_ 0 _ rfl; (with_reducible repeat (first | refine bN ?_ _ | refine bD ?_ | refine bA ?_ _)); refine blk_far ?_ NB410_404.out _; (with_reducible repeat (first | refine bN ?_ _ | refine bD ?_ | refine bA ?_ _)); refine blk_far ?_ NB410_404.out _; (with_reducible repeat (first | refine bN ?_ _ | refine bD ?_ | refine bA ?_ _)); exact BK410.out⟩, ⟨by repeat (first | (with_reducible first | exact HB.out | apply wA | apply wN | apply wD | refine below_set ?_ GE404.out | refine below_set ?_ GE410.out) | exact HB.out)⟩⟩
          · rw [if_neg c22] at H
            have c22b0 : decide (a2 < a1) = false := decide_eq_false c22
            clear c22
            (first | rw [c22b0] | (simp only [i64_w, i32_w]; rw [c22b0]) | skip)
            have H' := ak H
            clear H
            go_wp2
            go_meet
            case rel => exact ⟨_, (t399), (t400), (t405), (t406), (.slice Ao10 t400.length co10), (.slice Ao15 t406.length co15), H', ⟨by have := HJ5.out; first | omega | exact Nat.le_refl _⟩, ⟨by (with_reducible repeat (first | apply Kd.R_alloc | apply Kd.R_drewN | apply Kd.R_drew)); exact HO_405001.out⟩, ⟨by (with_reducible repeat (first | apply Kd.R_alloc | apply Kd.R_drewN | apply Kd.R_drew)); exact HO_411001.out⟩, ⟨by (with_reducible repeat (first | refine bN ?_ _ | refine bD ?_ | refine bA ?_ _)); exact BK404.out⟩, ⟨by (with_reducible repeat (first | refine bN ?_ _ | refine bD ?_ | refine bA ?_ _)); exact BK410.out⟩, ⟨by repeat (first | (with_reducible first | exact HB.out | apply wA | apply wN | apply wD | refine below_set ?_ GE404.out | refine below_set ?_ GE410.out) | exact HB.out)⟩⟩
        case rest =>
          clear HC21
          try clear c1
          try clear c2
          try clear p2
          try clear c4
          try clear c9
          try clear c13
          try clear c15
          try clear c16
          try clear c16b0
          try clear c16b1
          try clear c17
          try clear c17b0
          try clear c17b1
          try clear c18
          try clear c22
          try clear c22b0
          try clear c23
          try clear hcz14_0
          try clear hcz14_1
          try clear hcz24_0
          try clear hcz24_1
          try clear hcz25_0
          try clear hcz25_1
          try clear hcz9_0
          try clear hcz9_1
          try clear hfz14_0
          try clear hfz14_1
          try clear hfz24_0
          try clear hfz24_1
          try clear hfz25_0
          try clear hfz25_1
          try clear hfz9_0
          try clear hfz9_1
          try clear p2
          obtain ⟨kq, x405000_20, x405001_20, x411000_20, x411001_20, u405001, u411001, HA, HJ20, HO_405001, HO_411001, BK404, BK410, HB⟩ := hcut
          cases kq with
          | zero => exact absurd HA.out (by simp [mummerlaw16_FuelMore.j1])
          | succ kj20 =>
            have H := HA.out
            clear HA
            simp only [mummerlaw16_FuelMore.j1] at H
            replace H := Option.bind_eq_some_iff.mp H
            obtain ⟨⟨t412, t413, t416, t417⟩, A260, H⟩ := H
            replace H : ((fuel_Run.f kj20 x411000_20 x411001_20 l0).bind fun bt419 => (if bt419.2.2.1 < t416 then (mummerlaw16_FuelMore.j2 kj20 t417 bt419.2.2.2 t416 bt419.2.2.1 true t412 t413 bt419.1 bt419.2.1) else (mummerlaw16_FuelMore.j2 kj20 t417 bt419.2.2.2 t416 bt419.2.2.1 (decide (t412 > bt419.1)) t412 t413 bt419.1 bt419.2.1))) = some r := H
            have A26 := ak A260
            clear A260
            replace H := Option.bind_eq_some_iff.mp H
            obtain ⟨⟨t419, t420, t423, t424⟩, A270, H⟩ := H
            replace H : (if t423 < t416 then (mummerlaw16_FuelMore.j2 kj20 t417 t424 t416 t423 true t412 t413 t419 t420) else (mummerlaw16_FuelMore.j2 kj20 t417 t424 t416 t423 (decide (t412 > t419)) t412 t413 t419 t420)) = some r := H
            have A27 := ak A270
            clear A270
            have HC28 := ak H
            clear H
            have hnb29 := NB404_410.out
            have hnc29 := NB410_404.out
            have hcz30_0 : wc.cell? ⟨gb404, 0, none⟩ = some (.int .i64 x405000_20) := (blk_cell BK404.out 0).trans rfl
            have hcz30_1 : wc.cell? ⟨gb404, 1, none⟩ = some (u405001) := (blk_cell BK404.out 1).trans rfl
            have hfz30_0 := blk_frozen BK404.out 0
            have hfz30_1 := blk_frozen BK404.out 1
            obtain ⟨Ao31, co31, eo31⟩ := Kd.R_slice HO_405001.out
            subst eo31
            go_upto_region 9 with (first | ((with_reducible refine gate_callee (f := 10) rfl ?_); refine goesL_ (some 45) rfl rfl Try.func10 (by kernel_rfl) rfl #[.agg #[.int .i64 x405000_20, .slice Ao31 x405001_20.length co31], .slice A0 l0.length c0] rfl (by (try simp only [List.map_toArray, List.map_cons, List.map_nil]); first | done | rfl | (simp only [List.length_drop, List.length_take]; rfl)) ?_; (with_reducible refine (fuel_Run.calls kj20 x405000_20 (fun k_ => some k_ = (.slice Ao31 x405001_20.length co31 : Value).ownBlock) _ _ x405001_20 _ _ l0 t412 t413 t416 t417 _ ?side1 ?side2 ?side3 A26.out).mono ?_); (case side1 => exact Kd.R_V (Kd.R_tight rfl (Kd.R_types (Kd.R_types (HO_405001.out) BK404.out (by decide)) BK410.out (by decide)))); (case side2 => repeat (first | exact (Kd.C_below HR0.out HB.out) | (with_reducible refine Kd.C_alloc ?_ _) | (with_reducible refine Kd.C_drewN ?_ _) | (with_reducible refine Kd.C_drew ?_))); (case side3 => exact HC0.out); rintro e w32 ⟨v414, rfl, ho0, hb⟩; refine ⟨_, rfl, ?_⟩; have n0_ := ak (Kd.R_below (by (with_reducible repeat (first | apply Kd.R_alloc | apply Kd.R_drewN | apply Kd.R_drew)); exact HO_405001.out) hb); have n1_ := ak (Kd.R_below (by (with_reducible repeat (first | apply Kd.R_alloc | apply Kd.R_drewN | apply Kd.R_drew)); exact HO_411001.out) hb); have n2_ := ak (Kd.V_lower (Kd.V_mono (ok' := fun k_ => some k_ ≠ (u411001 : Value).ownBlock ∧ k_ ≠ gb404 ∧ k_ ≠ gb410) ho0 (fun k_ hk_ => ⟨Or.elim hk_ (fun hs_ => ((Kd.R_types (Kd.R_types (HO_405001.out) BK404.out (by decide)) BK410.out (by decide)).1 k_ hs_.symm).1.1) (fun hn_ => (Kd.fresh' (Kd.R_lt (by (with_reducible repeat (first | apply Kd.R_alloc | apply Kd.R_drewN | apply Kd.R_drew)); exact HO_411001.out)) k_ hn_)), Or.elim hk_ (fun hs_ => ((Kd.R_types (Kd.R_types (HO_405001.out) BK404.out (by decide)) BK410.out (by decide)).1 k_ hs_.symm).1.2) (fun hn_ => (Kd.freshB (g := gb404) (o := .cells #[.int .i64 x405000_20, .slice Ao31 x405001_20.length co31] 24 (0, 0)) (by (with_reducible repeat (first | refine bN ?_ _ | refine bD ?_ | refine bA ?_ _)); exact BK404.out) k_ hn_)), Or.elim hk_ (fun hs_ => ((Kd.R_types (Kd.R_types (HO_405001.out) BK404.out (by decide)) BK410.out (by decide)).1 k_ hs_.symm).2) (fun hn_ => (Kd.freshB (g := gb410) (o := .cells #[.int .i64 x411000_20, u411001] 24 (0, 0)) (by (with_reducible repeat (first | refine bN ?_ _ | refine bD ?_ | refine bA ?_ _)); exact BK410.out) k_ hn_))⟩)) (below_size (by repeat (first | (with_reducible first | exact HB.out | apply wA | apply wN | apply wD | refine below_set ?_ GE404.out | refine below_set ?_ GE410.out) | exact HB.out)))); have n3_ := ak (blk_below (g := gb404) (o := .cells #[.int .i64 x405000_20, .slice Ao31 x405001_20.length co31] 24 (0, 0)) (by (with_reducible repeat (first | refine bN ?_ _ | refine bD ?_ | refine bA ?_ _)); exact BK404.out) hb); have n4_ := ak (blk_below (g := gb410) (o := .cells #[.int .i64 x411000_20, u411001] 24 (0, 0)) (by (with_reducible repeat (first | refine bN ?_ _ | refine bD ?_ | refine bA ?_ _)); exact BK410.out) hb); have n5_ := ak (below_step (by repeat (first | (with_reducible first | exact HB.out | apply wA | apply wN | apply wD | refine below_set ?_ GE404.out | refine below_set ?_ GE410.out) | exact HB.out)) hb); clear HO_405001; clear HO_411001; clear BK404; clear BK410; clear HB; have HO_405001 := n0_; have HO_411001 := n1_; have HO415 := n2_; have BK404 := n3_; have BK410 := n4_; have HB := n5_; clear n0_ n1_ n2_ n3_ n4_ n5_; (try clear hb); (try clear hb2); (try clear hk); (try clear hi); (try clear ho0)) | ((with_reducible refine gate_dst (N := 11) rfl ?_); refine box_event ?hg (N := 11) ?hd (cs := #[.int .i64 0, .slice none 0 0]) (t := 24) ?hr ?_; (case hd => rfl); (case hg => rfl); (case hr => first | (go_simp; done) | (go_simp; rfl)); intro gb418 hg w33 hbox hb; have n0_ := ak (Kd.R_below (by (with_reducible repeat (first | apply Kd.R_alloc | apply Kd.R_drewN | apply Kd.R_drew)); exact HO_405001.out) hb); have n1_ := ak (Kd.R_below (by (with_reducible repeat (first | apply Kd.R_alloc | apply Kd.R_drewN | apply Kd.R_drew)); exact HO_411001.out) hb); have n2_ := ak (Kd.V_below (Kd.V_elderB (by (with_reducible repeat (first | apply vA | apply vN | apply vD)); exact HO415.out) gb418 (Nat.le_of_eq hg.symm)) hb); have n3_ := ak (blk_below (g := gb404) (o := .cells #[.int .i64 x405000_20, .slice Ao31 x405001_20.length co31] 24 (0, 0)) (by (with_reducible repeat (first | refine bN ?_ _ | refine bD ?_ | refine bA ?_ _)); exact BK404.out) hb); have n4_ := ak (blk_below (g := gb410) (o := .cells #[.int .i64 x411000_20, u411001] 24 (0, 0)) (by (with_reducible repeat (first | refine bN ?_ _ | refine bD ?_ | refine bA ?_ _)); exact BK410.out) hb); have n5_ := ak (below_step (by repeat (first | (with_reducible first | exact HB.out | apply wA | apply wN | apply wD | refine below_set ?_ GE404.out | refine below_set ?_ GE410.out) | exact HB.out)) hb); have n6_ := ak (hbox); have n7_ := ak ((by rw [hg]; exact (below_size (by repeat (first | (with_reducible first | exact HB.out | apply wA | apply wN | apply wD | refine below_set ?_ GE404.out | refine below_set ?_ GE410.out) | exact HB.out))) : w.heap.size ≤ gb418)); have n8_ := ak ((by rw [hg]; exact (below_size (by repeat (first | (with_reducible first | exact HB.out | apply wA | apply wN | apply wD | refine below_set ?_ GE404.out | refine below_set ?_ GE410.out) | exact HB.out))) : w.heap.size ≤ gb418)); have n9_ := ak ((by rw [hg]; exact Nat.ne_of_lt (blk_lt (g := gb404) (o := .cells #[.int .i64 x405000_20, .slice Ao31 x405001_20.length co31] 24 (0, 0)) (by (with_reducible repeat (first | refine bN ?_ _ | refine bD ?_ | refine bA ?_ _)); exact BK404.out)) : gb404 ≠ gb418)); have n10_ := ak ((by rw [hg]; exact Nat.ne_of_gt (blk_lt (g := gb404) (o := .cells #[.int .i64 x405000_20, .slice Ao31 x405001_20.length co31] 24 (0, 0)) (by (with_reducible repeat (first | refine bN ?_ _ | refine bD ?_ | refine bA ?_ _)); exact BK404.out)) : gb418 ≠ gb404)); have n11_ := ak ((by rw [hg]; exact Nat.ne_of_lt (blk_lt (g := gb410) (o := .cells #[.int .i64 x411000_20, u411001] 24 (0, 0)) (by (with_reducible repeat (first | refine bN ?_ _ | refine bD ?_ | refine bA ?_ _)); exact BK410.out)) : gb410 ≠ gb418)); have n12_ := ak ((by rw [hg]; exact Nat.ne_of_gt (blk_lt (g := gb410) (o := .cells #[.int .i64 x411000_20, u411001] 24 (0, 0)) (by (with_reducible repeat (first | refine bN ?_ _ | refine bD ?_ | refine bA ?_ _)); exact BK410.out)) : gb418 ≠ gb410)); clear HO_405001; clear HO_411001; clear HO415; clear BK404; clear BK410; clear HB; have HO_405001 := n0_; have HO_411001 := n1_; have HO415 := n2_; have BK404 := n3_; have BK410 := n4_; have HB := n5_; have BK418 := n6_; have GW418 := n7_; have GE418 := n8_; have NB404_418 := n9_; have NB418_404 := n10_; have NB410_418 := n11_; have NB418_410 := n12_; clear n0_ n1_ n2_ n3_ n4_ n5_ n6_ n7_ n8_ n9_ n10_ n11_ n12_; clear hb hbox hg; have hnb34 := NB418_404.out; have hnc34 := NB404_418.out; have hnb35 := NB418_410.out; have hnc35 := NB410_418.out; have hcz36_0 : w33.cell? ⟨gb418, 0, none⟩ = some (.int .i64 0) := (blk_cell BK418.out 0).trans rfl; have hcz36_1 : w33.cell? ⟨gb418, 1, none⟩ = some (.slice none 0 0) := (blk_cell BK418.out 1).trans rfl; have hfz36_0 := blk_frozen BK418.out 0; have hfz36_1 := blk_frozen BK418.out 1; obtain ⟨Ao37, co37, eo37⟩ := Kd.V_slice HO415.out; subst eo37) | ((with_reducible refine gate_store (t := 24) (p := 11) rfl ?_); refine store_event (t := 24) (p := 11) (v := ?vo_w38) (w1 := ((w33.setCell ⟨gb418, 0, none⟩ (.int .i64 t412)).setCell ⟨gb418, 1, none⟩ (.slice Ao37 t413.length co37))) ?hg ?ho ?hn ?hr ?_; (case ho => rfl); (case hg => rfl); (case hn => rfl); (case hr => first | (go_simp; done) | (go_simp; rfl)); intro w38 hw; have n0_ : Aside0 (Kd.R (Kd.int .i64) 2 w38 w.heap.size (fun k_ => some k_ ≠ (u411001 : Value).ownBlock) (.slice Ao31 x405001_20.length co31) x405001_20) := ⟨(by rw [hw]; exact (by (with_reducible repeat (first | apply Kd.R_alloc | apply Kd.R_drewN | apply Kd.R_drew)); exact Kd.R_mono (Kd.R_far (p := ⟨gb418, 1, none⟩) (Kd.R_far (p := ⟨gb418, 0, none⟩) (Kd.R_types HO_405001.out BK418.out (by decide)) (fun _ hk => hk.2) (.int .i64 t412)) (fun _ hk => hk.2) (.slice Ao37 t413.length co37)) (fun _ hk => by first | exact hk.1 | exact hk)))⟩; have n1_ : Aside0 (Kd.R (Kd.int .i64) 2 w38 w.heap.size (fun k_ => some k_ ≠ (.slice Ao31 x405001_20.length co31 : Value).ownBlock) u411001 x411001_20) := ⟨(by rw [hw]; exact (by (with_reducible repeat (first | apply Kd.R_alloc | apply Kd.R_drewN | apply Kd.R_drew)); exact Kd.R_mono (Kd.R_far (p := ⟨gb418, 1, none⟩) (Kd.R_far (p := ⟨gb418, 0, none⟩) (Kd.R_types HO_411001.out BK418.out (by decide)) (fun _ hk => hk.2) (.int .i64 t412)) (fun _ hk => hk.2) (.slice Ao37 t413.length co37)) (fun _ hk => by first | exact hk.1 | exact hk)))⟩; have n2_ : Aside0 (Kd.V (Kd.int .i64) 2 w38 w.heap.size (fun k_ => some k_ ≠ (u411001 : Value).ownBlock ∧ k_ ≠ gb404 ∧ k_ ≠ gb410 ∧ k_ ≠ gb418) (.slice Ao37 t413.length co37) t413) := ⟨(by rw [hw]; exact (by (with_reducible repeat (first | apply vA | apply vN | apply vD)); exact Kd.V_mono (Kd.V_far (p := ⟨gb418, 1, none⟩) (Kd.V_far (p := ⟨gb418, 0, none⟩) (Kd.V_mono HO415.out (fun k_ hk => (⟨hk, by first | exact hk.2 | exact hk.2.2 | exact hk.2.1 | omega⟩ : _ ∧ k_ ≠ gb418))) (fun _ hk => hk.2) (.int .i64 t412)) (fun _ hk => hk.2) (.slice Ao37 t413.length co37)) (fun _ hk => by first | exact ⟨hk.1.1.1, ⟨hk.1.1.2.1, ⟨hk.1.1.2.2, hk.1.2⟩⟩⟩ | (simp only [ne_eq] at hk ⊢; simp [hk]))))⟩; have n3_ : Aside0 (w38.heap[gb404]? = some (.cells #[.int .i64 x405000_20, .slice Ao31 x405001_20.length co31] 24 (0, 0))) := ⟨(by rw [hw]; exact (by (with_reducible repeat (first | refine bN ?_ _ | refine bD ?_ | refine bA ?_ _)); refine blk_far ?_ NB404_418.out _; (with_reducible repeat (first | refine bN ?_ _ | refine bD ?_ | refine bA ?_ _)); refine blk_far ?_ NB404_418.out _; (with_reducible repeat (first | refine bN ?_ _ | refine bD ?_ | refine bA ?_ _)); exact BK404.out))⟩; have n4_ : Aside0 (w38.heap[gb410]? = some (.cells #[.int .i64 x411000_20, u411001] 24 (0, 0))) := ⟨(by rw [hw]; exact (by (with_reducible repeat (first | refine bN ?_ _ | refine bD ?_ | refine bA ?_ _)); refine blk_far ?_ NB410_418.out _; (with_reducible repeat (first | refine bN ?_ _ | refine bD ?_ | refine bA ?_ _)); refine blk_far ?_ NB410_418.out _; (with_reducible repeat (first | refine bN ?_ _ | refine bD ?_ | refine bA ?_ _)); exact BK410.out))⟩; have n5_ : Aside0 (w38.heap[gb418]? = some (.cells #[.int .i64 t412, .slice Ao37 t413.length co37] 24 (0, 0))) := ⟨(by rw [hw]; exact (by (with_reducible repeat (first | refine bN ?_ _ | refine bD ?_ | refine bA ?_ _)); refine blk_put (cs := #[.int .i64 t412, .slice none 0 0]) ?_ 1 _ rfl; (with_reducible repeat (first | refine bN ?_ _ | refine bD ?_ | refine bA ?_ _)); refine blk_put (cs := #[.int .i64 0, .slice none 0 0]) ?_ 0 _ rfl; (with_reducible repeat (first | refine bN ?_ _ | refine bD ?_ | refine bA ?_ _)); exact BK418.out))⟩; have n6_ : Aside0 (Below w.heap.size w w38) := ⟨(by rw [hw]; exact (by repeat (first | (with_reducible first | exact HB.out | apply wA | apply wN | apply wD | refine below_set ?_ GE404.out | refine below_set ?_ GE410.out | refine below_set ?_ GE418.out) | exact HB.out)))⟩; clear hw; clear HO_405001; clear HO_411001; clear HO415; clear BK404; clear BK410; clear BK418; clear HB; have HO_405001 := n0_; have HO_411001 := n1_; have HO415 := n2_; have BK404 := n3_; have BK410 := n4_; have BK418 := n5_; have HB := n6_; clear n0_ n1_ n2_ n3_ n4_ n5_ n6_; have hcz39_0 : w38.cell? ⟨gb410, 0, none⟩ = some (.int .i64 x411000_20) := (blk_cell BK410.out 0).trans rfl; have hcz39_1 : w38.cell? ⟨gb410, 1, none⟩ = some (u411001) := (blk_cell BK410.out 1).trans rfl; have hfz39_0 := blk_frozen BK410.out 0; have hfz39_1 := blk_frozen BK410.out 1; obtain ⟨Ao40, co40, eo40⟩ := Kd.R_slice HO_411001.out; subst eo40) | ((with_reducible refine gate_callee (f := 10) rfl ?_); refine goesL_ (some 52) rfl rfl Try.func10 (by kernel_rfl) rfl #[.agg #[.int .i64 x411000_20, .slice Ao40 x411001_20.length co40], .slice A0 l0.length c0] rfl (by (try simp only [List.map_toArray, List.map_cons, List.map_nil]); first | done | rfl | (simp only [List.length_drop, List.length_take]; rfl)) ?_; (with_reducible refine (fuel_Run.calls kj20 x411000_20 (fun k_ => some k_ = (.slice Ao40 x411001_20.length co40 : Value).ownBlock) _ _ x411001_20 _ _ l0 t419 t420 t423 t424 _ ?side1 ?side2 ?side3 A27.out).mono ?_); (case side1 => exact Kd.R_V (Kd.R_tight rfl (Kd.R_types (Kd.R_types (Kd.R_types (HO_411001.out) BK404.out (by decide)) BK410.out (by decide)) BK418.out (by decide)))); (case side2 => repeat (first | exact (Kd.C_below HR0.out HB.out) | (with_reducible refine Kd.C_alloc ?_ _) | (with_reducible refine Kd.C_drewN ?_ _) | (with_reducible refine Kd.C_drew ?_))); (case side3 => exact HC0.out); rintro e w41 ⟨v421, rfl, ho0, hb⟩; refine ⟨_, rfl, ?_⟩; have n0_ := ak (Kd.R_below (by (with_reducible repeat (first | apply Kd.R_alloc | apply Kd.R_drewN | apply Kd.R_drew)); exact HO_405001.out) hb); have n1_ := ak (Kd.R_below (by (with_reducible repeat (first | apply Kd.R_alloc | apply Kd.R_drewN | apply Kd.R_drew)); exact HO_411001.out) hb); have n2_ := ak (Kd.V_below (by (with_reducible repeat (first | apply vA | apply vN | apply vD)); exact HO415.out) hb); have n3_ := ak (Kd.V_lower (Kd.V_mono (ok' := fun k_ => some k_ ≠ (.slice Ao31 x405001_20.length co31 : Value).ownBlock ∧ k_ ≠ gb404 ∧ k_ ≠ gb410 ∧ k_ ≠ gb418) ho0 (fun k_ hk_ => ⟨Or.elim hk_ (fun hs_ => ((Kd.R_types (Kd.R_types (Kd.R_types (HO_411001.out) BK404.out (by decide)) BK410.out (by decide)) BK418.out (by decide)).1 k_ hs_.symm).1.1.1) (fun hn_ => (Kd.fresh' (Kd.R_lt (by (with_reducible repeat (first | apply Kd.R_alloc | apply Kd.R_drewN | apply Kd.R_drew)); exact HO_405001.out)) k_ hn_)), Or.elim hk_ (fun hs_ => ((Kd.R_types (Kd.R_types (Kd.R_types (HO_411001.out) BK404.out (by decide)) BK410.out (by decide)) BK418.out (by decide)).1 k_ hs_.symm).1.1.2) (fun hn_ => (Kd.freshB (g := gb404) (o := .cells #[.int .i64 x405000_20, .slice Ao31 x405001_20.length co31] 24 (0, 0)) (by (with_reducible repeat (first | refine bN ?_ _ | refine bD ?_ | refine bA ?_ _)); exact BK404.out) k_ hn_)), Or.elim hk_ (fun hs_ => ((Kd.R_types (Kd.R_types (Kd.R_types (HO_411001.out) BK404.out (by decide)) BK410.out (by decide)) BK418.out (by decide)).1 k_ hs_.symm).1.2) (fun hn_ => (Kd.freshB (g := gb410) (o := .cells #[.int .i64 x411000_20, .slice Ao40 x411001_20.length co40] 24 (0, 0)) (by (with_reducible repeat (first | refine bN ?_ _ | refine bD ?_ | refine bA ?_ _)); exact BK410.out) k_ hn_)), Or.elim hk_ (fun hs_ => ((Kd.R_types (Kd.R_types (Kd.R_types (HO_411001.out) BK404.out (by decide)) BK410.out (by decide)) BK418.out (by decide)).1 k_ hs_.symm).2) (fun hn_ => (Kd.freshB (g := gb418) (o := .cells #[.int .i64 t412, .slice Ao37 t413.length co37] 24 (0, 0)) (by (with_reducible repeat (first | refine bN ?_ _ | refine bD ?_ | refine bA ?_ _)); exact BK418.out) k_ hn_))⟩)) (below_size (by repeat (first | (with_reducible first | exact HB.out | apply wA | apply wN | apply wD | refine below_set ?_ GE404.out | refine below_set ?_ GE410.out | refine below_set ?_ GE418.out) | exact HB.out)))); have n4_ := ak (blk_below (g := gb404) (o := .cells #[.int .i64 x405000_20, .slice Ao31 x405001_20.length co31] 24 (0, 0)) (by (with_reducible repeat (first | refine bN ?_ _ | refine bD ?_ | refine bA ?_ _)); exact BK404.out) hb); have n5_ := ak (blk_below (g := gb410) (o := .cells #[.int .i64 x411000_20, .slice Ao40 x411001_20.length co40] 24 (0, 0)) (by (with_reducible repeat (first | refine bN ?_ _ | refine bD ?_ | refine bA ?_ _)); exact BK410.out) hb); have n6_ := ak (blk_below (g := gb418) (o := .cells #[.int .i64 t412, .slice Ao37 t413.length co37] 24 (0, 0)) (by (with_reducible repeat (first | refine bN ?_ _ | refine bD ?_ | refine bA ?_ _)); exact BK418.out) hb); have n7_ := ak (below_step (by repeat (first | (with_reducible first | exact HB.out | apply wA | apply wN | apply wD | refine below_set ?_ GE404.out | refine below_set ?_ GE410.out | refine below_set ?_ GE418.out) | exact HB.out)) hb); clear HO_405001; clear HO_411001; clear HO415; clear BK404; clear BK410; clear BK418; clear HB; have HO_405001 := n0_; have HO_411001 := n1_; have HO415 := n2_; have HO422 := n3_; have BK404 := n4_; have BK410 := n5_; have BK418 := n6_; have HB := n7_; clear n0_ n1_ n2_ n3_ n4_ n5_ n6_ n7_; (try clear hb); (try clear hb2); (try clear hk); (try clear hi); (try clear ho0)) | ((with_reducible refine gate_dst (N := 13) rfl ?_); refine box_event ?hg (N := 13) ?hd (cs := #[.int .i64 0, .slice none 0 0]) (t := 24) ?hr ?_; (case hd => rfl); (case hg => rfl); (case hr => first | (go_simp; done) | (go_simp; rfl)); intro gb425 hg w42 hbox hb; have n0_ := ak (Kd.R_below (by (with_reducible repeat (first | apply Kd.R_alloc | apply Kd.R_drewN | apply Kd.R_drew)); exact HO_405001.out) hb); have n1_ := ak (Kd.R_below (by (with_reducible repeat (first | apply Kd.R_alloc | apply Kd.R_drewN | apply Kd.R_drew)); exact HO_411001.out) hb); have n2_ := ak (Kd.V_below (Kd.V_elderB (by (with_reducible repeat (first | apply vA | apply vN | apply vD)); exact HO415.out) gb425 (Nat.le_of_eq hg.symm)) hb); have n3_ := ak (Kd.V_below (Kd.V_elderB (by (with_reducible repeat (first | apply vA | apply vN | apply vD)); exact HO422.out) gb425 (Nat.le_of_eq hg.symm)) hb); have n4_ := ak (blk_below (g := gb404) (o := .cells #[.int .i64 x405000_20, .slice Ao31 x405001_20.length co31] 24 (0, 0)) (by (with_reducible repeat (first | refine bN ?_ _ | refine bD ?_ | refine bA ?_ _)); exact BK404.out) hb); have n5_ := ak (blk_below (g := gb410) (o := .cells #[.int .i64 x411000_20, .slice Ao40 x411001_20.length co40] 24 (0, 0)) (by (with_reducible repeat (first | refine bN ?_ _ | refine bD ?_ | refine bA ?_ _)); exact BK410.out) hb); have n6_ := ak (blk_below (g := gb418) (o := .cells #[.int .i64 t412, .slice Ao37 t413.length co37] 24 (0, 0)) (by (with_reducible repeat (first | refine bN ?_ _ | refine bD ?_ | refine bA ?_ _)); exact BK418.out) hb); have n7_ := ak (below_step (by repeat (first | (with_reducible first | exact HB.out | apply wA | apply wN | apply wD | refine below_set ?_ GE404.out | refine below_set ?_ GE410.out | refine below_set ?_ GE418.out) | exact HB.out)) hb); have n8_ := ak (hbox); have n9_ := ak ((by rw [hg]; exact (below_size (by repeat (first | (with_reducible first | exact HB.out | apply wA | apply wN | apply wD | refine below_set ?_ GE404.out | refine below_set ?_ GE410.out | refine below_set ?_ GE418.out) | exact HB.out))) : w.heap.size ≤ gb425)); have n10_ := ak ((by rw [hg]; exact (below_size (by repeat (first | (with_reducible first | exact HB.out | apply wA | apply wN | apply wD | refine below_set ?_ GE404.out | refine below_set ?_ GE410.out | refine below_set ?_ GE418.out) | exact HB.out))) : w.heap.size ≤ gb425)); have n11_ := ak ((by rw [hg]; exact Nat.ne_of_lt (blk_lt (g := gb404) (o := .cells #[.int .i64 x405000_20, .slice Ao31 x405001_20.length co31] 24 (0, 0)) (by (with_reducible repeat (first | refine bN ?_ _ | refine bD ?_ | refine bA ?_ _)); exact BK404.out)) : gb404 ≠ gb425)); have n12_ := ak ((by rw [hg]; exact Nat.ne_of_gt (blk_lt (g := gb404) (o := .cells #[.int .i64 x405000_20, .slice Ao31 x405001_20.length co31] 24 (0, 0)) (by (with_reducible repeat (first | refine bN ?_ _ | refine bD ?_ | refine bA ?_ _)); exact BK404.out)) : gb425 ≠ gb404)); have n13_ := ak ((by rw [hg]; exact Nat.ne_of_lt (blk_lt (g := gb410) (o := .cells #[.int .i64 x411000_20, .slice Ao40 x411001_20.length co40] 24 (0, 0)) (by (with_reducible repeat (first | refine bN ?_ _ | refine bD ?_ | refine bA ?_ _)); exact BK410.out)) : gb410 ≠ gb425)); have n14_ := ak ((by rw [hg]; exact Nat.ne_of_gt (blk_lt (g := gb410) (o := .cells #[.int .i64 x411000_20, .slice Ao40 x411001_20.length co40] 24 (0, 0)) (by (with_reducible repeat (first | refine bN ?_ _ | refine bD ?_ | refine bA ?_ _)); exact BK410.out)) : gb425 ≠ gb410)); have n15_ := ak ((by rw [hg]; exact Nat.ne_of_lt (blk_lt (g := gb418) (o := .cells #[.int .i64 t412, .slice Ao37 t413.length co37] 24 (0, 0)) (by (with_reducible repeat (first | refine bN ?_ _ | refine bD ?_ | refine bA ?_ _)); exact BK418.out)) : gb418 ≠ gb425)); have n16_ := ak ((by rw [hg]; exact Nat.ne_of_gt (blk_lt (g := gb418) (o := .cells #[.int .i64 t412, .slice Ao37 t413.length co37] 24 (0, 0)) (by (with_reducible repeat (first | refine bN ?_ _ | refine bD ?_ | refine bA ?_ _)); exact BK418.out)) : gb425 ≠ gb418)); clear HO_405001; clear HO_411001; clear HO415; clear HO422; clear BK404; clear BK410; clear BK418; clear HB; have HO_405001 := n0_; have HO_411001 := n1_; have HO415 := n2_; have HO422 := n3_; have BK404 := n4_; have BK410 := n5_; have BK418 := n6_; have HB := n7_; have BK425 := n8_; have GW425 := n9_; have GE425 := n10_; have NB404_425 := n11_; have NB425_404 := n12_; have NB410_425 := n13_; have NB425_410 := n14_; have NB418_425 := n15_; have NB425_418 := n16_; clear n0_ n1_ n2_ n3_ n4_ n5_ n6_ n7_ n8_ n9_ n10_ n11_ n12_ n13_ n14_ n15_ n16_; clear hb hbox hg; have hnb43 := NB425_404.out; have hnc43 := NB404_425.out; have hnb44 := NB425_410.out; have hnc44 := NB410_425.out; have hnb45 := NB425_418.out; have hnc45 := NB418_425.out; have hcz46_0 : w42.cell? ⟨gb425, 0, none⟩ = some (.int .i64 0) := (blk_cell BK425.out 0).trans rfl; have hcz46_1 : w42.cell? ⟨gb425, 1, none⟩ = some (.slice none 0 0) := (blk_cell BK425.out 1).trans rfl; have hfz46_0 := blk_frozen BK425.out 0; have hfz46_1 := blk_frozen BK425.out 1; obtain ⟨Ao47, co47, eo47⟩ := Kd.V_slice HO422.out; subst eo47))
            (try simp only [Act.put, List.setIfInBounds_toArray, List.set_cons_zero, List.set_cons_succ])
            go_cut [65] (fun v65 wc => ∃ (kq : Nat) (x65_27 : Bool), v65 = .bool x65_27 ∧ Aside0 (mummerlaw16_FuelMore.j2 kq t417 t424 t416 t423 x65_27 t412 t413 t419 t420 = some r) ∧ Aside0 (kq ≤ kj20) ∧ Aside0 (Kd.R (Kd.int .i64) 2 wc w.heap.size (fun k_ => some k_ ≠ ((.slice Ao40 x411001_20.length co40) : Value).ownBlock) (.slice Ao31 x405001_20.length co31) x405001_20) ∧ Aside0 (Kd.R (Kd.int .i64) 2 wc w.heap.size (fun k_ => some k_ ≠ ((.slice Ao31 x405001_20.length co31) : Value).ownBlock) (.slice Ao40 x411001_20.length co40) x411001_20) ∧ Aside0 (Kd.V (Kd.int .i64) 2 wc w.heap.size (fun k_ => some k_ ≠ ((.slice Ao40 x411001_20.length co40) : Value).ownBlock ∧ k_ ≠ gb404 ∧ k_ ≠ gb410 ∧ k_ ≠ gb418 ∧ k_ ≠ gb425) (.slice Ao37 t413.length co37) t413) ∧ Aside0 (Kd.V (Kd.int .i64) 2 wc w.heap.size (fun k_ => some k_ ≠ ((.slice Ao31 x405001_20.length co31) : Value).ownBlock ∧ k_ ≠ gb404 ∧ k_ ≠ gb410 ∧ k_ ≠ gb418 ∧ k_ ≠ gb425) (.slice Ao47 t420.length co47) t420) ∧ Aside0 (wc.heap[gb404]? = some (.cells #[.int .i64 x405000_20, (.slice Ao31 x405001_20.length co31)] 24 (0, 0))) ∧ Aside0 (wc.heap[gb410]? = some (.cells #[.int .i64 x411000_20, (.slice Ao40 x411001_20.length co40)] 24 (0, 0))) ∧ Aside0 (wc.heap[gb418]? = some (.cells #[.int .i64 t412, (.slice Ao37 t413.length co37)] 24 (0, 0))) ∧ Aside0 (wc.heap[gb425]? = some (.cells #[.int .i64 t419, (.slice Ao47 t420.length co47)] 24 (0, 0))) ∧ Aside0 (Below w.heap.size w wc))
            case first =>
              have H := HC28.out
              clear HC28
              by_cases c48 : t423 < t416
              · rw [if_pos c48] at H
                have c48b0 : decide (t423 < t416) = true := decide_eq_true c48
                clear c48
                (first | rw [c48b0] | (simp only [i64_w, i32_w]; rw [c48b0]) | skip)
                have H' := ak H
                clear H
                go_wp2
                go_meet
                case rel => exact ⟨_, (true), (by first | rfl | (simp; done) | (simp [*]; done)), H', ⟨by have := HJ5.out; have := HJ20.out; first | omega | exact Nat.le_refl _⟩, ⟨by (with_reducible repeat (first | apply Kd.R_alloc | apply Kd.R_drewN | apply Kd.R_drew)); exact Kd.R_mono (Kd.R_far (p := ⟨gb425, 1, none⟩) (Kd.R_far (p := ⟨gb425, 0, none⟩) (Kd.R_types HO_405001.out BK425.out (by decide)) (fun _ hk => hk.2) (.int .i64 t419)) (fun _ hk => hk.2) (.slice Ao47 t420.length co47)) (fun _ hk => by first | exact hk.1 | exact hk)⟩, ⟨by (with_reducible repeat (first | apply Kd.R_alloc | apply Kd.R_drewN | apply Kd.R_drew)); exact Kd.R_mono (Kd.R_far (p := ⟨gb425, 1, none⟩) (Kd.R_far (p := ⟨gb425, 0, none⟩) (Kd.R_types HO_411001.out BK425.out (by decide)) (fun _ hk => hk.2) (.int .i64 t419)) (fun _ hk => hk.2) (.slice Ao47 t420.length co47)) (fun _ hk => by first | exact hk.1 | exact hk)⟩, ⟨by (with_reducible repeat (first | apply vA | apply vN | apply vD)); exact Kd.V_mono (Kd.V_far (p := ⟨gb425, 1, none⟩) (Kd.V_far (p := ⟨gb425, 0, none⟩) (Kd.V_mono HO415.out (fun k_ hk => (⟨hk, by first | exact hk.2 | exact hk.2.2 | exact hk.2.1 | omega⟩ : _ ∧ k_ ≠ gb425))) (fun _ hk => hk.2) (.int .i64 t419)) (fun _ hk => hk.2) (.slice Ao47 t420.length co47)) (fun _ hk => by first | exact ⟨hk.1.1.1, ⟨hk.1.1.2.1, ⟨hk.1.1.2.2.1, ⟨hk.1.1.2.2.2, hk.1.2⟩⟩⟩⟩ | (simp only [ne_eq] at hk ⊢; simp [hk]))⟩, ⟨by (with_reducible repeat (first | apply vA | apply vN | apply vD)); exact Kd.V_mono (Kd.V_far (p := ⟨gb425, 1, none⟩) (Kd.V_far (p := ⟨gb425, 0, none⟩) (Kd.V_mono HO422.out (fun k_ hk => (⟨hk, by first | exact hk.2 | exact hk.2.2 | exact hk.2.1 | omega⟩ : _ ∧ k_ ≠ gb425))) (fun _ hk => hk.2) (.int .i64 t419)) (fun _ hk => hk.2) (.slice Ao47 t420.length co47)) (fun _ hk => by first | exact ⟨hk.1.1.1, ⟨hk.1.1.2.1, ⟨hk.1.1.2.2.1, ⟨hk.1.1.2.2.2, hk.1.2⟩⟩⟩⟩ | (simp only [ne_eq] at hk ⊢; simp [hk]))⟩, ⟨by (with_reducible repeat (first | refine bN ?_ _ | refine bD ?_ | refine bA ?_ _)); refine blk_far ?_ NB404_425.out _; (with_reducible repeat (first | refine bN ?_ _ | refine bD ?_ | refine bA ?_ _)); refine blk_far ?_ NB404_425.out _; (with_reducible repeat (first | refine bN ?_ _ | refine bD ?_ | refine bA ?_ _)); exact BK404.out⟩, ⟨by (with_reducible repeat (first | refine bN ?_ _ | refine bD ?_ | refine bA ?_ _)); refine blk_far ?_ NB410_425.out _; (with_reducible repeat (first | refine bN ?_ _ | refine bD ?_ | refine bA ?_ _)); refine blk_far ?_ NB410_425.out _; (with_reducible repeat (first | refine bN ?_ _ | refine bD ?_ | refine bA ?_ _)); exact BK410.out⟩, ⟨by (with_reducible repeat (first | refine bN ?_ _ | refine bD ?_ | refine bA ?_ _)); refine blk_far ?_ NB418_425.out _; (with_reducible repeat (first | refine bN ?_ _ | refine bD ?_ | refine bA ?_ _)); refine blk_far ?_ NB418_425.out _; (with_reducible repeat (first | refine bN ?_ _ | refine bD ?_ | refine bA ?_ _)); exact BK418.out⟩, ⟨by (with_reducible repeat (first | refine bN ?_ _ | refine bD ?_ | refine bA ?_ _)); refine blk_put (cs := #[.int .i64 t419, .slice none 0 0]) ?_ 1 _ rfl; (with_reducible repeat (first | refine bN ?_ _ | refine bD ?_ | refine bA ?_ _)); refine blk_put (cs := #[.int .i64 0, .slice none 0 0]) ?_ 0 _ rfl; (with_reducible repeat (first | refine bN ?_ _ | refine bD ?_ | refine bA ?_ _)); exact BK425.out⟩, ⟨by repeat (first | (with_reducible first | exact HB.out | apply wA | apply wN | apply wD | refine below_set ?_ GE404.out | refine below_set ?_ GE410.out | refine below_set ?_ GE418.out | refine below_set ?_ GE425.out) | exact HB.out)⟩⟩
              · rw [if_neg c48] at H
                have c48b0 : decide (t423 < t416) = false := decide_eq_false c48
                clear c48
                (first | rw [c48b0] | (simp only [i64_w, i32_w]; rw [c48b0]) | skip)
                have H' := ak H
                clear H
                have hnb49 := NB418_404.out
                have hnc49 := NB404_418.out
                have hnb50 := NB418_410.out
                have hnc50 := NB410_418.out
                have hnb51 := NB418_425.out
                have hnc51 := NB425_418.out
                have hcz52_0 : w42.cell? ⟨gb418, 0, none⟩ = some (.int .i64 t412) := (blk_cell BK418.out 0).trans rfl
                have hcz52_1 : w42.cell? ⟨gb418, 1, none⟩ = some (.slice Ao37 t413.length co37) := (blk_cell BK418.out 1).trans rfl
                have hfz52_0 := blk_frozen BK418.out 0
                have hfz52_1 := blk_frozen BK418.out 1
                have hnb53 := NB425_404.out
                have hnc53 := NB404_425.out
                have hnb54 := NB425_410.out
                have hnc54 := NB410_425.out
                have hcz55_0 : w42.cell? ⟨gb425, 0, none⟩ = some (.int .i64 0) := (blk_cell BK425.out 0).trans rfl
                have hcz55_1 : w42.cell? ⟨gb425, 1, none⟩ = some (.slice none 0 0) := (blk_cell BK425.out 1).trans rfl
                have hfz55_0 := blk_frozen BK425.out 0
                have hfz55_1 := blk_frozen BK425.out 1
                go_wp2
                go_meet
                case rel => exact ⟨_, (decide (t412 > t419)), (by first | rfl | (simp; done) | (simp [*]; done)), H', ⟨by have := HJ5.out; have := HJ20.out; first | omega | exact Nat.le_refl _⟩, ⟨by (with_reducible repeat (first | apply Kd.R_alloc | apply Kd.R_drewN | apply Kd.R_drew)); exact Kd.R_mono (Kd.R_far (p := ⟨gb425, 1, none⟩) (Kd.R_far (p := ⟨gb425, 0, none⟩) (Kd.R_types HO_405001.out BK425.out (by decide)) (fun _ hk => hk.2) (.int .i64 t419)) (fun _ hk => hk.2) (.slice Ao47 t420.length co47)) (fun _ hk => by first | exact hk.1 | exact hk)⟩, ⟨by (with_reducible repeat (first | apply Kd.R_alloc | apply Kd.R_drewN | apply Kd.R_drew)); exact Kd.R_mono (Kd.R_far (p := ⟨gb425, 1, none⟩) (Kd.R_far (p := ⟨gb425, 0, none⟩) (Kd.R_types HO_411001.out BK425.out (by decide)) (fun _ hk => hk.2) (.int .i64 t419)) (fun _ hk => hk.2) (.slice Ao47 t420.length co47)) (fun _ hk => by first | exact hk.1 | exact hk)⟩, ⟨by (with_reducible repeat (first | apply vA | apply vN | apply vD)); exact Kd.V_mono (Kd.V_far (p := ⟨gb425, 1, none⟩) (Kd.V_far (p := ⟨gb425, 0, none⟩) (Kd.V_mono HO415.out (fun k_ hk => (⟨hk, by first | exact hk.2 | exact hk.2.2 | exact hk.2.1 | omega⟩ : _ ∧ k_ ≠ gb425))) (fun _ hk => hk.2) (.int .i64 t419)) (fun _ hk => hk.2) (.slice Ao47 t420.length co47)) (fun _ hk => by first | exact ⟨hk.1.1.1, ⟨hk.1.1.2.1, ⟨hk.1.1.2.2.1, ⟨hk.1.1.2.2.2, hk.1.2⟩⟩⟩⟩ | (simp only [ne_eq] at hk ⊢; simp [hk]))⟩, ⟨by (with_reducible repeat (first | apply vA | apply vN | apply vD)); exact Kd.V_mono (Kd.V_far (p := ⟨gb425, 1, none⟩) (Kd.V_far (p := ⟨gb425, 0, none⟩) (Kd.V_mono HO422.out (fun k_ hk => (⟨hk, by first | exact hk.2 | exact hk.2.2 | exact hk.2.1 | omega⟩ : _ ∧ k_ ≠ gb425))) (fun _ hk => hk.2) (.int .i64 t419)) (fun _ hk => hk.2) (.slice Ao47 t420.length co47)) (fun _ hk => by first | exact ⟨hk.1.1.1, ⟨hk.1.1.2.1, ⟨hk.1.1.2.2.1, ⟨hk.1.1.2.2.2, hk.1.2⟩⟩⟩⟩ | (simp only [ne_eq] at hk ⊢; simp [hk]))⟩, ⟨by (with_reducible repeat (first | refine bN ?_ _ | refine bD ?_ | refine bA ?_ _)); refine blk_far ?_ NB404_425.out _; (with_reducible repeat (first | refine bN ?_ _ | refine bD ?_ | refine bA ?_ _)); refine blk_far ?_ NB404_425.out _; (with_reducible repeat (first | refine bN ?_ _ | refine bD ?_ | refine bA ?_ _)); exact BK404.out⟩, ⟨by (with_reducible repeat (first | refine bN ?_ _ | refine bD ?_ | refine bA ?_ _)); refine blk_far ?_ NB410_425.out _; (with_reducible repeat (first | refine bN ?_ _ | refine bD ?_ | refine bA ?_ _)); refine blk_far ?_ NB410_425.out _; (with_reducible repeat (first | refine bN ?_ _ | refine bD ?_ | refine bA ?_ _)); exact BK410.out⟩, ⟨by (with_reducible repeat (first | refine bN ?_ _ | refine bD ?_ | refine bA ?_ _)); refine blk_far ?_ NB418_425.out _; (with_reducible repeat (first | refine bN ?_ _ | refine bD ?_ | refine bA ?_ _)); refine blk_far ?_ NB418_425.out _; (with_reducible repeat (first | refine bN ?_ _ | refine bD ?_ | refine bA ?_ _)); exact BK418.out⟩, ⟨by (with_reducible repeat (first | refine bN ?_ _ | refine bD ?_ | refine bA ?_ _)); refine blk_put (cs := #[.int .i64 t419, .slice none 0 0]) ?_ 1 _ rfl; (with_reducible repeat (first | refine bN ?_ _ | refine bD ?_ | refine bA ?_ _)); refine blk_put (cs := #[.int .i64 0, .slice none 0 0]) ?_ 0 _ rfl; (with_reducible repeat (first | refine bN ?_ _ | refine bD ?_ | refine bA ?_ _)); exact BK425.out⟩, ⟨by repeat (first | (with_reducible first | exact HB.out | apply wA | apply wN | apply wD | refine below_set ?_ GE404.out | refine below_set ?_ GE410.out | refine below_set ?_ GE418.out | refine below_set ?_ GE425.out) | exact HB.out)⟩⟩
            case rest =>
              clear HC28
              try clear c1
              try clear c2
              try clear p2
              try clear c3
              try clear c4
              try clear c5
              try clear c9
              try clear c10
              try clear c13
              try clear c15
              try clear c16
              try clear c16b0
              try clear c16b1
              try clear c17
              try clear c17b0
              try clear c17b1
              try clear c18
              try clear c22
              try clear c22b0
              try clear c23
              try clear c29
              try clear c34
              try clear c35
              try clear c43
              try clear c44
              try clear c45
              try clear c48
              try clear c48b0
              try clear c49
              try clear c50
              try clear c51
              try clear c53
              try clear c54
              try clear hcz14_0
              try clear hcz14_1
              try clear hcz24_0
              try clear hcz24_1
              try clear hcz25_0
              try clear hcz25_1
              try clear hcz30_0
              try clear hcz30_1
              try clear hcz36_0
              try clear hcz36_1
              try clear hcz39_0
              try clear hcz39_1
              try clear hcz46_0
              try clear hcz46_1
              try clear hcz52_0
              try clear hcz52_1
              try clear hcz55_0
              try clear hcz55_1
              try clear hcz9_0
              try clear hcz9_1
              try clear hfz14_0
              try clear hfz14_1
              try clear hfz24_0
              try clear hfz24_1
              try clear hfz25_0
              try clear hfz25_1
              try clear hfz30_0
              try clear hfz30_1
              try clear hfz36_0
              try clear hfz36_1
              try clear hfz39_0
              try clear hfz39_1
              try clear hfz46_0
              try clear hfz46_1
              try clear hfz52_0
              try clear hfz52_1
              try clear hfz55_0
              try clear hfz55_1
              try clear hfz9_0
              try clear hfz9_1
              try clear p2
              obtain ⟨kq, x65_27, rfl, HA, HJ27, HO_405001, HO_411001, HO_419001, HO_426001, BK404, BK410, BK418, BK425, HB⟩ := hcut
              cases kq with
              | zero => exact absurd HA.out (by simp [mummerlaw16_FuelMore.j2])
              | succ kj27 =>
                have H := HA.out
                clear HA
                simp only [mummerlaw16_FuelMore.j2] at H
                by_cases c56 : x65_27 = true
                · subst c56
                  have H1 : (some false) = some r := by rw [if_pos rfl] at H; exact H
                  clear H
                  have H := H1
                  clear H1
                  exact absurd ((Option.some.inj H).trans hrt.out) (by decide)
                · replace c56 := Bool.eq_false_iff.mpr c56
                  subst c56
                  have H1 : (if t417 = 0 then (if t424 = 0 then (if t412 = t419 then (mummerlaw16_FuelMore.j3 kj27 t417 t424 t416 t423 (t416 != t423)) else (mummerlaw16_FuelMore.j3 kj27 t417 t424 t416 t423 true)) else (mummerlaw16_FuelMore.j3 kj27 t417 t424 t416 t423 true)) else (mummerlaw16_FuelMore.j3 kj27 t417 t424 t416 t423 false)) = some r := by rw [if_neg (show ¬ (false = true) by decide)] at H; exact H
                  clear H
                  have H := H1
                  clear H1
                  have HC57 := ak H
                  clear H
                  go_upto_region 11 with (fail)
                  go_cut [83] (fun v83 wc => ∃ (kq : Nat) (x83_56 : Bool), v83 = .bool x83_56 ∧ Aside0 (mummerlaw16_FuelMore.j3 kq t417 t424 t416 t423 x83_56 = some r) ∧ Aside0 (kq ≤ kj27) ∧ Aside0 (Kd.R (Kd.int .i64) 2 wc w.heap.size (fun k_ => some k_ ≠ ((.slice Ao40 x411001_20.length co40) : Value).ownBlock) (.slice Ao31 x405001_20.length co31) x405001_20) ∧ Aside0 (Kd.R (Kd.int .i64) 2 wc w.heap.size (fun k_ => some k_ ≠ ((.slice Ao31 x405001_20.length co31) : Value).ownBlock) (.slice Ao40 x411001_20.length co40) x411001_20) ∧ Aside0 (Kd.V (Kd.int .i64) 2 wc w.heap.size (fun k_ => some k_ ≠ ((.slice Ao40 x411001_20.length co40) : Value).ownBlock ∧ k_ ≠ gb404 ∧ k_ ≠ gb410 ∧ k_ ≠ gb418 ∧ k_ ≠ gb425) (.slice Ao37 t413.length co37) t413) ∧ Aside0 (Kd.V (Kd.int .i64) 2 wc w.heap.size (fun k_ => some k_ ≠ ((.slice Ao31 x405001_20.length co31) : Value).ownBlock ∧ k_ ≠ gb404 ∧ k_ ≠ gb410 ∧ k_ ≠ gb418 ∧ k_ ≠ gb425) (.slice Ao47 t420.length co47) t420) ∧ Aside0 (wc.heap[gb404]? = some (.cells #[.int .i64 x405000_20, (.slice Ao31 x405001_20.length co31)] 24 (0, 0))) ∧ Aside0 (wc.heap[gb410]? = some (.cells #[.int .i64 x411000_20, (.slice Ao40 x411001_20.length co40)] 24 (0, 0))) ∧ Aside0 (wc.heap[gb418]? = some (.cells #[.int .i64 t412, (.slice Ao37 t413.length co37)] 24 (0, 0))) ∧ Aside0 (wc.heap[gb425]? = some (.cells #[.int .i64 t419, (.slice Ao47 t420.length co47)] 24 (0, 0))) ∧ Aside0 (Below w.heap.size w wc))
                  case first =>
                    have H := HC57.out
                    clear HC57
                    by_cases c58 : t417 = 0
                    · rw [if_pos c58] at H
                      have c58b0 : (t417 == 0) = true := beq_iff_eq.mpr c58
                      have c58b1 : (t417 != 0) = false := bne_eq_false_iff_eq.mpr c58
                      clear c58
                      (first | rw [c58b0] | (simp only [i64_w, i32_w]; rw [c58b0]) | skip)
                      by_cases c59 : t424 = 0
                      · rw [if_pos c59] at H
                        have c59b0 : (t424 == 0) = true := beq_iff_eq.mpr c59
                        have c59b1 : (t424 != 0) = false := bne_eq_false_iff_eq.mpr c59
                        clear c59
                        by_cases c60 : t412 = t419
                        · rw [if_pos c60] at H
                          have c60b0 : (t412 == t419) = true := beq_iff_eq.mpr c60
                          have c60b1 : (t412 != t419) = false := bne_eq_false_iff_eq.mpr c60
                          clear c60
                          have H' := ak H
                          clear H
                          have hnb61 := NB418_404.out
                          have hnc61 := NB404_418.out
                          have hnb62 := NB418_410.out
                          have hnc62 := NB410_418.out
                          have hnb63 := NB418_425.out
                          have hnc63 := NB425_418.out
                          have hcz64_0 : wc.cell? ⟨gb418, 0, none⟩ = some (.int .i64 t412) := (blk_cell BK418.out 0).trans rfl
                          have hcz64_1 : wc.cell? ⟨gb418, 1, none⟩ = some (.slice Ao37 t413.length co37) := (blk_cell BK418.out 1).trans rfl
                          have hfz64_0 := blk_frozen BK418.out 0
                          have hfz64_1 := blk_frozen BK418.out 1
                          have hnb65 := NB425_404.out
                          have hnc65 := NB404_425.out
                          have hnb66 := NB425_410.out
                          have hnc66 := NB410_425.out
                          have hcz67_0 : wc.cell? ⟨gb425, 0, none⟩ = some (.int .i64 t419) := (blk_cell BK425.out 0).trans rfl
                          have hcz67_1 : wc.cell? ⟨gb425, 1, none⟩ = some (.slice Ao47 t420.length co47) := (blk_cell BK425.out 1).trans rfl
                          have hfz67_0 := blk_frozen BK425.out 0
                          have hfz67_1 := blk_frozen BK425.out 1
                          go_wp2
                          go_meet
                          case rel => exact ⟨_, ((t416 != t423)), (by first | rfl | (simp; done) | (simp [*]; done)), H', ⟨by have := HJ5.out; have := HJ20.out; have := HJ27.out; first | omega | exact Nat.le_refl _⟩, ⟨by (with_reducible repeat (first | apply Kd.R_alloc | apply Kd.R_drewN | apply Kd.R_drew)); exact HO_405001.out⟩, ⟨by (with_reducible repeat (first | apply Kd.R_alloc | apply Kd.R_drewN | apply Kd.R_drew)); exact HO_411001.out⟩, ⟨by (with_reducible repeat (first | apply vA | apply vN | apply vD)); exact HO_419001.out⟩, ⟨by (with_reducible repeat (first | apply vA | apply vN | apply vD)); exact HO_426001.out⟩, ⟨by (with_reducible repeat (first | refine bN ?_ _ | refine bD ?_ | refine bA ?_ _)); exact BK404.out⟩, ⟨by (with_reducible repeat (first | refine bN ?_ _ | refine bD ?_ | refine bA ?_ _)); exact BK410.out⟩, ⟨by (with_reducible repeat (first | refine bN ?_ _ | refine bD ?_ | refine bA ?_ _)); exact BK418.out⟩, ⟨by (with_reducible repeat (first | refine bN ?_ _ | refine bD ?_ | refine bA ?_ _)); exact BK425.out⟩, ⟨by repeat (first | (with_reducible first | exact HB.out | apply wA | apply wN | apply wD | refine below_set ?_ GE404.out | refine below_set ?_ GE410.out | refine below_set ?_ GE418.out | refine below_set ?_ GE425.out) | exact HB.out)⟩⟩
                        · rw [if_neg c60] at H
                          have c60b0 : (t412 == t419) = false := beq_eq_false_iff_ne.mpr c60
                          have c60b1 : (t412 != t419) = true := bne_iff_ne.mpr c60
                          have H' := ak H
                          clear H
                          have hnb68 := NB418_404.out
                          have hnc68 := NB404_418.out
                          have hnb69 := NB418_410.out
                          have hnc69 := NB410_418.out
                          have hnb70 := NB418_425.out
                          have hnc70 := NB425_418.out
                          have hcz71_0 : wc.cell? ⟨gb418, 0, none⟩ = some (.int .i64 t412) := (blk_cell BK418.out 0).trans rfl
                          have hcz71_1 : wc.cell? ⟨gb418, 1, none⟩ = some (.slice Ao37 t413.length co37) := (blk_cell BK418.out 1).trans rfl
                          have hfz71_0 := blk_frozen BK418.out 0
                          have hfz71_1 := blk_frozen BK418.out 1
                          have hnb72 := NB425_404.out
                          have hnc72 := NB404_425.out
                          have hnb73 := NB425_410.out
                          have hnc73 := NB410_425.out
                          have hcz74_0 : wc.cell? ⟨gb425, 0, none⟩ = some (.int .i64 t419) := (blk_cell BK425.out 0).trans rfl
                          have hcz74_1 : wc.cell? ⟨gb425, 1, none⟩ = some (.slice Ao47 t420.length co47) := (blk_cell BK425.out 1).trans rfl
                          have hfz74_0 := blk_frozen BK425.out 0
                          have hfz74_1 := blk_frozen BK425.out 1
                          go_wp2
                          go_meet
                          case rel => exact ⟨_, (true), (by first | rfl | (simp; done) | (simp [*]; done)), H', ⟨by have := HJ5.out; have := HJ20.out; have := HJ27.out; first | omega | exact Nat.le_refl _⟩, ⟨by (with_reducible repeat (first | apply Kd.R_alloc | apply Kd.R_drewN | apply Kd.R_drew)); exact HO_405001.out⟩, ⟨by (with_reducible repeat (first | apply Kd.R_alloc | apply Kd.R_drewN | apply Kd.R_drew)); exact HO_411001.out⟩, ⟨by (with_reducible repeat (first | apply vA | apply vN | apply vD)); exact HO_419001.out⟩, ⟨by (with_reducible repeat (first | apply vA | apply vN | apply vD)); exact HO_426001.out⟩, ⟨by (with_reducible repeat (first | refine bN ?_ _ | refine bD ?_ | refine bA ?_ _)); exact BK404.out⟩, ⟨by (with_reducible repeat (first | refine bN ?_ _ | refine bD ?_ | refine bA ?_ _)); exact BK410.out⟩, ⟨by (with_reducible repeat (first | refine bN ?_ _ | refine bD ?_ | refine bA ?_ _)); exact BK418.out⟩, ⟨by (with_reducible repeat (first | refine bN ?_ _ | refine bD ?_ | refine bA ?_ _)); exact BK425.out⟩, ⟨by repeat (first | (with_reducible first | exact HB.out | apply wA | apply wN | apply wD | refine below_set ?_ GE404.out | refine below_set ?_ GE410.out | refine below_set ?_ GE418.out | refine below_set ?_ GE425.out) | exact HB.out)⟩⟩
                      · rw [if_neg c59] at H
                        have c59b0 : (t424 == 0) = false := beq_eq_false_iff_ne.mpr c59
                        have c59b1 : (t424 != 0) = true := bne_iff_ne.mpr c59
                        have H' := ak H
                        clear H
                        go_wp2
                        go_meet
                        case rel => exact ⟨_, (true), (by first | rfl | (simp; done) | (simp [*]; done)), H', ⟨by have := HJ5.out; have := HJ20.out; have := HJ27.out; first | omega | exact Nat.le_refl _⟩, ⟨by (with_reducible repeat (first | apply Kd.R_alloc | apply Kd.R_drewN | apply Kd.R_drew)); exact HO_405001.out⟩, ⟨by (with_reducible repeat (first | apply Kd.R_alloc | apply Kd.R_drewN | apply Kd.R_drew)); exact HO_411001.out⟩, ⟨by (with_reducible repeat (first | apply vA | apply vN | apply vD)); exact HO_419001.out⟩, ⟨by (with_reducible repeat (first | apply vA | apply vN | apply vD)); exact HO_426001.out⟩, ⟨by (with_reducible repeat (first | refine bN ?_ _ | refine bD ?_ | refine bA ?_ _)); exact BK404.out⟩, ⟨by (with_reducible repeat (first | refine bN ?_ _ | refine bD ?_ | refine bA ?_ _)); exact BK410.out⟩, ⟨by (with_reducible repeat (first | refine bN ?_ _ | refine bD ?_ | refine bA ?_ _)); exact BK418.out⟩, ⟨by (with_reducible repeat (first | refine bN ?_ _ | refine bD ?_ | refine bA ?_ _)); exact BK425.out⟩, ⟨by repeat (first | (with_reducible first | exact HB.out | apply wA | apply wN | apply wD | refine below_set ?_ GE404.out | refine below_set ?_ GE410.out | refine below_set ?_ GE418.out | refine below_set ?_ GE425.out) | exact HB.out)⟩⟩
                    · rw [if_neg c58] at H
                      have c58b0 : (t417 == 0) = false := beq_eq_false_iff_ne.mpr c58
                      have c58b1 : (t417 != 0) = true := bne_iff_ne.mpr c58
                      (first | rw [c58b0] | (simp only [i64_w, i32_w]; rw [c58b0]) | skip)
                      have H' := ak H
                      clear H
                      go_wp2
                      go_meet
                      case rel => exact ⟨_, (false), (by first | rfl | (simp; done) | (simp [*]; done)), H', ⟨by have := HJ5.out; have := HJ20.out; have := HJ27.out; first | omega | exact Nat.le_refl _⟩, ⟨by (with_reducible repeat (first | apply Kd.R_alloc | apply Kd.R_drewN | apply Kd.R_drew)); exact HO_405001.out⟩, ⟨by (with_reducible repeat (first | apply Kd.R_alloc | apply Kd.R_drewN | apply Kd.R_drew)); exact HO_411001.out⟩, ⟨by (with_reducible repeat (first | apply vA | apply vN | apply vD)); exact HO_419001.out⟩, ⟨by (with_reducible repeat (first | apply vA | apply vN | apply vD)); exact HO_426001.out⟩, ⟨by (with_reducible repeat (first | refine bN ?_ _ | refine bD ?_ | refine bA ?_ _)); exact BK404.out⟩, ⟨by (with_reducible repeat (first | refine bN ?_ _ | refine bD ?_ | refine bA ?_ _)); exact BK410.out⟩, ⟨by (with_reducible repeat (first | refine bN ?_ _ | refine bD ?_ | refine bA ?_ _)); exact BK418.out⟩, ⟨by (with_reducible repeat (first | refine bN ?_ _ | refine bD ?_ | refine bA ?_ _)); exact BK425.out⟩, ⟨by repeat (first | (with_reducible first | exact HB.out | apply wA | apply wN | apply wD | refine below_set ?_ GE404.out | refine below_set ?_ GE410.out | refine below_set ?_ GE418.out | refine below_set ?_ GE425.out) | exact HB.out)⟩⟩
                  case rest =>
                    clear HC57
                    try clear c1
                    try clear c2
                    try clear p2
                    try clear c3
                    try clear c4
                    try clear c5
                    try clear c6
                    try clear c7
                    try clear c9
                    try clear c10
                    try clear c13
                    try clear c15
                    try clear c16
                    try clear c16b0
                    try clear c16b1
                    try clear c17
                    try clear c17b0
                    try clear c17b1
                    try clear c18
                    try clear c22
                    try clear c22b0
                    try clear c23
                    try clear c29
                    try clear c34
                    try clear c35
                    try clear c43
                    try clear c44
                    try clear c45
                    try clear c48
                    try clear c48b0
                    try clear c49
                    try clear c50
                    try clear c51
                    try clear c53
                    try clear c54
                    try clear c56
                    try clear c58
                    try clear c58b0
                    try clear c58b1
                    try clear c59
                    try clear c59b0
                    try clear c59b1
                    try clear c60
                    try clear c60b0
                    try clear c60b1
                    try clear c61
                    try clear c62
                    try clear c63
                    try clear c65
                    try clear c66
                    try clear c68
                    try clear c69
                    try clear c70
                    try clear c72
                    try clear c73
                    try clear hcz14_0
                    try clear hcz14_1
                    try clear hcz24_0
                    try clear hcz24_1
                    try clear hcz25_0
                    try clear hcz25_1
                    try clear hcz30_0
                    try clear hcz30_1
                    try clear hcz36_0
                    try clear hcz36_1
                    try clear hcz39_0
                    try clear hcz39_1
                    try clear hcz46_0
                    try clear hcz46_1
                    try clear hcz52_0
                    try clear hcz52_1
                    try clear hcz55_0
                    try clear hcz55_1
                    try clear hcz64_0
                    try clear hcz64_1
                    try clear hcz67_0
                    try clear hcz67_1
                    try clear hcz71_0
                    try clear hcz71_1
                    try clear hcz74_0
                    try clear hcz74_1
                    try clear hcz9_0
                    try clear hcz9_1
                    try clear hfz14_0
                    try clear hfz14_1
                    try clear hfz24_0
                    try clear hfz24_1
                    try clear hfz25_0
                    try clear hfz25_1
                    try clear hfz30_0
                    try clear hfz30_1
                    try clear hfz36_0
                    try clear hfz36_1
                    try clear hfz39_0
                    try clear hfz39_1
                    try clear hfz46_0
                    try clear hfz46_1
                    try clear hfz52_0
                    try clear hfz52_1
                    try clear hfz55_0
                    try clear hfz55_1
                    try clear hfz64_0
                    try clear hfz64_1
                    try clear hfz67_0
                    try clear hfz67_1
                    try clear hfz71_0
                    try clear hfz71_1
                    try clear hfz74_0
                    try clear hfz74_1
                    try clear hfz9_0
                    try clear hfz9_1
                    try clear p2
                    obtain ⟨kq, x83_56, rfl, HA, HJ56, HO_405001, HO_411001, HO_419001, HO_426001, BK404, BK410, BK418, BK425, HB⟩ := hcut
                    cases kq with
                    | zero => exact absurd HA.out (by simp [mummerlaw16_FuelMore.j3])
                    | succ kj56 =>
                      have H := HA.out
                      clear HA
                      simp only [mummerlaw16_FuelMore.j3] at H
                      by_cases c75 : x83_56 = true
                      · subst c75
                        have H1 : (some false) = some r := by rw [if_pos rfl] at H; exact H
                        clear H
                        have H := H1
                        clear H1
                        exact absurd ((Option.some.inj H).trans hrt.out) (by decide)
                      · replace c75 := Bool.eq_false_iff.mpr c75
                        subst c75
                        have H1 : (if t417 = 5 then ((mummerlaw16_awake.f kj56).bind fun t426 => (some t426)) else (if t424 = t417 then (if t416 = t423 then ((mummerlaw16_awake.f kj56).bind fun t427 => (some t427)) else (some false)) else (some false))) = some r := by rw [if_neg (show ¬ (false = true) by decide)] at H; exact H
                        clear H
                        have H := H1
                        clear H1
                        by_cases c76 : t417 = 5
                        · rw [if_pos c76] at H
                          have c76b0 : (t417 == 5) = true := beq_iff_eq.mpr c76
                          have c76b1 : (t417 != 5) = false := bne_eq_false_iff_eq.mpr c76
                          clear c76
                          replace H := Option.bind_eq_some_iff.mp H
                          obtain ⟨t426, A770, H⟩ := H
                          replace H : (some t426) = some r := H
                          have A77 := ak A770
                          clear A770
                          obtain rfl := Option.some.inj H
                          go_wp2_with (first | ((with_reducible refine gate_callee (f := 9) rfl ?_); refine goesL_ (some 96) rfl rfl Try.func9 (by kernel_rfl) rfl #[] rfl (by (try simp only [List.map_toArray, List.map_cons, List.map_nil]); first | done | rfl | (simp only [List.length_drop, List.length_take]; rfl)) ?_; (with_reducible refine (mummerlaw16_awake.calls kj56  t426 _ hrt A77.out).mono ?_); rintro e w78 ⟨rfl, hb⟩; refine ⟨_, rfl, ?_⟩; have n0_ := ak (Kd.R_below (by (with_reducible repeat (first | apply Kd.R_alloc | apply Kd.R_drewN | apply Kd.R_drew)); exact HO_405001.out) hb); have n1_ := ak (Kd.R_below (by (with_reducible repeat (first | apply Kd.R_alloc | apply Kd.R_drewN | apply Kd.R_drew)); exact HO_411001.out) hb); have n2_ := ak (Kd.V_below (by (with_reducible repeat (first | apply vA | apply vN | apply vD)); exact HO_419001.out) hb); have n3_ := ak (Kd.V_below (by (with_reducible repeat (first | apply vA | apply vN | apply vD)); exact HO_426001.out) hb); have n4_ := ak (blk_below (g := gb404) (o := .cells #[.int .i64 x405000_20, .slice Ao31 x405001_20.length co31] 24 (0, 0)) (by (with_reducible repeat (first | refine bN ?_ _ | refine bD ?_ | refine bA ?_ _)); exact BK404.out) hb); have n5_ := ak (blk_below (g := gb410) (o := .cells #[.int .i64 x411000_20, .slice Ao40 x411001_20.length co40] 24 (0, 0)) (by (with_reducible repeat (first | refine bN ?_ _ | refine bD ?_ | refine bA ?_ _)); exact BK410.out) hb); have n6_ := ak (blk_below (g := gb418) (o := .cells #[.int .i64 t412, .slice Ao37 t413.length co37] 24 (0, 0)) (by (with_reducible repeat (first | refine bN ?_ _ | refine bD ?_ | refine bA ?_ _)); exact BK418.out) hb); have n7_ := ak (blk_below (g := gb425) (o := .cells #[.int .i64 t419, .slice Ao47 t420.length co47] 24 (0, 0)) (by (with_reducible repeat (first | refine bN ?_ _ | refine bD ?_ | refine bA ?_ _)); exact BK425.out) hb); have n8_ := ak (below_step (by repeat (first | (with_reducible first | exact HB.out | apply wA | apply wN | apply wD | refine below_set ?_ GE404.out | refine below_set ?_ GE410.out | refine below_set ?_ GE418.out | refine below_set ?_ GE425.out) | exact HB.out)) hb); clear HO_405001; clear HO_411001; clear HO_419001; clear HO_426001; clear BK404; clear BK410; clear BK418; clear BK425; clear HB; have HO_405001 := n0_; have HO_411001 := n1_; have HO_419001 := n2_; have HO_426001 := n3_; have BK404 := n4_; have BK410 := n5_; have BK418 := n6_; have BK425 := n7_; have HB := n8_; clear n0_ n1_ n2_ n3_ n4_ n5_ n6_ n7_ n8_; (try clear hb); (try clear hb2); (try clear hk); (try clear hi)))
                          go_ret
                          exact ⟨by first | rfl | (simp [errW_none, errW_some] <;> rfl) | (simp [*, errW_none, errW_some] <;> rfl), by repeat (first | (with_reducible first | exact HB.out | apply wA | apply wN | apply wD | refine below_set ?_ GE404.out | refine below_set ?_ GE410.out | refine below_set ?_ GE418.out | refine below_set ?_ GE425.out) | exact HB.out)⟩
                        · rw [if_neg c76] at H
                          have c76b0 : (t417 == 5) = false := beq_eq_false_iff_ne.mpr c76
                          have c76b1 : (t417 != 5) = true := bne_iff_ne.mpr c76
                          by_cases c79 : t424 = t417
                          · rw [if_pos c79] at H
                            have c79b0 : (t424 == t417) = true := beq_iff_eq.mpr c79
                            have c79b1 : (t424 != t417) = false := bne_eq_false_iff_eq.mpr c79
                            clear c79
                            by_cases c80 : t416 = t423
                            · rw [if_pos c80] at H
                              have c80b0 : (t416 == t423) = true := beq_iff_eq.mpr c80
                              have c80b1 : (t416 != t423) = false := bne_eq_false_iff_eq.mpr c80
                              clear c80
                              replace H := Option.bind_eq_some_iff.mp H
                              obtain ⟨t427, A810, H⟩ := H
                              replace H : (some t427) = some r := H
                              have A81 := ak A810
                              clear A810
                              obtain rfl := Option.some.inj H
                              go_wp2_with (first | ((with_reducible refine gate_callee (f := 9) rfl ?_); refine goesL_ (some 96) rfl rfl Try.func9 (by kernel_rfl) rfl #[] rfl (by (try simp only [List.map_toArray, List.map_cons, List.map_nil]); first | done | rfl | (simp only [List.length_drop, List.length_take]; rfl)) ?_; (with_reducible refine (mummerlaw16_awake.calls kj56  t427 _ hrt A81.out).mono ?_); rintro e w82 ⟨rfl, hb⟩; refine ⟨_, rfl, ?_⟩; have n0_ := ak (Kd.R_below (by (with_reducible repeat (first | apply Kd.R_alloc | apply Kd.R_drewN | apply Kd.R_drew)); exact HO_405001.out) hb); have n1_ := ak (Kd.R_below (by (with_reducible repeat (first | apply Kd.R_alloc | apply Kd.R_drewN | apply Kd.R_drew)); exact HO_411001.out) hb); have n2_ := ak (Kd.V_below (by (with_reducible repeat (first | apply vA | apply vN | apply vD)); exact HO_419001.out) hb); have n3_ := ak (Kd.V_below (by (with_reducible repeat (first | apply vA | apply vN | apply vD)); exact HO_426001.out) hb); have n4_ := ak (blk_below (g := gb404) (o := .cells #[.int .i64 x405000_20, .slice Ao31 x405001_20.length co31] 24 (0, 0)) (by (with_reducible repeat (first | refine bN ?_ _ | refine bD ?_ | refine bA ?_ _)); exact BK404.out) hb); have n5_ := ak (blk_below (g := gb410) (o := .cells #[.int .i64 x411000_20, .slice Ao40 x411001_20.length co40] 24 (0, 0)) (by (with_reducible repeat (first | refine bN ?_ _ | refine bD ?_ | refine bA ?_ _)); exact BK410.out) hb); have n6_ := ak (blk_below (g := gb418) (o := .cells #[.int .i64 t412, .slice Ao37 t413.length co37] 24 (0, 0)) (by (with_reducible repeat (first | refine bN ?_ _ | refine bD ?_ | refine bA ?_ _)); exact BK418.out) hb); have n7_ := ak (blk_below (g := gb425) (o := .cells #[.int .i64 t419, .slice Ao47 t420.length co47] 24 (0, 0)) (by (with_reducible repeat (first | refine bN ?_ _ | refine bD ?_ | refine bA ?_ _)); exact BK425.out) hb); have n8_ := ak (below_step (by repeat (first | (with_reducible first | exact HB.out | apply wA | apply wN | apply wD | refine below_set ?_ GE404.out | refine below_set ?_ GE410.out | refine below_set ?_ GE418.out | refine below_set ?_ GE425.out) | exact HB.out)) hb); clear HO_405001; clear HO_411001; clear HO_419001; clear HO_426001; clear BK404; clear BK410; clear BK418; clear BK425; clear HB; have HO_405001 := n0_; have HO_411001 := n1_; have HO_419001 := n2_; have HO_426001 := n3_; have BK404 := n4_; have BK410 := n5_; have BK418 := n6_; have BK425 := n7_; have HB := n8_; clear n0_ n1_ n2_ n3_ n4_ n5_ n6_ n7_ n8_; (try clear hb); (try clear hb2); (try clear hk); (try clear hi)))
                              go_ret
                              exact ⟨by first | rfl | (simp [errW_none, errW_some] <;> rfl) | (simp [*, errW_none, errW_some] <;> rfl), by repeat (first | (with_reducible first | exact HB.out | apply wA | apply wN | apply wD | refine below_set ?_ GE404.out | refine below_set ?_ GE410.out | refine below_set ?_ GE418.out | refine below_set ?_ GE425.out) | exact HB.out)⟩
                            · rw [if_neg c80] at H
                              have c80b0 : (t416 == t423) = false := beq_eq_false_iff_ne.mpr c80
                              have c80b1 : (t416 != t423) = true := bne_iff_ne.mpr c80
                              exact absurd ((Option.some.inj H).trans hrt.out) (by decide)
                          · rw [if_neg c79] at H
                            have c79b0 : (t424 == t417) = false := beq_eq_false_iff_ne.mpr c79
                            have c79b1 : (t424 != t417) = true := bne_iff_ne.mpr c79
                            exact absurd ((Option.some.inj H).trans hrt.out) (by decide)

end Go.Proofs.Ytpophcogdekgkaa.P
