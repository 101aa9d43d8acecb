-- Written by wip/tools/myprint.py of this session over the kit's print; Lean checks it.
import Derived.Test.YtpophcogdekgkaaPx0
import Derived.Test.YtpophcogdekgkaaPx10
import Derived.Test.YtpophcogdekgkaaPx11
import Derived.Test.YtpophcogdekgkaaPx12
import Derived.Test.YtpophcogdekgkaaPx22
import Derived.Test.YtpophcogdekgkaaPx27
namespace Go.Proofs.Ytpophcogdekgkaa.P
open Go.RowKit Go.Proofs.YtpophcogdekgkaaW.PrintWords Go.Proofs.YtpophcogdekgkaaW.PrintLast Go.Proofs.YtpophcogdekgkaaW.PrintMore
attribute [local go_sem] max2_int min2_int max_two min_two max_three min_three max_four min_four   -- for this text's walks alone
set_option linter.unusedVariables false
set_option linter.unusedSimpArgs false

/-! ### mummerlaw16_FuelParts: function 7 -/
mutual
def mummerlaw16_FuelParts.j0 : Nat → Int → List Int → Int → Bool → Int → List Int → Option (Bool)
  | 0, _, _, _, _, _, _ => none
  | k + 1, x1, x2, x7, x33, x504000, x504001 => if x33 = true then ((mummerlaw16_awake.f k).bind fun t506 => (some t506)) else ((fuel_Open.f k x504000 x504001 x1).bind fun bt507 => (if bt507.2.2 = 0 then (mummerlaw16_FuelParts.l0 k x1 x2 x7 0 0 x504000 x504001 bt507.1 bt507.2.1) else (if bt507.2.2 = 7 then ((mummerref16_Same.f k x504000 x504001 bt507.1 bt507.2.1).bind fun t513 => (if t513 = true then ((mummerlaw16_awake.f k).bind fun t514 => (some t514)) else (some false))) else (if bt507.2.2 = 3 then ((mummerref16_Same.f k x504000 x504001 bt507.1 bt507.2.1).bind fun t515 => (if t515 = true then ((mummerlaw16_awake.f k).bind fun t516 => (some t516)) else (some false))) else (some false)))))
def mummerlaw16_FuelParts.l0 : Nat → Int → List Int → Int → Int → Int → Int → List Int → Int → List Int → Option (Bool)
  | 0, _, _, _, _, _, _, _, _, _ => none
  | k + 1, x1, x2, x7, x10, x11, x504000, x504001, x513000, x513001 => if x11 < (x2.length : Int) then (if 0 ≤ x11 then ((fuel_Spend.f k x513000 x513001 (rd x2 x11)).bind fun bt518 => (if bt518.2.2 = 0 then (mummerlaw16_FuelParts.l0 k x1 x2 x7 (wrap64 (x10 + (rd x2 x11))) (wrap64 (x11 + 1)) x504000 x504001 bt518.1 bt518.2.1) else (mummerlaw16_FuelParts.l0 k x1 x2 x7 x10 (wrap64 (x11 + 1)) x504000 x504001 x513000 x513001))) else (none)) else (if x10 > x1 then (mummerlaw16_FuelParts.j2 k x7 x10 true x504000 x504001 x513000 x513001) else (mummerlaw16_FuelParts.j2 k x7 x10 (decide (x10 > x7)) x504000 x504001 x513000 x513001))
def mummerlaw16_FuelParts.j2 : Nat → Int → Int → Bool → Int → List Int → Int → List Int → Option (Bool)
  | 0, _, _, _, _, _, _, _ => none
  | k + 1, x7, x10, x88, x504000, x504001, x513000, x513001 => if x88 = true then (some false) else ((fuel_Close.f k x513000 x513001).bind fun bt525 => ((fuel_Left.f k bt525.1 bt525.2.1).bind fun bt530 => (if bt525.2.2 = 0 then (if bt530.2 = 0 then (if bt530.1 = (wrap64 (x7 - x10)) then (if (bt525.2.1.length : Int) = (x504001.length : Int) then (if bt525.1 = (wrap64 (x504000 + x10)) then ((mummerlaw16_awake.f k).bind fun t532 => (some t532)) else (some false)) else (some false)) else (some false)) else (some false)) else (some false))))
end
def mummerlaw16_FuelParts.f (k : Nat) (a0_0 : Int) (l0_1 : List Int) (a1 : Int) (l2 : List Int) : Option (Bool) := (fuel_Left.f k a0_0 l0_1).bind fun bt504 => (if (l2.length : Int) > 100 then (mummerlaw16_FuelParts.j0 k a1 l2 bt504.1 true a0_0 l0_1) else (if (l0_1.length : Int) > 300 then (mummerlaw16_FuelParts.j0 k a1 l2 bt504.1 true a0_0 l0_1) else (mummerlaw16_FuelParts.j0 k a1 l2 bt504.1 (bt504.2 != 0) a0_0 l0_1)))
theorem mummerlaw16_FuelParts.mono_l : ∀ k, (∀ y0 y1 y2 y3 y4 y5, LeO (mummerlaw16_FuelParts.j0 k y0 y1 y2 y3 y4 y5) (mummerlaw16_FuelParts.j0 (k + 1) y0 y1 y2 y3 y4 y5)) ∧ (∀ y0 y1 y2 y3 y4 y5 y6 y7 y8, LeO (mummerlaw16_FuelParts.l0 k y0 y1 y2 y3 y4 y5 y6 y7 y8) (mummerlaw16_FuelParts.l0 (k + 1) y0 y1 y2 y3 y4 y5 y6 y7 y8)) ∧ (∀ y0 y1 y2 y3 y4 y5 y6, LeO (mummerlaw16_FuelParts.j2 k y0 y1 y2 y3 y4 y5 y6) (mummerlaw16_FuelParts.j2 (k + 1) y0 y1 y2 y3 y4 y5 y6))
  | 0 => ⟨fun _ _ _ _ _ _ r h => by simp [mummerlaw16_FuelParts.j0] at h, fun _ _ _ _ _ _ _ _ _ r h => by simp [mummerlaw16_FuelParts.l0] at h, fun _ _ _ _ _ _ _ r h => by simp [mummerlaw16_FuelParts.j2] at h⟩
  | k + 1 => by
    obtain ⟨ih0, ih1, ih2⟩ := mummerlaw16_FuelParts.mono_l k
    refine ⟨?_, ?_, ?_⟩
    · intro y0 y1 y2 y3 y4 y5
      unfold mummerlaw16_FuelParts.j0
      repeat' first
      | (with_reducible exact ih0 _ _ _ _ _ _)
      | (with_reducible exact ih1 _ _ _ _ _ _ _ _ _)
      | (with_reducible exact ih2 _ _ _ _ _ _ _)
      | (with_reducible exact fuel_Close.mono _ _ _)
      | (with_reducible exact fuel_Left.mono _ _ _)
      | (with_reducible exact fuel_Open.mono _ _ _ _)
      | (with_reducible exact fuel_Spend.mono _ _ _ _)
      | (with_reducible exact mummerlaw16_awake.mono _)
      | (with_reducible exact mummerref16_Same.mono _ _ _ _ _)
      | (with_reducible exact LeO.refl _)
      | (with_reducible exact LeO.none _)
      | (with_reducible refine LeO.ite ?_ ?_)
      | (with_reducible refine LeO.bind ?_ (fun _ => ?_))
      | exact ih0 _ _ _ _ _ _
      | exact ih1 _ _ _ _ _ _ _ _ _
      | exact ih2 _ _ _ _ _ _ _
      | exact fuel_Close.mono _ _ _
      | exact fuel_Left.mono _ _ _
      | exact fuel_Open.mono _ _ _ _
      | exact fuel_Spend.mono _ _ _ _
      | exact mummerlaw16_awake.mono _
      | exact mummerref16_Same.mono _ _ _ _ _
      | exact LeO.none _
      | refine LeO.ite ?_ ?_
      | refine LeO.bind ?_ (fun _ => ?_)
    · intro y0 y1 y2 y3 y4 y5 y6 y7 y8
      unfold mummerlaw16_FuelParts.l0
      repeat' first
      | (with_reducible exact ih0 _ _ _ _ _ _)
      | (with_reducible exact ih1 _ _ _ _ _ _ _ _ _)
      | (with_reducible exact ih2 _ _ _ _ _ _ _)
      | (with_reducible exact fuel_Close.mono _ _ _)
      | (with_reducible exact fuel_Left.mono _ _ _)
      | (with_reducible exact fuel_Open.mono _ _ _ _)
      | (with_reducible exact fuel_Spend.mono _ _ _ _)
      | (with_reducible exact mummerlaw16_awake.mono _)
      | (with_reducible exact mummerref16_Same.mono _ _ _ _ _)
      | (with_reducible exact LeO.refl _)
      | (with_reducible exact LeO.none _)
      | (with_reducible refine LeO.ite ?_ ?_)
      | (with_reducible refine LeO.bind ?_ (fun _ => ?_))
      | exact ih0 _ _ _ _ _ _
      | exact ih1 _ _ _ _ _ _ _ _ _
      | exact ih2 _ _ _ _ _ _ _
      | exact fuel_Close.mono _ _ _
      | exact fuel_Left.mono _ _ _
      | exact fuel_Open.mono _ _ _ _
      | exact fuel_Spend.mono _ _ _ _
      | exact mummerlaw16_awake.mono _
      | exact mummerref16_Same.mono _ _ _ _ _
      | exact LeO.none _
      | refine LeO.ite ?_ ?_
      | refine LeO.bind ?_ (fun _ => ?_)
    · intro y0 y1 y2 y3 y4 y5 y6
      unfold mummerlaw16_FuelParts.j2
      repeat' first
      | (with_reducible exact ih0 _ _ _ _ _ _)
      | (with_reducible exact ih1 _ _ _ _ _ _ _ _ _)
      | (with_reducible exact ih2 _ _ _ _ _ _ _)
      | (with_reducible exact fuel_Close.mono _ _ _)
      | (with_reducible exact fuel_Left.mono _ _ _)
      | (with_reducible exact fuel_Open.mono _ _ _ _)
      | (with_reducible exact fuel_Spend.mono _ _ _ _)
      | (with_reducible exact mummerlaw16_awake.mono _)
      | (with_reducible exact mummerref16_Same.mono _ _ _ _ _)
      | (with_reducible exact LeO.refl _)
      | (with_reducible exact LeO.none _)
      | (with_reducible refine LeO.ite ?_ ?_)
      | (with_reducible refine LeO.bind ?_ (fun _ => ?_))
      | exact ih0 _ _ _ _ _ _
      | exact ih1 _ _ _ _ _ _ _ _ _
      | exact ih2 _ _ _ _ _ _ _
      | exact fuel_Close.mono _ _ _
      | exact fuel_Left.mono _ _ _
      | exact fuel_Open.mono _ _ _ _
      | exact fuel_Spend.mono _ _ _ _
      | exact mummerlaw16_awake.mono _
      | exact mummerref16_Same.mono _ _ _ _ _
      | exact LeO.none _
      | refine LeO.ite ?_ ?_
      | refine LeO.bind ?_ (fun _ => ?_)
theorem mummerlaw16_FuelParts.mono : ∀ a0 a1 a2 a3 k, LeO (mummerlaw16_FuelParts.f k a0 a1 a2 a3) (mummerlaw16_FuelParts.f (k + 1) a0 a1 a2 a3) := by
  intro a0 a1 a2 a3 k
  obtain ⟨ih0, ih1, ih2⟩ := mummerlaw16_FuelParts.mono_l k
  unfold mummerlaw16_FuelParts.f
  repeat' first
      | (with_reducible exact ih0 _ _ _ _ _ _)
      | (with_reducible exact ih1 _ _ _ _ _ _ _ _ _)
      | (with_reducible exact ih2 _ _ _ _ _ _ _)
      | (with_reducible exact fuel_Close.mono _ _ _)
      | (with_reducible exact fuel_Left.mono _ _ _)
      | (with_reducible exact fuel_Open.mono _ _ _ _)
      | (with_reducible exact fuel_Spend.mono _ _ _ _)
      | (with_reducible exact mummerlaw16_awake.mono _)
      | (with_reducible exact mummerref16_Same.mono _ _ _ _ _)
      | (with_reducible exact LeO.refl _)
      | (with_reducible exact LeO.none _)
      | (with_reducible refine LeO.ite ?_ ?_)
      | (with_reducible refine LeO.bind ?_ (fun _ => ?_))
      | exact ih0 _ _ _ _ _ _
      | exact ih1 _ _ _ _ _ _ _ _ _
      | exact ih2 _ _ _ _ _ _ _
      | exact fuel_Close.mono _ _ _
      | exact fuel_Left.mono _ _ _
      | exact fuel_Open.mono _ _ _ _
      | exact fuel_Spend.mono _ _ _ _
      | exact mummerlaw16_awake.mono _
      | exact mummerref16_Same.mono _ _ _ _ _
      | exact LeO.none _
      | refine LeO.ite ?_ ?_
      | refine LeO.bind ?_ (fun _ => ?_)
def mummerlaw16_FuelParts.T11 : Bool × List (List Nat × List Nat) := (true, [([], []), ([], []), ([], []), ([1, 2], [1, 2]), ([3], [3]), ([0, 4], [0, 4]), ([5], [5]), ([6], [6]), ([6], [6]), ([], []), ([9, 7, 5, 0, 1, 2, 3, 4, 5, 6, 7, 9], [7, 9]), ([8, 10, 0, 1, 2, 3, 4, 5, 6, 7, 8, 9, 10], [8])])
def mummerlaw16_FuelParts.B11 : List Nat := [0, 0, 0, 6, 14, 31, 63, 127, 127, 0, 767, 2047]
theorem mummerlaw16_FuelParts.tab11 : rtab .any (opsOf Try.f7 11) = mummerlaw16_FuelParts.T11 := by kernel_rfl
theorem mummerlaw16_FuelParts.bits11 : waitsOk mummerlaw16_FuelParts.T11.2 mummerlaw16_FuelParts.B11 = true := by kernel_rfl
set_option maxHeartbeats 8000000 in
set_option maxRecDepth 100000 in
theorem mummerlaw16_FuelParts.calls (k : Nat) (a0_0 : Int) (A0_1 : Option Addr) (c0_1 : Nat) (l0_1 : List Int) (a1 : Int) (A2 : Option Addr) (c2 : Nat) (l2 : List Int) (r : Bool) (w : World) (hr0_1 : Kd.C (Kd.int .i64) w A0_1 l0_1.length l0_1) (hc0_1 : l0_1.length ≤ c0_1) (hr2 : Kd.C (Kd.int .i64) w A2 l2.length l2) (hc2 : l2.length ≤ c2) (hrt : Aside0 (r = true)) (h : mummerlaw16_FuelParts.f k a0_0 l0_1 a1 l2 = some r) :
    Calls Try.prog 7 #[.agg #[.int .i64 a0_0, .slice A0_1 l0_1.length c0_1], .int .i64 a1, .slice A2 l2.length c2] w fun e w' => e = .returned (.bool r) ∧ Below w.heap.size w w' := by
  have hu24 := Try.underlying24
  have HR0_1 := ak hr0_1
  have HC0_1 := ak hc0_1
  clear hr0_1 hc0_1
  have HR2 := ak hr2
  have HC2 := ak hc2
  clear hr2 hc2
  have HB := ak (Below.refl w.heap.size w)
  have H : ((fuel_Left.f k a0_0 l0_1).bind fun bt504 => (if (l2.length : Int) > 100 then (mummerlaw16_FuelParts.j0 k a1 l2 bt504.1 true a0_0 l0_1) else (if (l0_1.length : Int) > 300 then (mummerlaw16_FuelParts.j0 k a1 l2 bt504.1 true a0_0 l0_1) else (mummerlaw16_FuelParts.j0 k a1 l2 bt504.1 (bt504.2 != 0) a0_0 l0_1)))) = some r := h
  clear h
  replace H := Option.bind_eq_some_iff.mp H
  obtain ⟨⟨t504, t505⟩, A40, H⟩ := H
  replace H : (if (l2.length : Int) > 100 then (mummerlaw16_FuelParts.j0 k a1 l2 t504 true a0_0 l0_1) else (if (l0_1.length : Int) > 300 then (mummerlaw16_FuelParts.j0 k a1 l2 t504 true a0_0 l0_1) else (mummerlaw16_FuelParts.j0 k a1 l2 t504 (t505 != 0) a0_0 l0_1))) = some r := H
  have A4 := ak A40
  clear A40
  have HC5 := ak H
  clear H
  go_enter Try.func7, Try.ntmps7
  go_upto_region 2 with (first | ((with_reducible refine gate_dst (N := 3) rfl ?_); (try (refine gate_guard (by rfl) ?_; dsimp only)); refine box_event ?hg (N := 3) ?hd (cs := #[.int .i64 a0_0, .slice A0_1 l0_1.length c0_1]) (t := 24) ?hr ?_; (case hd => rfl); (case hg => rfl); (case hr => first | (go_simp; done) | (go_simp; rfl)); intro gb503 hg w6 hbox hb; have n0_ := ak (below_step (by repeat (first | (with_reducible first | exact HB.out | apply wA | apply wN | apply wD) | exact HB.out)) hb); have n1_ := ak (hbox); have n2_ := ak ((by rw [hg]; exact (below_size (by repeat (first | (with_reducible first | exact HB.out | apply wA | apply wN | apply wD) | exact HB.out))) : w.heap.size ≤ gb503)); have n3_ := ak ((by rw [hg]; exact (below_size (by repeat (first | (with_reducible first | exact HB.out | apply wA | apply wN | apply wD) | exact HB.out))) : w.heap.size ≤ gb503)); clear HB; have HB := n0_; have BK503 := n1_; have GW503 := n2_; have GE503 := n3_; clear n0_ n1_ n2_ n3_; clear hb hbox hg; have hcz7_0 : w6.cell? ⟨gb503, 0, none⟩ = some (.int .i64 a0_0) := (blk_cell BK503.out 0).trans rfl; have hcz7_1 : w6.cell? ⟨gb503, 1, none⟩ = some (.slice A0_1 l0_1.length c0_1) := (blk_cell BK503.out 1).trans rfl; have hfz7_0 := blk_frozen BK503.out 0; have hfz7_1 := blk_frozen BK503.out 1) | ((with_reducible refine gate_callee (f := 18) rfl ?_); refine goesL_ (some 18) rfl rfl Try.func18 (by kernel_rfl) rfl #[.agg #[.int .i64 a0_0, .slice A0_1 l0_1.length c0_1]] rfl (by (try simp only [List.map_toArray, List.map_cons, List.map_nil]); first | done | rfl | (simp only [List.length_drop, List.length_take]; rfl)) ?_; (with_reducible refine (fuel_Left.calls k a0_0 _ _ l0_1 t504 t505 _ ?side1 ?side2 A4.out).mono ?_); (case side1 => repeat (first | exact (Kd.C_below HR0_1.out HB.out) | (with_reducible refine Kd.C_alloc ?_ _) | (with_reducible refine Kd.C_drewN ?_ _) | (with_reducible refine Kd.C_drew ?_))); (case side2 => exact HC0_1.out); rintro e w8 ⟨rfl, hb⟩; refine ⟨_, rfl, ?_⟩; have n0_ := ak (blk_below (g := gb503) (o := .cells #[.int .i64 a0_0, .slice A0_1 l0_1.length c0_1] 24 (0, 0)) (by (with_reducible repeat (first | refine bN ?_ _ | refine bD ?_ | refine bA ?_ _)); exact BK503.out) hb); have n1_ := ak (below_step (by repeat (first | (with_reducible first | exact HB.out | apply wA | apply wN | apply wD | refine below_set ?_ GE503.out) | exact HB.out)) hb); clear BK503; clear HB; have BK503 := n0_; have HB := n1_; clear n0_ n1_; (try clear hb); (try clear hb2); (try clear hk); (try clear hi)))
  (try simp only [Act.put, List.setIfInBounds_toArray, List.set_cons_zero, List.set_cons_succ])
  go_cut [33] (fun v33 wc => ∃ (kq : Nat) (x33_4 : Bool), v33 = .bool x33_4 ∧ Aside0 (mummerlaw16_FuelParts.j0 kq a1 l2 t504 x33_4 a0_0 l0_1 = some r) ∧ Aside0 (kq ≤ k) ∧ Aside0 (wc.heap[gb503]? = some (.cells #[.int .i64 a0_0, (.slice A0_1 l0_1.length c0_1)] 24 (0, 0))) ∧ Aside0 (Below w.heap.size w wc))
  case first =>
    have H := HC5.out
    clear HC5
    by_cases c9 : (l2.length : Int) > 100
    · rw [if_pos c9] at H
      have c9b0 : decide (100 < (l2.length : Int)) = true := decide_eq_true c9
      have c9b1 : decide (100 < l2.length) = true := decide_eq_true (by omega)
      clear c9
      (first | rw [c9b0] | (simp only [i64_w, i32_w]; rw [c9b0]) | skip)
      have H' := ak H
      clear H
      go_wp2
      go_meet
      case rel => exact ⟨_, (true), (by first | rfl | (simp; done) | (simp [*]; done)), H', ⟨by first | omega | exact Nat.le_refl _⟩, ⟨by (with_reducible repeat (first | refine bN ?_ _ | refine bD ?_ | refine bA ?_ _)); exact BK503.out⟩, ⟨by repeat (first | (with_reducible first | exact HB.out | apply wA | apply wN | apply wD | refine below_set ?_ GE503.out) | exact HB.out)⟩⟩
    · rw [if_neg c9] at H
      have c9b0 : decide (100 < (l2.length : Int)) = false := decide_eq_false c9
      have c9b1 : decide (100 < l2.length) = false := decide_eq_false (by omega)
      clear c9
      (first | rw [c9b0] | (simp only [i64_w, i32_w]; rw [c9b0]) | skip)
      by_cases c10 : (l0_1.length : Int) > 300
      · rw [if_pos c10] at H
        have c10b0 : decide (300 < (l0_1.length : Int)) = true := decide_eq_true c10
        have c10b1 : decide (300 < l0_1.length) = true := decide_eq_true (by omega)
        clear c10
        have H' := ak H
        clear H
        have hcz11_0 : w8.cell? ⟨gb503, 0, none⟩ = some (.int .i64 a0_0) := (blk_cell BK503.out 0).trans rfl
        have hcz11_1 : w8.cell? ⟨gb503, 1, none⟩ = some (.slice A0_1 l0_1.length c0_1) := (blk_cell BK503.out 1).trans rfl
        have hfz11_0 := blk_frozen BK503.out 0
        have hfz11_1 := blk_frozen BK503.out 1
        go_wp2
        go_meet
        case rel => exact ⟨_, (true), (by first | rfl | (simp; done) | (simp [*]; done)), H', ⟨by first | omega | exact Nat.le_refl _⟩, ⟨by (with_reducible repeat (first | refine bN ?_ _ | refine bD ?_ | refine bA ?_ _)); exact BK503.out⟩, ⟨by repeat (first | (with_reducible first | exact HB.out | apply wA | apply wN | apply wD | refine below_set ?_ GE503.out) | exact HB.out)⟩⟩
      · rw [if_neg c10] at H
        have c10b0 : decide (300 < (l0_1.length : Int)) = false := decide_eq_false c10
        have c10b1 : decide (300 < l0_1.length) = false := decide_eq_false (by omega)
        clear c10
        have H' := ak H
        clear H
        have hcz12_0 : w8.cell? ⟨gb503, 0, none⟩ = some (.int .i64 a0_0) := (blk_cell BK503.out 0).trans rfl
        have hcz12_1 : w8.cell? ⟨gb503, 1, none⟩ = some (.slice A0_1 l0_1.length c0_1) := (blk_cell BK503.out 1).trans rfl
        have hfz12_0 := blk_frozen BK503.out 0
        have hfz12_1 := blk_frozen BK503.out 1
        go_wp2
        go_meet
        case rel => exact ⟨_, ((t505 != 0)), (by first | rfl | (simp; done) | (simp [*]; done)), H', ⟨by first | omega | exact Nat.le_refl _⟩, ⟨by (with_reducible repeat (first | refine bN ?_ _ | refine bD ?_ | refine bA ?_ _)); exact BK503.out⟩, ⟨by repeat (first | (with_reducible first | exact HB.out | apply wA | apply wN | apply wD | refine below_set ?_ GE503.out) | exact HB.out)⟩⟩
  case rest =>
    clear HC5
    try clear c1
    try clear c2
    try clear p2
    try clear c7
    try clear c9
    try clear c9b0
    try clear c9b1
    try clear c10
    try clear c10b0
    try clear c10b1
    try clear hcz11_0
    try clear hcz11_1
    try clear hcz12_0
    try clear hcz12_1
    try clear hcz7_0
    try clear hcz7_1
    try clear hfz11_0
    try clear hfz11_1
    try clear hfz12_0
    try clear hfz12_1
    try clear hfz7_0
    try clear hfz7_1
    obtain ⟨kq, x33_4, rfl, HA, HJ4, BK503, HB⟩ := hcut
    cases kq with
    | zero => exact absurd HA.out (by simp [mummerlaw16_FuelParts.j0])
    | succ kj4 =>
      have H := HA.out
      clear HA
      simp only [mummerlaw16_FuelParts.j0] at H
      by_cases c13 : x33_4 = true
      · subst c13
        have H1 : ((mummerlaw16_awake.f kj4).bind fun t506 => (some t506)) = some r := by rw [if_pos rfl] at H; exact H
        clear H
        have H := H1
        clear H1
        replace H := Option.bind_eq_some_iff.mp H
        obtain ⟨t506, A140, H⟩ := H
        replace H : (some t506) = some r := H
        have A14 := ak A140
        clear A140
        obtain rfl := Option.some.inj H
        go_wp2_with (first | ((with_reducible refine gate_callee (f := 9) rfl ?_); refine goesL_ (some 34) rfl rfl Try.func9 (by kernel_rfl) rfl #[] rfl (by (try simp only [List.map_toArray, List.map_cons, List.map_nil]); first | done | rfl | (simp only [List.length_drop, List.length_take]; rfl)) ?_; (with_reducible refine (mummerlaw16_awake.calls kj4  t506 _ hrt A14.out).mono ?_); rintro e w15 ⟨rfl, hb⟩; refine ⟨_, rfl, ?_⟩; have n0_ := ak (blk_below (g := gb503) (o := .cells #[.int .i64 a0_0, .slice A0_1 l0_1.length c0_1] 24 (0, 0)) (by (with_reducible repeat (first | refine bN ?_ _ | refine bD ?_ | refine bA ?_ _)); exact BK503.out) hb); have n1_ := ak (below_step (by repeat (first | (with_reducible first | exact HB.out | apply wA | apply wN | apply wD | refine below_set ?_ GE503.out) | exact HB.out)) hb); clear BK503; clear HB; have BK503 := n0_; have HB := n1_; clear n0_ n1_; (try clear hb); (try clear hb2); (try clear hk); (try clear hi)))
        go_ret
        exact ⟨by first | rfl | (simp [errW_none, errW_some] <;> rfl) | (simp [*, errW_none, errW_some] <;> rfl), by repeat (first | (with_reducible first | exact HB.out | apply wA | apply wN | apply wD | refine below_set ?_ GE503.out) | exact HB.out)⟩
      · replace c13 := Bool.eq_false_iff.mpr c13
        subst c13
        have H1 : ((fuel_Open.f kj4 a0_0 l0_1 a1).bind fun bt507 => (if bt507.2.2 = 0 then (mummerlaw16_FuelParts.l0 kj4 a1 l2 t504 0 0 a0_0 l0_1 bt507.1 bt507.2.1) else (if bt507.2.2 = 7 then ((mummerref16_Same.f kj4 a0_0 l0_1 bt507.1 bt507.2.1).bind fun t513 => (if t513 = true then ((mummerlaw16_awake.f kj4).bind fun t514 => (some t514)) else (some false))) else (if bt507.2.2 = 3 then ((mummerref16_Same.f kj4 a0_0 l0_1 bt507.1 bt507.2.1).bind fun t515 => (if t515 = true then ((mummerlaw16_awake.f kj4).bind fun t516 => (some t516)) else (some false))) else (some false))))) = some r := by rw [if_neg (show ¬ (false = true) by decide)] at H; exact H
        clear H
        have H := H1
        clear H1
        replace H := Option.bind_eq_some_iff.mp H
        obtain ⟨⟨t507, t508, t511⟩, A160, H⟩ := H
        replace H : (if t511 = 0 then (mummerlaw16_FuelParts.l0 kj4 a1 l2 t504 0 0 a0_0 l0_1 t507 t508) else (if t511 = 7 then ((mummerref16_Same.f kj4 a0_0 l0_1 t507 t508).bind fun t513 => (if t513 = true then ((mummerlaw16_awake.f kj4).bind fun t514 => (some t514)) else (some false))) else (if t511 = 3 then ((mummerref16_Same.f kj4 a0_0 l0_1 t507 t508).bind fun t515 => (if t515 = true then ((mummerlaw16_awake.f kj4).bind fun t516 => (some t516)) else (some false))) else (some false)))) = some r := H
        have A16 := ak A160
        clear A160
        by_cases c17 : t511 = 0
        · rw [if_pos c17] at H
          have c17b0 : (t511 == 0) = true := beq_iff_eq.mpr c17
          have c17b1 : (t511 != 0) = false := bne_eq_false_iff_eq.mpr c17
          clear c17
          have H' := ak H
          clear H
          have hcz18_0 : wc.cell? ⟨gb503, 0, none⟩ = some (.int .i64 a0_0) := (blk_cell BK503.out 0).trans rfl
          have hcz18_1 : wc.cell? ⟨gb503, 1, none⟩ = some (.slice A0_1 l0_1.length c0_1) := (blk_cell BK503.out 1).trans rfl
          have hfz18_0 := blk_frozen BK503.out 0
          have hfz18_1 := blk_frozen BK503.out 1
          go_wp2_with (first | ((with_reducible refine gate_callee (f := 19) rfl ?_); refine goesL_ (some 38) rfl rfl Try.func19 (by kernel_rfl) rfl #[.agg #[.int .i64 a0_0, .slice A0_1 l0_1.length c0_1], .int .i64 a1] rfl (by (try simp only [List.map_toArray, List.map_cons, List.map_nil]); first | done | rfl | (simp only [List.length_drop, List.length_take]; rfl)) ?_; (with_reducible refine (fuel_Open.calls kj4 a0_0 (fun k_ => k_ < w.heap.size) _ _ l0_1 a1 t507 t508 t511 _ ?side1 A16.out).mono ?_); (case side1 => exact Kd.V_mk HC0_1.out (Kd.F_below (Kd.C_F (Kd.heap_int .i64) HR0_1.out) (by repeat (first | (with_reducible first | exact HB.out | apply wA | apply wN | apply wD | refine below_set ?_ GE503.out) | exact HB.out)))); rintro e w19 ⟨v509, rfl, ho0, hb⟩; refine ⟨_, rfl, ?_⟩; have n0_ := ak (Kd.V_lower (Kd.V_mono (ok' := fun k_ => k_ ≠ gb503) ho0 (fun k_ hk_ => Or.elim hk_ (fun hs_ => fun e_ => Nat.not_le.2 hs_ (by rw [e_]; exact GW503.out)) (fun hn_ => (Kd.freshB (g := gb503) (o := .cells #[.int .i64 a0_0, .slice A0_1 l0_1.length c0_1] 24 (0, 0)) (by (with_reducible repeat (first | refine bN ?_ _ | refine bD ?_ | refine bA ?_ _)); exact BK503.out) k_ hn_)))) (below_size (by repeat (first | (with_reducible first | exact HB.out | apply wA | apply wN | apply wD | refine below_set ?_ GE503.out) | exact HB.out)))); have n1_ := ak (blk_below (g := gb503) (o := .cells #[.int .i64 a0_0, .slice A0_1 l0_1.length c0_1] 24 (0, 0)) (by (with_reducible repeat (first | refine bN ?_ _ | refine bD ?_ | refine bA ?_ _)); exact BK503.out) hb); have n2_ := ak (below_step (by repeat (first | (with_reducible first | exact HB.out | apply wA | apply wN | apply wD | refine below_set ?_ GE503.out) | exact HB.out)) hb); clear BK503; clear HB; have HO510 := n0_; have BK503 := n1_; have HB := n2_; clear n0_ n1_ n2_; (try clear hb); (try clear hb2); (try clear hk); (try clear hi); (try clear ho0)) | ((with_reducible refine gate_dst (N := 9) rfl ?_); (try (refine gate_guard (by rfl) ?_; dsimp only)); refine box_event ?hg (N := 9) ?hd (cs := #[.int .i64 0, .slice none 0 0]) (t := 24) ?hr ?_; (case hd => rfl); (case hg => rfl); (case hr => first | (go_simp; done) | (go_simp; rfl)); intro gb512 hg w20 hbox hb; have n0_ := ak (Kd.V_below (Kd.V_elderB (by (with_reducible repeat (first | apply vA | apply vN | apply vD)); exact HO510.out) gb512 (Nat.le_of_eq hg.symm)) hb); have n1_ := ak (blk_below (g := gb503) (o := .cells #[.int .i64 a0_0, .slice A0_1 l0_1.length c0_1] 24 (0, 0)) (by (with_reducible repeat (first | refine bN ?_ _ | refine bD ?_ | refine bA ?_ _)); exact BK503.out) hb); have n2_ := ak (below_step (by repeat (first | (with_reducible first | exact HB.out | apply wA | apply wN | apply wD | refine below_set ?_ GE503.out) | exact HB.out)) hb); have n3_ := ak (hbox); have n4_ := ak ((by rw [hg]; exact (below_size (by repeat (first | (with_reducible first | exact HB.out | apply wA | apply wN | apply wD | refine below_set ?_ GE503.out) | exact HB.out))) : w.heap.size ≤ gb512)); have n5_ := ak ((by rw [hg]; exact (below_size (by repeat (first | (with_reducible first | exact HB.out | apply wA | apply wN | apply wD | refine below_set ?_ GE503.out) | exact HB.out))) : w.heap.size ≤ gb512)); have n6_ := ak ((by rw [hg]; exact Nat.ne_of_lt (blk_lt (g := gb503) (o := .cells #[.int .i64 a0_0, .slice A0_1 l0_1.length c0_1] 24 (0, 0)) (by (with_reducible repeat (first | refine bN ?_ _ | refine bD ?_ | refine bA ?_ _)); exact BK503.out)) : gb503 ≠ gb512)); have n7_ := ak ((by rw [hg]; exact Nat.ne_of_gt (blk_lt (g := gb503) (o := .cells #[.int .i64 a0_0, .slice A0_1 l0_1.length c0_1] 24 (0, 0)) (by (with_reducible repeat (first | refine bN ?_ _ | refine bD ?_ | refine bA ?_ _)); exact BK503.out)) : gb512 ≠ gb503)); clear HO510; clear BK503; clear HB; have HO510 := n0_; have BK503 := n1_; have HB := n2_; have BK512 := n3_; have GW512 := n4_; have GE512 := n5_; have NB503_512 := n6_; have NB512_503 := n7_; clear n0_ n1_ n2_ n3_ n4_ n5_ n6_ n7_; clear hb hbox hg; have hnb21 := NB512_503.out; have hnc21 := NB503_512.out; have hcz22_0 : w20.cell? ⟨gb512, 0, none⟩ = some (.int .i64 0) := (blk_cell BK512.out 0).trans rfl; have hcz22_1 : w20.cell? ⟨gb512, 1, none⟩ = some (.slice none 0 0) := (blk_cell BK512.out 1).trans rfl; have hfz22_0 := blk_frozen BK512.out 0; have hfz22_1 := blk_frozen BK512.out 1; obtain ⟨Ao23, co23, eo23⟩ := Kd.V_slice HO510.out; subst eo23))
          go_loopg [10, 11] kj4 (fun kq v10 v11 w' => ∃ (x10_2 : Int) (x11_2 : Int) (x513000_2 : Int) (x513001_2 : List Int) (u513001 : Value), v10 = .int .i64 x10_2 ∧ v11 = .int .i64 x11_2 ∧ Aside0 (mummerlaw16_FuelParts.l0 kq a1 l2 t504 x10_2 x11_2 a0_0 l0_1 x513000_2 x513001_2 = some r) ∧ Aside0 (kq ≤ kj4) ∧ Aside0 (Kd.V (Kd.int .i64) 2 w' w.heap.size (fun k_ => k_ ≠ gb503 ∧ k_ ≠ gb512) u513001 x513001_2) ∧ Aside0 (w'.heap[gb503]? = some (.cells #[.int .i64 a0_0, (.slice A0_1 l0_1.length c0_1)] 24 (0, 0))) ∧ Aside0 (w'.heap[gb512]? = some (.cells #[.int .i64 x513000_2, u513001] 24 (0, 0))) ∧ Aside0 (Below w.heap.size w w'))
          case atStart => exact ⟨(0), (0), (t507), (t508), (.slice Ao23 t508.length co23), (by first | rfl | (simp; done) | (simp [*]; done)), (by first | rfl | (simp; done) | (simp [*]; done)), H', ⟨Nat.le_refl _⟩, ⟨by (with_reducible repeat (first | apply vA | apply vN | apply vD)); exact Kd.V_mono (Kd.V_far (p := ⟨gb512, 1, none⟩) (Kd.V_far (p := ⟨gb512, 0, none⟩) (Kd.V_mono HO510.out (fun k_ hk => (⟨hk, by first | exact hk.2 | exact hk.2.2 | exact hk.2.1 | omega⟩ : _ ∧ k_ ≠ gb512))) (fun _ hk => hk.2) (.int .i64 t507)) (fun _ hk => hk.2) (.slice Ao23 t508.length co23)) (fun _ hk => by first | exact ⟨hk.1.1, hk.1.2⟩ | (simp only [ne_eq] at hk ⊢; simp [hk]))⟩, ⟨by (with_reducible repeat (first | refine bN ?_ _ | refine bD ?_ | refine bA ?_ _)); refine blk_far ?_ NB503_512.out _; (with_reducible repeat (first | refine bN ?_ _ | refine bD ?_ | refine bA ?_ _)); refine blk_far ?_ NB503_512.out _; (with_reducible repeat (first | refine bN ?_ _ | refine bD ?_ | refine bA ?_ _)); exact BK503.out⟩, ⟨by (with_reducible repeat (first | refine bN ?_ _ | refine bD ?_ | refine bA ?_ _)); refine blk_put (cs := #[.int .i64 t507, .slice none 0 0]) ?_ 1 _ rfl; (with_reducible repeat (first | refine bN ?_ _ | refine bD ?_ | refine bA ?_ _)); refine blk_put (cs := #[.int .i64 0, .slice none 0 0]) ?_ 0 _ rfl; (with_reducible repeat (first | refine bN ?_ _ | refine bD ?_ | refine bA ?_ _)); exact BK512.out⟩, ⟨by repeat (first | (with_reducible first | exact HB.out | apply wA | apply wN | apply wD | refine below_set ?_ GE503.out | refine below_set ?_ GE512.out) | exact HB.out)⟩⟩
          case round =>
            clear H'
            try clear c1
            try clear c2
            try clear p2
            try clear c7
            try clear c9
            try clear c9b0
            try clear c9b1
            try clear c10
            try clear c10b0
            try clear c10b1
            try clear c13
            try clear c17
            try clear c17b0
            try clear c17b1
            try clear c18
            try clear c19
            try clear c21
            try clear hcz11_0
            try clear hcz11_1
            try clear hcz12_0
            try clear hcz12_1
            try clear hcz18_0
            try clear hcz18_1
            try clear hcz22_0
            try clear hcz22_1
            try clear hcz7_0
            try clear hcz7_1
            try clear hfz11_0
            try clear hfz11_1
            try clear hfz12_0
            try clear hfz12_1
            try clear hfz18_0
            try clear hfz18_1
            try clear hfz22_0
            try clear hfz22_1
            try clear hfz7_0
            try clear hfz7_1
            try clear p2
            obtain ⟨x10_2, x11_2, x513000_2, x513001_2, u513001, rfl, rfl, HA, HK2, HO_513001, BK503, BK512, HB⟩ := hrel
            cases gk with
            | zero => exact absurd HA.out (by simp [mummerlaw16_FuelParts.l0])
            | succ k2 =>
              have H := HA.out
              clear HA
              simp only [mummerlaw16_FuelParts.l0] at H
              by_cases c24 : x11_2 < (l2.length : Int)
              · rw [if_pos c24] at H
                have c24b0 : decide (x11_2 < (l2.length : Int)) = true := decide_eq_true c24
                clear c24
                by_cases c25 : 0 ≤ x11_2
                · rw [if_pos c25] at H
                  have c25b0 : decide (0 ≤ x11_2) = true := decide_eq_true c25
                  clear c25
                  replace H := Option.bind_eq_some_iff.mp H
                  obtain ⟨⟨t518, t519, t522⟩, A260, H⟩ := H
                  replace H : (if t522 = 0 then (mummerlaw16_FuelParts.l0 k2 a1 l2 t504 (wrap64 (x10_2 + (rd l2 x11_2))) (wrap64 (x11_2 + 1)) a0_0 l0_1 t518 t519) else (mummerlaw16_FuelParts.l0 k2 a1 l2 t504 x10_2 (wrap64 (x11_2 + 1)) a0_0 l0_1 x513000_2 x513001_2)) = some r := H
                  have A26 := ak A260
                  clear A260
                  by_cases c27 : t522 = 0
                  · rw [if_pos c27] at H
                    have c27b0 : (t522 == 0) = true := beq_iff_eq.mpr c27
                    have c27b1 : (t522 != 0) = false := bne_eq_false_iff_eq.mpr c27
                    clear c27
                    have H' := ak H
                    clear H
                    obtain ⟨Ao28, co28, eo28⟩ := Kd.V_slice HO_513001.out
                    subst eo28
                    try go_wp2
                    have n0_ := ak (vD HO_513001.out)
                    have n1_ := ak (bD BK503.out)
                    have n2_ := ak (bD BK512.out)
                    have n3_ := ak (wD HB.out)
                    clear HO_513001 BK503 BK512 HB
                    have HO_513001 := n0_
                    have BK503 := n1_
                    have BK512 := n2_
                    have HB := n3_
                    clear n0_ n1_ n2_ n3_
                    have p517 : 0 ≤ (x11_2 : Int) := of_decide_eq_true (by first | (with_reducible assumption) | assumption)
                    have q517 : x11_2 < (l2.length : Int) := of_decide_eq_true (by first | (with_reducible assumption) | assumption)
                    obtain ⟨ad517, e517, hx517_0⟩ := Kd.at_int HR2.out x11_2 p517 q517
                    have hw517_0 := hx517_0
                    cases e517
                    replace hx517_0 := (HB.out.cell (World.block_lt_of_cell? w _ hx517_0)).trans hx517_0
                    replace p517 := eq_true p517
                    replace q517 := eq_true q517
                    refine start_ (n := 12) (S := fun w' => w'.cell? ⟨gb512, 0, none⟩ = some (.int .i64 x513000_2) ∧ w'.cell? ⟨gb512, 1, none⟩ = some (.slice Ao28 x513001_2.length co28) ∧ w'.cell? (ad517.add (x11_2).toNat) = some (.int .i64 (rd l2 x11_2))) (ds := []) #[false, false, false, false, false, false, false, false, false, false, false, false] (by kernel_rfl) rfl rfl ⟨(blk_cell BK512.out 0).trans rfl, (blk_cell BK512.out 1).trans rfl, ((HB.out.cell (World.block_lt_of_cell? w _ hw517_0)).trans hw517_0)⟩ (fun hHeld => ?_); refine with_tabW mummerlaw16_FuelParts.tab11 mummerlaw16_FuelParts.bits11 (fun HT_ HW_ => ?_)
                    generalize wr.drew = w29 at HO_513001 BK503 BK512 HB hx517_0 hHeld ⊢
                    refine pure_ (i := 1) (N := some 65) (v := ?_) (a' := ?_) #[false, true, false, false, false, false, false, false, false, false, false, false] rfl rfl (any_of HT_.out (by kernel_rfl)) (fun _ _ _ h => h) (Or.inl ⟨by rfl, ?_⟩) ?_ ?_
                    rotate_left
                    · intro w'
                      go_simp
                      with_reducible rfl
                    rotate_left
                    · simp only [Act.put, List.setIfInBounds_toArray, List.set_cons_zero, List.set_cons_succ, i64_w, i32_w]
                      rfl
                    refine pure_ (i := 2) (N := some 66) (v := ?_) (a' := ?_) #[false, true, true, false, false, false, false, false, false, false, false, false] rfl rfl (any_of HT_.out (by kernel_rfl)) (fun _ _ _ h => h) (Or.inl ⟨by rfl, ?_⟩) ?_ ?_
                    rotate_left
                    · intro w'
                      go_simp
                      with_reducible rfl
                    rotate_left
                    · simp only [Act.put, List.setIfInBounds_toArray, List.set_cons_zero, List.set_cons_succ, i64_w, i32_w]
                      rfl
                    refine pure_ (i := 3) (N := some 67) (v := ?_) (a' := ?_) #[false, true, true, true, false, false, false, false, false, false, false, false] rfl rfl (any_of HT_.out (by kernel_rfl)) (fun _ _ _ h => h) (Or.inl ⟨by rfl, ?_⟩) ?_ ?_
                    rotate_left
                    · intro w'
                      go_simp
                      with_reducible rfl
                    rotate_left
                    · simp only [Act.put, List.setIfInBounds_toArray, List.set_cons_zero, List.set_cons_succ, i64_w, i32_w]
                      rfl
                    refine take_ (i := 0) (N := some 64) (v := ?_) (a' := ?_) #[true, true, true, true, false, false, false, false, false, false, false, false] rfl rfl (take_ofW HT_.out HW_.out (by kernel_rfl)) (fun _ _ _ h => h) (Or.inl ⟨by rfl, ?_⟩) hHeld ?_ ?_
                    rotate_left
                    · rintro w' ⟨s0, s1, s2⟩
                      go_simp
                      with_reducible rfl
                    rotate_left
                    · simp only [Act.put, List.setIfInBounds_toArray, List.set_cons_zero, List.set_cons_succ, i64_w, i32_w]
                      rfl
                    refine take_ (i := 4) (N := some 68) (v := ?_) (a' := ?_) #[true, true, true, true, true, false, false, false, false, false, false, false] rfl rfl (take_ofW HT_.out HW_.out (by kernel_rfl)) (fun _ _ _ h => h) (Or.inl ⟨by rfl, ?_⟩) hHeld ?_ ?_
                    rotate_left
                    · rintro w' ⟨s0, s1, s2⟩
                      go_simp
                      with_reducible rfl
                    rotate_left
                    · simp only [Act.put, List.setIfInBounds_toArray, List.set_cons_zero, List.set_cons_succ, i64_w, i32_w]
                      rfl
                    refine join_ (σ := Value × Nat) 2 #[true, true, true, true, true, true, true, true, true, true, false, false] (fun s_ => [(69, .tuple #[.agg #[.int .i64 t518, s_.1], .int .i64 t522]), (12, .pointer (some ⟨s_.2, 0, none⟩)), (63, .tuple #[.agg #[.int .i64 t518, s_.1], .int .i64 t522]), (70, .agg #[.int .i64 t518, s_.1]), (71, .int .i64 t522)]) (fun s_ w' => (w'.cell? ⟨gb512, 0, none⟩ = some (.int .i64 x513000_2) ∧ w'.cell? ⟨gb512, 1, none⟩ = some (.slice Ao28 x513001_2.length co28) ∧ w'.cell? (ad517.add (x11_2).toNat) = some (.int .i64 (rd l2 x11_2))) ∧ (Kd.V (Kd.int .i64) 2 w' w.heap.size (fun k_ => k_ ≠ gb503 ∧ k_ ≠ gb512 ∧ k_ ≠ s_.2) s_.1 t519) ∧ (Kd.V (Kd.int .i64) 2 w' w.heap.size (fun k_ => k_ ≠ gb503 ∧ k_ ≠ gb512 ∧ k_ ≠ s_.2) (.slice Ao28 x513001_2.length co28) x513001_2) ∧ (w'.heap[gb503]? = some (.cells #[.int .i64 a0_0, .slice A0_1 l0_1.length c0_1] 24 (0, 0))) ∧ (w'.heap[gb512]? = some (.cells #[.int .i64 x513000_2, .slice Ao28 x513001_2.length co28] 24 (0, 0))) ∧ (w'.heap[s_.2]? = some (.cells #[.int .i64 0, .slice none 0 0] 24 (0, 0))) ∧ (w.heap.size ≤ s_.2) ∧ (w.heap.size ≤ s_.2) ∧ (gb503 ≠ s_.2) ∧ (s_.2 ≠ gb503) ∧ (gb512 ≠ s_.2) ∧ (s_.2 ≠ gb512) ∧ (Below w.heap.size w w')) ?_ ?_
                    rotate_left
                    · intro hCont
                      refine two_ (i := 5) (j := 9) (Ni := some 69) (Nj := some 12) #[true, true, true, true, true, true, false, false, false, false, false, false] #[true, true, true, true, true, false, false, false, false, true, false, false] rfl rfl rfl rfl (two_of HT_.out (by kernel_rfl)) (by decide) (by decide) (fun K hK => ?_) (fun K hK => ?_)
                      · skip
                        refine goes_ Try.func17 (by kernel_rfl) rfl #[.agg #[.int .i64 x513000_2, .slice Ao28 x513001_2.length co28], .int .i64 (rd l2 x11_2)] (by rfl) rfl rfl (by (try simp only [List.map_toArray, List.map_cons, List.map_nil]); first | done | rfl | (simp only [List.length_drop, List.length_take]; rfl)) ?_
                        with_reducible refine (fuel_Spend.calls k2 x513000_2 (fun k_ => (k_ ≠ gb503 ∧ k_ ≠ gb512)) _ _ x513001_2 (rd l2 x11_2) t518 t519 t522 _ ?side1 A26.out).mono ?_
                        (case side1 => exact HO_513001.out)
                        rintro e w30 ⟨v520, rfl, ho0, hb⟩
                        refine ⟨_, rfl, ?_⟩
                        have n0_ := ak (Kd.V_below (by (with_reducible repeat (first | apply vA | apply vN | apply vD)); exact HO_513001.out) hb)
                        have n1_ := ak (Kd.V_lower (Kd.V_mono (ok' := fun k_ => k_ ≠ gb503 ∧ k_ ≠ gb512) ho0 (fun k_ hk_ => ⟨Or.elim hk_ (fun hs_ => hs_.1) (fun hn_ => (Kd.freshB (g := gb503) (o := .cells #[.int .i64 a0_0, .slice A0_1 l0_1.length c0_1] 24 (0, 0)) (by (with_reducible repeat (first | refine bN ?_ _ | refine bD ?_ | refine bA ?_ _)); exact BK503.out) k_ hn_)), Or.elim hk_ (fun hs_ => hs_.2) (fun hn_ => (Kd.freshB (g := gb512) (o := .cells #[.int .i64 x513000_2, .slice Ao28 x513001_2.length co28] 24 (0, 0)) (by (with_reducible repeat (first | refine bN ?_ _ | refine bD ?_ | refine bA ?_ _)); exact BK512.out) k_ hn_))⟩)) (below_size (by repeat (first | (with_reducible first | exact HB.out | apply wA | apply wN | apply wD | refine below_set ?_ GE503.out | refine below_set ?_ GE512.out) | exact HB.out))))
                        have n2_ := ak (blk_below (g := gb503) (o := .cells #[.int .i64 a0_0, .slice A0_1 l0_1.length c0_1] 24 (0, 0)) (by (with_reducible repeat (first | refine bN ?_ _ | refine bD ?_ | refine bA ?_ _)); exact BK503.out) hb)
                        have n3_ := ak (blk_below (g := gb512) (o := .cells #[.int .i64 x513000_2, .slice Ao28 x513001_2.length co28] 24 (0, 0)) (by (with_reducible repeat (first | refine bN ?_ _ | refine bD ?_ | refine bA ?_ _)); exact BK512.out) hb)
                        have n4_ := ak (below_step (by repeat (first | (with_reducible first | exact HB.out | apply wA | apply wN | apply wD | refine below_set ?_ GE503.out | refine below_set ?_ GE512.out) | exact HB.out)) hb)
                        clear HO_513001 BK503 BK512 HB
                        have HO_513001 := n0_
                        have HO521 := n1_
                        have BK503 := n2_
                        have BK512 := n3_
                        have HB := n4_
                        clear n0_ n1_ n2_ n3_ n4_
                        (try clear hb)
                        (try clear hb2)
                        (try clear hk)
                        (try clear hi)
                        (try clear ho0)
                        refine hK.out _ _ ⟨(blk_cell BK512.out 0).trans rfl, (blk_cell BK512.out 1).trans rfl, ((HB.out.cell (World.block_lt_of_cell? w _ hw517_0)).trans hw517_0)⟩ (fun hHeld => ?_)
                        clear hK K
                        refine norm_ (a' := ?_) ?_ ?_
                        rotate_left
                        · show Act.put _ (some 69) _ = _
                          simp only [Act.put, List.setIfInBounds_toArray, List.set_cons_zero, List.set_cons_succ, i64_w, i32_w]
                          rfl
                        refine pure_ (i := 6) (N := some 63) (v := ?_) (a' := ?_) #[true, true, true, true, true, true, true, false, false, false, false, false] rfl rfl (any_of HT_.out (by kernel_rfl)) (fun _ _ _ h => h) (Or.inl ⟨by rfl, ?_⟩) ?_ ?_
                        rotate_left
                        · intro w'
                          go_simp
                          with_reducible rfl
                        rotate_left
                        · simp only [Act.put, List.setIfInBounds_toArray, List.set_cons_zero, List.set_cons_succ, i64_w, i32_w]
                          rfl
                        refine pure_ (i := 7) (N := some 70) (v := ?_) (a' := ?_) #[true, true, true, true, true, true, true, true, false, false, false, false] rfl rfl (any_of HT_.out (by kernel_rfl)) (fun _ _ _ h => h) (Or.inl ⟨by rfl, ?_⟩) ?_ ?_
                        rotate_left
                        · intro w'
                          go_simp
                          with_reducible rfl
                        rotate_left
                        · simp only [Act.put, List.setIfInBounds_toArray, List.set_cons_zero, List.set_cons_succ, i64_w, i32_w]
                          rfl
                        refine pure_ (i := 8) (N := some 71) (v := ?_) (a' := ?_) #[true, true, true, true, true, true, true, true, true, false, false, false] rfl rfl (any_of HT_.out (by kernel_rfl)) (fun _ _ _ h => h) (Or.inl ⟨by rfl, ?_⟩) ?_ ?_
                        rotate_left
                        · intro w'
                          go_simp
                          with_reducible rfl
                        rotate_left
                        · simp only [Act.put, List.setIfInBounds_toArray, List.set_cons_zero, List.set_cons_succ, i64_w, i32_w]
                          rfl
                        refine one_ (i := 9) (N := some 12) #[true, true, true, true, true, true, true, true, true, true, false, false] rfl rfl (one_of HT_.out (by kernel_rfl)) (by decide) (fun K hK => ?_)
                        refine box_step ?hg (N := 12) ?hd (cs := #[.int .i64 0, .slice none 0 0]) (t := 24) ?hr ?_; (case hd => rfl); (case hg => rfl); (case hr => first | (go_simp; done) | (go_simp; rfl))
                        intro gb523 hg w31 hbox hb
                        have n0_ := ak (Kd.V_below (Kd.V_elderB (by (with_reducible repeat (first | apply vA | apply vN | apply vD)); exact HO_513001.out) gb523 (Nat.le_of_eq hg.symm)) hb)
                        have n1_ := ak (Kd.V_below (Kd.V_elderB (by (with_reducible repeat (first | apply vA | apply vN | apply vD)); exact HO521.out) gb523 (Nat.le_of_eq hg.symm)) hb)
                        have n2_ := ak (blk_below (g := gb503) (o := .cells #[.int .i64 a0_0, .slice A0_1 l0_1.length c0_1] 24 (0, 0)) (by (with_reducible repeat (first | refine bN ?_ _ | refine bD ?_ | refine bA ?_ _)); exact BK503.out) hb)
                        have n3_ := ak (blk_below (g := gb512) (o := .cells #[.int .i64 x513000_2, .slice Ao28 x513001_2.length co28] 24 (0, 0)) (by (with_reducible repeat (first | refine bN ?_ _ | refine bD ?_ | refine bA ?_ _)); exact BK512.out) hb)
                        have n4_ := ak (below_step (by repeat (first | (with_reducible first | exact HB.out | apply wA | apply wN | apply wD | refine below_set ?_ GE503.out | refine below_set ?_ GE512.out) | exact HB.out)) hb)
                        have n5_ := ak (hbox)
                        have n6_ := ak ((by rw [hg]; exact (below_size (by repeat (first | (with_reducible first | exact HB.out | apply wA | apply wN | apply wD | refine below_set ?_ GE503.out | refine below_set ?_ GE512.out) | exact HB.out))) : w.heap.size ≤ gb523))
                        have n7_ := ak ((by rw [hg]; exact (below_size (by repeat (first | (with_reducible first | exact HB.out | apply wA | apply wN | apply wD | refine below_set ?_ GE503.out | refine below_set ?_ GE512.out) | exact HB.out))) : w.heap.size ≤ gb523))
                        have n8_ := ak ((by rw [hg]; exact Nat.ne_of_lt (blk_lt (g := gb503) (o := .cells #[.int .i64 a0_0, .slice A0_1 l0_1.length c0_1] 24 (0, 0)) (by (with_reducible repeat (first | refine bN ?_ _ | refine bD ?_ | refine bA ?_ _)); exact BK503.out)) : gb503 ≠ gb523))
                        have n9_ := ak ((by rw [hg]; exact Nat.ne_of_gt (blk_lt (g := gb503) (o := .cells #[.int .i64 a0_0, .slice A0_1 l0_1.length c0_1] 24 (0, 0)) (by (with_reducible repeat (first | refine bN ?_ _ | refine bD ?_ | refine bA ?_ _)); exact BK503.out)) : gb523 ≠ gb503))
                        have n10_ := ak ((by rw [hg]; exact Nat.ne_of_lt (blk_lt (g := gb512) (o := .cells #[.int .i64 x513000_2, .slice Ao28 x513001_2.length co28] 24 (0, 0)) (by (with_reducible repeat (first | refine bN ?_ _ | refine bD ?_ | refine bA ?_ _)); exact BK512.out)) : gb512 ≠ gb523))
                        have n11_ := ak ((by rw [hg]; exact Nat.ne_of_gt (blk_lt (g := gb512) (o := .cells #[.int .i64 x513000_2, .slice Ao28 x513001_2.length co28] 24 (0, 0)) (by (with_reducible repeat (first | refine bN ?_ _ | refine bD ?_ | refine bA ?_ _)); exact BK512.out)) : gb523 ≠ gb512))
                        clear HO_513001 HO521 BK503 BK512 HB
                        have HO_513001 := n0_
                        have HO521 := n1_
                        have BK503 := n2_
                        have BK512 := n3_
                        have HB := n4_
                        have BK523 := n5_
                        have GW523 := n6_
                        have GE523 := n7_
                        have NB503_523 := n8_
                        have NB523_503 := n9_
                        have NB512_523 := n10_
                        have NB523_512 := n11_
                        clear n0_ n1_ n2_ n3_ n4_ n5_ n6_ n7_ n8_ n9_ n10_ n11_ hb hbox hg
                        refine hK.out _ _ ⟨(blk_cell BK512.out 0).trans rfl, (blk_cell BK512.out 1).trans rfl, ((HB.out.cell (World.block_lt_of_cell? w _ hw517_0)).trans hw517_0)⟩ (fun hHeld => ?_)
                        clear hK K
                        refine norm_ (a' := ?_) ?_ ?_
                        rotate_left
                        · show Act.put _ (some 12) _ = _
                          simp only [Act.put, List.setIfInBounds_toArray, List.set_cons_zero, List.set_cons_succ, i64_w, i32_w]
                          rfl
                        exact norm_ (by simp only [putAll, Act.put, List.setIfInBounds_toArray, List.set_cons_zero, List.set_cons_succ]) (hCont (v520, gb523) _ ⟨hHeld, (by (with_reducible repeat (first | apply vA | apply vN | apply vD)); exact Kd.V_mono HO521.out (fun _ hk => by first | exact ⟨hk.1.1, ⟨hk.1.2, hk.2⟩⟩ | (simp only [ne_eq] at hk ⊢; simp [hk]))), (by (with_reducible repeat (first | apply vA | apply vN | apply vD)); exact Kd.V_mono HO_513001.out (fun _ hk => by first | exact ⟨hk.1.1, ⟨hk.1.2, hk.2⟩⟩ | (simp only [ne_eq] at hk ⊢; simp [hk]))), (by (with_reducible repeat (first | refine bN ?_ _ | refine bD ?_ | refine bA ?_ _)); exact BK503.out), (by (with_reducible repeat (first | refine bN ?_ _ | refine bD ?_ | refine bA ?_ _)); exact BK512.out), (by (with_reducible repeat (first | refine bN ?_ _ | refine bD ?_ | refine bA ?_ _)); exact BK523.out), GW523.out, GE523.out, NB503_523.out, NB523_503.out, NB512_523.out, NB523_512.out, (by repeat (first | (with_reducible first | exact HB.out | apply wA | apply wN | apply wD | refine below_set ?_ GE503.out | refine below_set ?_ GE512.out | refine below_set ?_ GE523.out) | exact HB.out))⟩)
                      · skip
                        refine box_step ?hg (N := 12) ?hd (cs := #[.int .i64 0, .slice none 0 0]) (t := 24) ?hr ?_; (case hd => rfl); (case hg => rfl); (case hr => first | (go_simp; done) | (go_simp; rfl))
                        intro gb523 hg w30 hbox hb
                        have n0_ := ak (Kd.V_below (Kd.V_elderB (by (with_reducible repeat (first | apply vA | apply vN | apply vD)); exact HO_513001.out) gb523 (Nat.le_of_eq hg.symm)) hb)
                        have n1_ := ak (blk_below (g := gb503) (o := .cells #[.int .i64 a0_0, .slice A0_1 l0_1.length c0_1] 24 (0, 0)) (by (with_reducible repeat (first | refine bN ?_ _ | refine bD ?_ | refine bA ?_ _)); exact BK503.out) hb)
                        have n2_ := ak (blk_below (g := gb512) (o := .cells #[.int .i64 x513000_2, .slice Ao28 x513001_2.length co28] 24 (0, 0)) (by (with_reducible repeat (first | refine bN ?_ _ | refine bD ?_ | refine bA ?_ _)); exact BK512.out) hb)
                        have n3_ := ak (below_step (by repeat (first | (with_reducible first | exact HB.out | apply wA | apply wN | apply wD | refine below_set ?_ GE503.out | refine below_set ?_ GE512.out) | exact HB.out)) hb)
                        have n4_ := ak (hbox)
                        have n5_ := ak ((by rw [hg]; exact (below_size (by repeat (first | (with_reducible first | exact HB.out | apply wA | apply wN | apply wD | refine below_set ?_ GE503.out | refine below_set ?_ GE512.out) | exact HB.out))) : w.heap.size ≤ gb523))
                        have n6_ := ak ((by rw [hg]; exact (below_size (by repeat (first | (with_reducible first | exact HB.out | apply wA | apply wN | apply wD | refine below_set ?_ GE503.out | refine below_set ?_ GE512.out) | exact HB.out))) : w.heap.size ≤ gb523))
                        have n7_ := ak ((by rw [hg]; exact Nat.ne_of_lt (blk_lt (g := gb503) (o := .cells #[.int .i64 a0_0, .slice A0_1 l0_1.length c0_1] 24 (0, 0)) (by (with_reducible repeat (first | refine bN ?_ _ | refine bD ?_ | refine bA ?_ _)); exact BK503.out)) : gb503 ≠ gb523))
                        have n8_ := ak ((by rw [hg]; exact Nat.ne_of_gt (blk_lt (g := gb503) (o := .cells #[.int .i64 a0_0, .slice A0_1 l0_1.length c0_1] 24 (0, 0)) (by (with_reducible repeat (first | refine bN ?_ _ | refine bD ?_ | refine bA ?_ _)); exact BK503.out)) : gb523 ≠ gb503))
                        have n9_ := ak ((by rw [hg]; exact Nat.ne_of_lt (blk_lt (g := gb512) (o := .cells #[.int .i64 x513000_2, .slice Ao28 x513001_2.length co28] 24 (0, 0)) (by (with_reducible repeat (first | refine bN ?_ _ | refine bD ?_ | refine bA ?_ _)); exact BK512.out)) : gb512 ≠ gb523))
                        have n10_ := ak ((by rw [hg]; exact Nat.ne_of_gt (blk_lt (g := gb512) (o := .cells #[.int .i64 x513000_2, .slice Ao28 x513001_2.length co28] 24 (0, 0)) (by (with_reducible repeat (first | refine bN ?_ _ | refine bD ?_ | refine bA ?_ _)); exact BK512.out)) : gb523 ≠ gb512))
                        clear HO_513001 BK503 BK512 HB
                        have HO_513001 := n0_
                        have BK503 := n1_
                        have BK512 := n2_
                        have HB := n3_
                        have BK523 := n4_
                        have GW523 := n5_
                        have GE523 := n6_
                        have NB503_523 := n7_
                        have NB523_503 := n8_
                        have NB512_523 := n9_
                        have NB523_512 := n10_
                        clear n0_ n1_ n2_ n3_ n4_ n5_ n6_ n7_ n8_ n9_ n10_ hb hbox hg
                        refine hK.out _ _ ⟨(blk_cell BK512.out 0).trans rfl, (blk_cell BK512.out 1).trans rfl, ((HB.out.cell (World.block_lt_of_cell? w _ hw517_0)).trans hw517_0)⟩ (fun hHeld => ?_)
                        clear hK K
                        refine norm_ (a' := ?_) ?_ ?_
                        rotate_left
                        · show Act.put _ (some 12) _ = _
                          simp only [Act.put, List.setIfInBounds_toArray, List.set_cons_zero, List.set_cons_succ, i64_w, i32_w]
                          rfl
                        refine one_ (i := 5) (N := some 69) #[true, true, true, true, true, true, false, false, false, true, false, false] rfl rfl (one_of HT_.out (by kernel_rfl)) (by decide) (fun K hK => ?_)
                        refine goes_ Try.func17 (by kernel_rfl) rfl #[.agg #[.int .i64 x513000_2, .slice Ao28 x513001_2.length co28], .int .i64 (rd l2 x11_2)] (by rfl) rfl rfl (by (try simp only [List.map_toArray, List.map_cons, List.map_nil]); first | done | rfl | (simp only [List.length_drop, List.length_take]; rfl)) ?_
                        with_reducible refine (fuel_Spend.calls k2 x513000_2 (fun k_ => ((k_ ≠ gb503 ∧ k_ ≠ gb512) ∧ k_ ≠ gb523)) _ _ x513001_2 (rd l2 x11_2) t518 t519 t522 _ ?side1 A26.out).mono ?_
                        (case side1 => exact HO_513001.out)
                        rintro e w31 ⟨v520, rfl, ho0, hb⟩
                        refine ⟨_, rfl, ?_⟩
                        have n0_ := ak (Kd.V_below (by (with_reducible repeat (first | apply vA | apply vN | apply vD)); exact HO_513001.out) hb)
                        have n1_ := ak (Kd.V_lower (Kd.V_mono (ok' := fun k_ => k_ ≠ gb503 ∧ k_ ≠ gb512 ∧ k_ ≠ gb523) ho0 (fun k_ hk_ => ⟨Or.elim hk_ (fun hs_ => hs_.1.1) (fun hn_ => (Kd.freshB (g := gb503) (o := .cells #[.int .i64 a0_0, .slice A0_1 l0_1.length c0_1] 24 (0, 0)) (by (with_reducible repeat (first | refine bN ?_ _ | refine bD ?_ | refine bA ?_ _)); exact BK503.out) k_ hn_)), Or.elim hk_ (fun hs_ => hs_.1.2) (fun hn_ => (Kd.freshB (g := gb512) (o := .cells #[.int .i64 x513000_2, .slice Ao28 x513001_2.length co28] 24 (0, 0)) (by (with_reducible repeat (first | refine bN ?_ _ | refine bD ?_ | refine bA ?_ _)); exact BK512.out) k_ hn_)), Or.elim hk_ (fun hs_ => hs_.2) (fun hn_ => (Kd.freshB (g := gb523) (o := .cells #[.int .i64 0, .slice none 0 0] 24 (0, 0)) (by (with_reducible repeat (first | refine bN ?_ _ | refine bD ?_ | refine bA ?_ _)); exact BK523.out) k_ hn_))⟩)) (below_size (by repeat (first | (with_reducible first | exact HB.out | apply wA | apply wN | apply wD | refine below_set ?_ GE503.out | refine below_set ?_ GE512.out | refine below_set ?_ GE523.out) | exact HB.out))))
                        have n2_ := ak (blk_below (g := gb503) (o := .cells #[.int .i64 a0_0, .slice A0_1 l0_1.length c0_1] 24 (0, 0)) (by (with_reducible repeat (first | refine bN ?_ _ | refine bD ?_ | refine bA ?_ _)); exact BK503.out) hb)
                        have n3_ := ak (blk_below (g := gb512) (o := .cells #[.int .i64 x513000_2, .slice Ao28 x513001_2.length co28] 24 (0, 0)) (by (with_reducible repeat (first | refine bN ?_ _ | refine bD ?_ | refine bA ?_ _)); exact BK512.out) hb)
                        have n4_ := ak (blk_below (g := gb523) (o := .cells #[.int .i64 0, .slice none 0 0] 24 (0, 0)) (by (with_reducible repeat (first | refine bN ?_ _ | refine bD ?_ | refine bA ?_ _)); exact BK523.out) hb)
                        have n5_ := ak (below_step (by repeat (first | (with_reducible first | exact HB.out | apply wA | apply wN | apply wD | refine below_set ?_ GE503.out | refine below_set ?_ GE512.out | refine below_set ?_ GE523.out) | exact HB.out)) hb)
                        clear HO_513001 BK503 BK512 BK523 HB
                        have HO_513001 := n0_
                        have HO521 := n1_
                        have BK503 := n2_
                        have BK512 := n3_
                        have BK523 := n4_
                        have HB := n5_
                        clear n0_ n1_ n2_ n3_ n4_ n5_
                        (try clear hb)
                        (try clear hb2)
                        (try clear hk)
                        (try clear hi)
                        (try clear ho0)
                        refine hK.out _ _ ⟨(blk_cell BK512.out 0).trans rfl, (blk_cell BK512.out 1).trans rfl, ((HB.out.cell (World.block_lt_of_cell? w _ hw517_0)).trans hw517_0)⟩ (fun hHeld => ?_)
                        clear hK K
                        refine norm_ (a' := ?_) ?_ ?_
                        rotate_left
                        · show Act.put _ (some 69) _ = _
                          simp only [Act.put, List.setIfInBounds_toArray, List.set_cons_zero, List.set_cons_succ, i64_w, i32_w]
                          rfl
                        refine pure_ (i := 6) (N := some 63) (v := ?_) (a' := ?_) #[true, true, true, true, true, true, true, false, false, true, false, false] rfl rfl (any_of HT_.out (by kernel_rfl)) (fun _ _ _ h => h) (Or.inl ⟨by rfl, ?_⟩) ?_ ?_
                        rotate_left
                        · intro w'
                          go_simp
                          with_reducible rfl
                        rotate_left
                        · simp only [Act.put, List.setIfInBounds_toArray, List.set_cons_zero, List.set_cons_succ, i64_w, i32_w]
                          rfl
                        refine pure_ (i := 7) (N := some 70) (v := ?_) (a' := ?_) #[true, true, true, true, true, true, true, true, false, true, false, false] rfl rfl (any_of HT_.out (by kernel_rfl)) (fun _ _ _ h => h) (Or.inl ⟨by rfl, ?_⟩) ?_ ?_
                        rotate_left
                        · intro w'
                          go_simp
                          with_reducible rfl
                        rotate_left
                        · simp only [Act.put, List.setIfInBounds_toArray, List.set_cons_zero, List.set_cons_succ, i64_w, i32_w]
                          rfl
                        refine pure_ (i := 8) (N := some 71) (v := ?_) (a' := ?_) #[true, true, true, true, true, true, true, true, true, true, false, false] rfl rfl (any_of HT_.out (by kernel_rfl)) (fun _ _ _ h => h) (Or.inl ⟨by rfl, ?_⟩) ?_ ?_
                        rotate_left
                        · intro w'
                          go_simp
                          with_reducible rfl
                        rotate_left
                        · simp only [Act.put, List.setIfInBounds_toArray, List.set_cons_zero, List.set_cons_succ, i64_w, i32_w]
                          rfl
                        exact norm_ (by simp only [putAll, Act.put, List.setIfInBounds_toArray, List.set_cons_zero, List.set_cons_succ]) (hCont (v520, gb523) _ ⟨hHeld, (by (with_reducible repeat (first | apply vA | apply vN | apply vD)); exact HO521.out), (by (with_reducible repeat (first | apply vA | apply vN | apply vD)); exact Kd.V_mono HO_513001.out (fun _ hk => by first | exact ⟨hk.1.1, ⟨hk.1.2, hk.2⟩⟩ | (simp only [ne_eq] at hk ⊢; simp [hk]))), (by (with_reducible repeat (first | refine bN ?_ _ | refine bD ?_ | refine bA ?_ _)); exact BK503.out), (by (with_reducible repeat (first | refine bN ?_ _ | refine bD ?_ | refine bA ?_ _)); exact BK512.out), (by (with_reducible repeat (first | refine bN ?_ _ | refine bD ?_ | refine bA ?_ _)); exact BK523.out), GW523.out, GE523.out, NB503_523.out, NB523_503.out, NB512_523.out, NB523_512.out, (by repeat (first | (with_reducible first | exact HB.out | apply wA | apply wN | apply wD | refine below_set ?_ GE503.out | refine below_set ?_ GE512.out | refine below_set ?_ GE523.out) | exact HB.out))⟩)
                    rintro ⟨v520, gb523⟩ w32 ⟨hS_, h0_, h1_, h2_, h3_, h4_, h5_, h6_, h7_, h8_, h9_, h10_, h11_⟩
                    have n0_ : Aside0 (Kd.V (Kd.int .i64) 2 w32 w.heap.size (fun k_ => k_ ≠ gb503 ∧ k_ ≠ gb512 ∧ k_ ≠ gb523) v520 t519) := ⟨h0_⟩
                    have n1_ : Aside0 (Kd.V (Kd.int .i64) 2 w32 w.heap.size (fun k_ => k_ ≠ gb503 ∧ k_ ≠ gb512 ∧ k_ ≠ gb523) (.slice Ao28 x513001_2.length co28) x513001_2) := ⟨h1_⟩
                    have n2_ : Aside0 (w32.heap[gb503]? = some (.cells #[.int .i64 a0_0, .slice A0_1 l0_1.length c0_1] 24 (0, 0))) := ⟨h2_⟩
                    have n3_ : Aside0 (w32.heap[gb512]? = some (.cells #[.int .i64 x513000_2, .slice Ao28 x513001_2.length co28] 24 (0, 0))) := ⟨h3_⟩
                    have n4_ : Aside0 (w32.heap[gb523]? = some (.cells #[.int .i64 0, .slice none 0 0] 24 (0, 0))) := ⟨h4_⟩
                    have n5_ : Aside0 (w.heap.size ≤ gb523) := ⟨h5_⟩
                    have n6_ : Aside0 (w.heap.size ≤ gb523) := ⟨h6_⟩
                    have n7_ : Aside0 (gb503 ≠ gb523) := ⟨h7_⟩
                    have n8_ : Aside0 (gb523 ≠ gb503) := ⟨h8_⟩
                    have n9_ : Aside0 (gb512 ≠ gb523) := ⟨h9_⟩
                    have n10_ : Aside0 (gb523 ≠ gb512) := ⟨h10_⟩
                    have n11_ : Aside0 (Below w.heap.size w w32) := ⟨h11_⟩
                    clear HO_513001 BK503 BK512 HB h0_ h1_ h2_ h3_ h4_ h5_ h6_ h7_ h8_ h9_ h10_ h11_
                    have HO521 := n0_
                    have HO_513001 := n1_
                    have BK503 := n2_
                    have BK512 := n3_
                    have BK523 := n4_
                    have GW523 := n5_
                    have GE523 := n6_
                    have NB503_523 := n7_
                    have NB523_503 := n8_
                    have NB512_523 := n9_
                    have NB523_512 := n10_
                    have HB := n11_
                    clear n0_ n1_ n2_ n3_ n4_ n5_ n6_ n7_ n8_ n9_ n10_ n11_
                    have hHeld : w32.cell? ⟨gb512, 0, none⟩ = some (.int .i64 x513000_2) ∧ w32.cell? ⟨gb512, 1, none⟩ = some (.slice Ao28 x513001_2.length co28) ∧ w32.cell? (ad517.add (x11_2).toNat) = some (.int .i64 (rd l2 x11_2)) := hS_
                    obtain ⟨Ao34, co34, eo34⟩ := Kd.V_slice HO521.out
                    (first | subst eo34 | (injection eo34 with f1_ f2_ f3_; have f4_ := f1_.symm; have f5_ := f3_.symm; clear f1_ f2_ f3_; subst f4_; subst f5_))
                    refine norm_ (a' := ?_) ?_ ?_
                    rotate_left
                    · simp only [putAll, Act.put, List.setIfInBounds_toArray, List.set_cons_zero, List.set_cons_succ]
                      rfl
                    refine one_ (i := 10) (N := none) #[true, true, true, true, true, true, true, true, true, true, true, false] rfl rfl (one_of HT_.out (by kernel_rfl)) (by decide) (fun K hK => ?_)
                    have hs33 : w32.cell? ⟨gb523, 0, none⟩ = some (.int .i64 0) := (blk_cell BK523.out 0).trans rfl
                    have hfs33 := blk_frozen BK523.out 0
                    have hns33_0 := NB503_523.out
                    have hns33_1 := NB512_523.out
                    have hms33_0 := NB523_503.out
                    have hms33_1 := NB523_512.out
                    have hs35 : w32.cell? ⟨gb523, 1, none⟩ = some (.slice none 0 0) := (blk_cell BK523.out 1).trans rfl
                    have hfs35 := blk_frozen BK523.out 1
                    have hns35_0 := NB503_523.out
                    have hns35_1 := NB512_523.out
                    have hms35_0 := NB523_503.out
                    have hms35_1 := NB523_512.out
                    refine skip_ (w1 := ?_) (by rfl) rfl ?_ ?_
                    rotate_left
                    · go_simp
                      rfl
                    refine hK.out _ _ ⟨((cell_far (p := ⟨gb523, _, none⟩) NB512_523.out _).trans (((cell_far (p := ⟨gb523, _, none⟩) NB512_523.out _).trans (hHeld.1)))), ((cell_far (p := ⟨gb523, _, none⟩) NB512_523.out _).trans (((cell_far (p := ⟨gb523, _, none⟩) NB512_523.out _).trans (hHeld.2.1)))), ((cell_far (p := ⟨gb523, _, none⟩) (by first | exact Nat.ne_of_lt (Nat.lt_of_lt_of_le (by have := World.block_lt_of_cell? _ _ hw517_0; first | rwa [add_block] at this | exact this) GW523.out) | (rw [add_block]; exact Nat.ne_of_lt (Nat.lt_of_lt_of_le (by have := World.block_lt_of_cell? _ _ hw517_0; first | rwa [add_block] at this | exact this) GW523.out)) | (show (Addr.add _ _).block ≠ _; rw [add_block]; exact Nat.ne_of_lt (Nat.lt_of_lt_of_le (by have := World.block_lt_of_cell? _ _ hw517_0; first | rwa [add_block] at this | exact this) GW523.out)) | (dsimp only; exact Nat.ne_of_lt (Nat.lt_of_lt_of_le (by have := World.block_lt_of_cell? _ _ hw517_0; first | rwa [add_block] at this | exact this) GW523.out))) _).trans (((cell_far (p := ⟨gb523, _, none⟩) (by first | exact Nat.ne_of_lt (Nat.lt_of_lt_of_le (by have := World.block_lt_of_cell? _ _ hw517_0; first | rwa [add_block] at this | exact this) GW523.out) | (rw [add_block]; exact Nat.ne_of_lt (Nat.lt_of_lt_of_le (by have := World.block_lt_of_cell? _ _ hw517_0; first | rwa [add_block] at this | exact this) GW523.out)) | (show (Addr.add _ _).block ≠ _; rw [add_block]; exact Nat.ne_of_lt (Nat.lt_of_lt_of_le (by have := World.block_lt_of_cell? _ _ hw517_0; first | rwa [add_block] at this | exact this) GW523.out)) | (dsimp only; exact Nat.ne_of_lt (Nat.lt_of_lt_of_le (by have := World.block_lt_of_cell? _ _ hw517_0; first | rwa [add_block] at this | exact this) GW523.out))) _).trans (hHeld.2.2))))⟩ (fun hHeld => ?_)
                    clear hK K
                    refine pure_ (i := 11) (N := some 13) (v := ?_) (a' := ?_) #[true, true, true, true, true, true, true, true, true, true, true, true] rfl rfl (any_of HT_.out (by kernel_rfl)) (fun _ _ _ h => h) (Or.inl ⟨by rfl, ?_⟩) ?_ ?_
                    rotate_left
                    · intro w'
                      go_simp
                      with_reducible rfl
                    rotate_left
                    · simp only [Act.put, List.setIfInBounds_toArray, List.set_cons_zero, List.set_cons_succ, i64_w, i32_w]
                      rfl
                    refine done_ (done_of HT_.out (by kernel_rfl)) ?_
                    have p524 : 0 ≤ (x11_2 : Int) := of_decide_eq_true (by first | (with_reducible assumption) | assumption)
                    have q524 : x11_2 < (l2.length : Int) := of_decide_eq_true (by first | (with_reducible assumption) | assumption)
                    obtain ⟨ad524, e524, hx524_0⟩ := Kd.at_int HR2.out x11_2 p524 q524
                    obtain rfl : ad517 = ad524 := (by injection e524)
                    have hn524_0 : ad517.block ≠ gb523 := Nat.ne_of_lt (Nat.lt_of_lt_of_le (by have := World.block_lt_of_cell? _ _ hx524_0; first | rwa [add_block] at this | exact this) GW523.out)
                    have hn524_1 : ad517.block ≠ gb523 := Nat.ne_of_lt (Nat.lt_of_lt_of_le (by have := World.block_lt_of_cell? _ _ hx524_0; first | rwa [add_block] at this | exact this) GW523.out)
                    replace hx524_0 := (HB.out.cell (World.block_lt_of_cell? w _ hx524_0)).trans hx524_0
                    replace hx524_0 := (cell_far (p := ⟨gb523, 0, none⟩) (by first | (rw [add_block]; exact hn524_0) | (show (Addr.add _ _).block ≠ _; rw [add_block]; exact hn524_0) | exact hn524_0) (.int .i64 t518)).trans hx524_0
                    replace hx524_0 := (cell_far (p := ⟨gb523, 1, none⟩) (by first | (rw [add_block]; exact hn524_1) | (show (Addr.add _ _).block ≠ _; rw [add_block]; exact hn524_1) | exact hn524_1) (.slice Ao34 t519.length co34)).trans hx524_0
                    clear hn524_0 hn524_1
                    replace p524 := eq_true p524
                    replace q524 := eq_true q524
                    have hnb36 := NB523_503.out
                    have hnc36 := NB503_523.out
                    have hnb37 := NB523_512.out
                    have hnc37 := NB512_523.out
                    have hcz38_0 : w32.cell? ⟨gb523, 0, none⟩ = some (.int .i64 0) := (blk_cell BK523.out 0).trans rfl
                    have hcz38_1 : w32.cell? ⟨gb523, 1, none⟩ = some (.slice none 0 0) := (blk_cell BK523.out 1).trans rfl
                    have hfz38_0 := blk_frozen BK523.out 0
                    have hfz38_1 := blk_frozen BK523.out 1
                    have hnb39 := NB512_503.out
                    have hnc39 := NB503_512.out
                    have hcz40_0 : w32.cell? ⟨gb512, 0, none⟩ = some (.int .i64 x513000_2) := (blk_cell BK512.out 0).trans rfl
                    have hcz40_1 : w32.cell? ⟨gb512, 1, none⟩ = some (.slice Ao28 x513001_2.length co28) := (blk_cell BK512.out 1).trans rfl
                    have hfz40_0 := blk_frozen BK512.out 0
                    have hfz40_1 := blk_frozen BK512.out 1
                    try go_wp2
                    go_roundg k2
                    case measure => have := HJ4.out; have := HK2.out; omega
                    case rel => exact ⟨(wrap64 (x10_2 + (rd l2 x11_2))), (wrap64 (x11_2 + 1)), (t518), (t519), (.slice Ao34 t519.length co34), (by first | rfl | (simp; done) | (simp [*]; done)), (by first | rfl | (simp; done) | (simp [*]; done)), H', ⟨by have := HJ4.out; have := HK2.out; omega⟩, ⟨by (with_reducible repeat (first | apply vA | apply vN | apply vD)); exact Kd.V_mono (Kd.V_far (p := ⟨gb512, 1, none⟩) (Kd.V_far (p := ⟨gb512, 0, none⟩) (Kd.V_far (p := ⟨gb523, 1, none⟩) (Kd.V_far (p := ⟨gb523, 0, none⟩) (Kd.V_mono (Kd.V_mono HO521.out (fun k_ hk => (⟨hk, by first | exact hk.2.2 | exact hk.2.2 | exact hk.2.1 | omega⟩ : _ ∧ k_ ≠ gb523))) (fun k_ hk => (⟨hk, by first | exact hk.1.2.1 | exact hk.2.2 | exact hk.2.1 | omega⟩ : _ ∧ k_ ≠ gb512))) (fun _ hk => hk.1.2) (.int .i64 t518)) (fun _ hk => hk.1.2) (.slice Ao34 t519.length co34)) (fun _ hk => hk.2) (.int .i64 t518)) (fun _ hk => hk.2) (.slice Ao34 t519.length co34)) (fun _ hk => by first | exact ⟨hk.1.1.1, hk.1.1.2.1⟩ | (simp only [ne_eq] at hk ⊢; simp [hk]))⟩, ⟨by (with_reducible repeat (first | refine bN ?_ _ | refine bD ?_ | refine bA ?_ _)); refine blk_far ?_ NB503_512.out _; (with_reducible repeat (first | refine bN ?_ _ | refine bD ?_ | refine bA ?_ _)); refine blk_far ?_ NB503_512.out _; (with_reducible repeat (first | refine bN ?_ _ | refine bD ?_ | refine bA ?_ _)); refine blk_far ?_ NB503_523.out _; (with_reducible repeat (first | refine bN ?_ _ | refine bD ?_ | refine bA ?_ _)); refine blk_far ?_ NB503_523.out _; (with_reducible repeat (first | refine bN ?_ _ | refine bD ?_ | refine bA ?_ _)); exact BK503.out⟩, ⟨by (with_reducible repeat (first | refine bN ?_ _ | refine bD ?_ | refine bA ?_ _)); refine blk_put (cs := #[.int .i64 t518, .slice Ao28 x513001_2.length co28]) ?_ 1 _ rfl; (with_reducible repeat (first | refine bN ?_ _ | refine bD ?_ | refine bA ?_ _)); refine blk_put (cs := #[.int .i64 x513000_2, .slice Ao28 x513001_2.length co28]) ?_ 0 _ rfl; (with_reducible repeat (first | refine bN ?_ _ | refine bD ?_ | refine bA ?_ _)); refine blk_far ?_ NB512_523.out _; (with_reducible repeat (first | refine bN ?_ _ | refine bD ?_ | refine bA ?_ _)); refine blk_far ?_ NB512_523.out _; (with_reducible repeat (first | refine bN ?_ _ | refine bD ?_ | refine bA ?_ _)); exact BK512.out⟩, ⟨by repeat (first | (with_reducible first | exact HB.out | apply wA | apply wN | apply wD | refine below_set ?_ GE503.out | refine below_set ?_ GE512.out | refine below_set ?_ GE523.out) | exact HB.out)⟩⟩
                  · rw [if_neg c27] at H
                    have c27b0 : (t522 == 0) = false := beq_eq_false_iff_ne.mpr c27
                    have c27b1 : (t522 != 0) = true := bne_iff_ne.mpr c27
                    have H' := ak H
                    clear H
                    obtain ⟨Ao41, co41, eo41⟩ := Kd.V_slice HO_513001.out
                    subst eo41
                    try go_wp2
                    have n0_ := ak (vD HO_513001.out)
                    have n1_ := ak (bD BK503.out)
                    have n2_ := ak (bD BK512.out)
                    have n3_ := ak (wD HB.out)
                    clear HO_513001 BK503 BK512 HB
                    have HO_513001 := n0_
                    have BK503 := n1_
                    have BK512 := n2_
                    have HB := n3_
                    clear n0_ n1_ n2_ n3_
                    have p517 : 0 ≤ (x11_2 : Int) := of_decide_eq_true (by first | (with_reducible assumption) | assumption)
                    have q517 : x11_2 < (l2.length : Int) := of_decide_eq_true (by first | (with_reducible assumption) | assumption)
                    obtain ⟨ad517, e517, hx517_0⟩ := Kd.at_int HR2.out x11_2 p517 q517
                    have hw517_0 := hx517_0
                    cases e517
                    replace hx517_0 := (HB.out.cell (World.block_lt_of_cell? w _ hx517_0)).trans hx517_0
                    replace p517 := eq_true p517
                    replace q517 := eq_true q517
                    refine start_ (n := 12) (S := fun w' => w'.cell? ⟨gb512, 0, none⟩ = some (.int .i64 x513000_2) ∧ w'.cell? ⟨gb512, 1, none⟩ = some (.slice Ao41 x513001_2.length co41) ∧ w'.cell? (ad517.add (x11_2).toNat) = some (.int .i64 (rd l2 x11_2))) (ds := []) #[false, false, false, false, false, false, false, false, false, false, false, false] (by kernel_rfl) rfl rfl ⟨(blk_cell BK512.out 0).trans rfl, (blk_cell BK512.out 1).trans rfl, ((HB.out.cell (World.block_lt_of_cell? w _ hw517_0)).trans hw517_0)⟩ (fun hHeld => ?_); refine with_tabW mummerlaw16_FuelParts.tab11 mummerlaw16_FuelParts.bits11 (fun HT_ HW_ => ?_)
                    generalize wr.drew = w42 at HO_513001 BK503 BK512 HB hx517_0 hHeld ⊢
                    refine pure_ (i := 1) (N := some 65) (v := ?_) (a' := ?_) #[false, true, false, false, false, false, false, false, false, false, false, false] rfl rfl (any_of HT_.out (by kernel_rfl)) (fun _ _ _ h => h) (Or.inl ⟨by rfl, ?_⟩) ?_ ?_
                    rotate_left
                    · intro w'
                      go_simp
                      with_reducible rfl
                    rotate_left
                    · simp only [Act.put, List.setIfInBounds_toArray, List.set_cons_zero, List.set_cons_succ, i64_w, i32_w]
                      rfl
                    refine pure_ (i := 2) (N := some 66) (v := ?_) (a' := ?_) #[false, true, true, false, false, false, false, false, false, false, false, false] rfl rfl (any_of HT_.out (by kernel_rfl)) (fun _ _ _ h => h) (Or.inl ⟨by rfl, ?_⟩) ?_ ?_
                    rotate_left
                    · intro w'
                      go_simp
                      with_reducible rfl
                    rotate_left
                    · simp only [Act.put, List.setIfInBounds_toArray, List.set_cons_zero, List.set_cons_succ, i64_w, i32_w]
                      rfl
                    refine pure_ (i := 3) (N := some 67) (v := ?_) (a' := ?_) #[false, true, true, true, false, false, false, false, false, false, false, false] rfl rfl (any_of HT_.out (by kernel_rfl)) (fun _ _ _ h => h) (Or.inl ⟨by rfl, ?_⟩) ?_ ?_
                    rotate_left
                    · intro w'
                      go_simp
                      with_reducible rfl
                    rotate_left
                    · simp only [Act.put, List.setIfInBounds_toArray, List.set_cons_zero, List.set_cons_succ, i64_w, i32_w]
                      rfl
                    refine take_ (i := 0) (N := some 64) (v := ?_) (a' := ?_) #[true, true, true, true, false, false, false, false, false, false, false, false] rfl rfl (take_ofW HT_.out HW_.out (by kernel_rfl)) (fun _ _ _ h => h) (Or.inl ⟨by rfl, ?_⟩) hHeld ?_ ?_
                    rotate_left
                    · rintro w' ⟨s0, s1, s2⟩
                      go_simp
                      with_reducible rfl
                    rotate_left
                    · simp only [Act.put, List.setIfInBounds_toArray, List.set_cons_zero, List.set_cons_succ, i64_w, i32_w]
                      rfl
                    refine take_ (i := 4) (N := some 68) (v := ?_) (a' := ?_) #[true, true, true, true, true, false, false, false, false, false, false, false] rfl rfl (take_ofW HT_.out HW_.out (by kernel_rfl)) (fun _ _ _ h => h) (Or.inl ⟨by rfl, ?_⟩) hHeld ?_ ?_
                    rotate_left
                    · rintro w' ⟨s0, s1, s2⟩
                      go_simp
                      with_reducible rfl
                    rotate_left
                    · simp only [Act.put, List.setIfInBounds_toArray, List.set_cons_zero, List.set_cons_succ, i64_w, i32_w]
                      rfl
                    refine join_ (σ := Value × Nat) 2 #[true, true, true, true, true, true, true, true, true, true, false, false] (fun s_ => [(69, .tuple #[.agg #[.int .i64 t518, s_.1], .int .i64 t522]), (12, .pointer (some ⟨s_.2, 0, none⟩)), (63, .tuple #[.agg #[.int .i64 t518, s_.1], .int .i64 t522]), (70, .agg #[.int .i64 t518, s_.1]), (71, .int .i64 t522)]) (fun s_ w' => (w'.cell? ⟨gb512, 0, none⟩ = some (.int .i64 x513000_2) ∧ w'.cell? ⟨gb512, 1, none⟩ = some (.slice Ao41 x513001_2.length co41) ∧ w'.cell? (ad517.add (x11_2).toNat) = some (.int .i64 (rd l2 x11_2))) ∧ (Kd.V (Kd.int .i64) 2 w' w.heap.size (fun k_ => k_ ≠ gb503 ∧ k_ ≠ gb512 ∧ k_ ≠ s_.2) s_.1 t519) ∧ (Kd.V (Kd.int .i64) 2 w' w.heap.size (fun k_ => k_ ≠ gb503 ∧ k_ ≠ gb512 ∧ k_ ≠ s_.2) (.slice Ao41 x513001_2.length co41) x513001_2) ∧ (w'.heap[gb503]? = some (.cells #[.int .i64 a0_0, .slice A0_1 l0_1.length c0_1] 24 (0, 0))) ∧ (w'.heap[gb512]? = some (.cells #[.int .i64 x513000_2, .slice Ao41 x513001_2.length co41] 24 (0, 0))) ∧ (w'.heap[s_.2]? = some (.cells #[.int .i64 0, .slice none 0 0] 24 (0, 0))) ∧ (w.heap.size ≤ s_.2) ∧ (w.heap.size ≤ s_.2) ∧ (gb503 ≠ s_.2) ∧ (s_.2 ≠ gb503) ∧ (gb512 ≠ s_.2) ∧ (s_.2 ≠ gb512) ∧ (Below w.heap.size w w')) ?_ ?_
                    rotate_left
                    · intro hCont
                      refine two_ (i := 5) (j := 9) (Ni := some 69) (Nj := some 12) #[true, true, true, true, true, true, false, false, false, false, false, false] #[true, true, true, true, true, false, false, false, false, true, false, false] rfl rfl rfl rfl (two_of HT_.out (by kernel_rfl)) (by decide) (by decide) (fun K hK => ?_) (fun K hK => ?_)
                      · skip
                        refine goes_ Try.func17 (by kernel_rfl) rfl #[.agg #[.int .i64 x513000_2, .slice Ao41 x513001_2.length co41], .int .i64 (rd l2 x11_2)] (by rfl) rfl rfl (by (try simp only [List.map_toArray, List.map_cons, List.map_nil]); first | done | rfl | (simp only [List.length_drop, List.length_take]; rfl)) ?_
                        with_reducible refine (fuel_Spend.calls k2 x513000_2 (fun k_ => (k_ ≠ gb503 ∧ k_ ≠ gb512)) _ _ x513001_2 (rd l2 x11_2) t518 t519 t522 _ ?side1 A26.out).mono ?_
                        (case side1 => exact HO_513001.out)
                        rintro e w43 ⟨v520, rfl, ho0, hb⟩
                        refine ⟨_, rfl, ?_⟩
                        have n0_ := ak (Kd.V_below (by (with_reducible repeat (first | apply vA | apply vN | apply vD)); exact HO_513001.out) hb)
                        have n1_ := ak (Kd.V_lower (Kd.V_mono (ok' := fun k_ => k_ ≠ gb503 ∧ k_ ≠ gb512) ho0 (fun k_ hk_ => ⟨Or.elim hk_ (fun hs_ => hs_.1) (fun hn_ => (Kd.freshB (g := gb503) (o := .cells #[.int .i64 a0_0, .slice A0_1 l0_1.length c0_1] 24 (0, 0)) (by (with_reducible repeat (first | refine bN ?_ _ | refine bD ?_ | refine bA ?_ _)); exact BK503.out) k_ hn_)), Or.elim hk_ (fun hs_ => hs_.2) (fun hn_ => (Kd.freshB (g := gb512) (o := .cells #[.int .i64 x513000_2, .slice Ao41 x513001_2.length co41] 24 (0, 0)) (by (with_reducible repeat (first | refine bN ?_ _ | refine bD ?_ | refine bA ?_ _)); exact BK512.out) k_ hn_))⟩)) (below_size (by repeat (first | (with_reducible first | exact HB.out | apply wA | apply wN | apply wD | refine below_set ?_ GE503.out | refine below_set ?_ GE512.out) | exact HB.out))))
                        have n2_ := ak (blk_below (g := gb503) (o := .cells #[.int .i64 a0_0, .slice A0_1 l0_1.length c0_1] 24 (0, 0)) (by (with_reducible repeat (first | refine bN ?_ _ | refine bD ?_ | refine bA ?_ _)); exact BK503.out) hb)
                        have n3_ := ak (blk_below (g := gb512) (o := .cells #[.int .i64 x513000_2, .slice Ao41 x513001_2.length co41] 24 (0, 0)) (by (with_reducible repeat (first | refine bN ?_ _ | refine bD ?_ | refine bA ?_ _)); exact BK512.out) hb)
                        have n4_ := ak (below_step (by repeat (first | (with_reducible first | exact HB.out | apply wA | apply wN | apply wD | refine below_set ?_ GE503.out | refine below_set ?_ GE512.out) | exact HB.out)) hb)
                        clear HO_513001 BK503 BK512 HB
                        have HO_513001 := n0_
                        have HO521 := n1_
                        have BK503 := n2_
                        have BK512 := n3_
                        have HB := n4_
                        clear n0_ n1_ n2_ n3_ n4_
                        (try clear hb)
                        (try clear hb2)
                        (try clear hk)
                        (try clear hi)
                        (try clear ho0)
                        refine hK.out _ _ ⟨(blk_cell BK512.out 0).trans rfl, (blk_cell BK512.out 1).trans rfl, ((HB.out.cell (World.block_lt_of_cell? w _ hw517_0)).trans hw517_0)⟩ (fun hHeld => ?_)
                        clear hK K
                        refine norm_ (a' := ?_) ?_ ?_
                        rotate_left
                        · show Act.put _ (some 69) _ = _
                          simp only [Act.put, List.setIfInBounds_toArray, List.set_cons_zero, List.set_cons_succ, i64_w, i32_w]
                          rfl
                        refine pure_ (i := 6) (N := some 63) (v := ?_) (a' := ?_) #[true, true, true, true, true, true, true, false, false, false, false, false] rfl rfl (any_of HT_.out (by kernel_rfl)) (fun _ _ _ h => h) (Or.inl ⟨by rfl, ?_⟩) ?_ ?_
                        rotate_left
                        · intro w'
                          go_simp
                          with_reducible rfl
                        rotate_left
                        · simp only [Act.put, List.setIfInBounds_toArray, List.set_cons_zero, List.set_cons_succ, i64_w, i32_w]
                          rfl
                        refine pure_ (i := 7) (N := some 70) (v := ?_) (a' := ?_) #[true, true, true, true, true, true, true, true, false, false, false, false] rfl rfl (any_of HT_.out (by kernel_rfl)) (fun _ _ _ h => h) (Or.inl ⟨by rfl, ?_⟩) ?_ ?_
                        rotate_left
                        · intro w'
                          go_simp
                          with_reducible rfl
                        rotate_left
                        · simp only [Act.put, List.setIfInBounds_toArray, List.set_cons_zero, List.set_cons_succ, i64_w, i32_w]
                          rfl
                        refine pure_ (i := 8) (N := some 71) (v := ?_) (a' := ?_) #[true, true, true, true, true, true, true, true, true, false, false, false] rfl rfl (any_of HT_.out (by kernel_rfl)) (fun _ _ _ h => h) (Or.inl ⟨by rfl, ?_⟩) ?_ ?_
                        rotate_left
                        · intro w'
                          go_simp
                          with_reducible rfl
                        rotate_left
                        · simp only [Act.put, List.setIfInBounds_toArray, List.set_cons_zero, List.set_cons_succ, i64_w, i32_w]
                          rfl
                        refine one_ (i := 9) (N := some 12) #[true, true, true, true, true, true, true, true, true, true, false, false] rfl rfl (one_of HT_.out (by kernel_rfl)) (by decide) (fun K hK => ?_)
                        refine box_step ?hg (N := 12) ?hd (cs := #[.int .i64 0, .slice none 0 0]) (t := 24) ?hr ?_; (case hd => rfl); (case hg => rfl); (case hr => first | (go_simp; done) | (go_simp; rfl))
                        intro gb523 hg w44 hbox hb
                        have n0_ := ak (Kd.V_below (Kd.V_elderB (by (with_reducible repeat (first | apply vA | apply vN | apply vD)); exact HO_513001.out) gb523 (Nat.le_of_eq hg.symm)) hb)
                        have n1_ := ak (Kd.V_below (Kd.V_elderB (by (with_reducible repeat (first | apply vA | apply vN | apply vD)); exact HO521.out) gb523 (Nat.le_of_eq hg.symm)) hb)
                        have n2_ := ak (blk_below (g := gb503) (o := .cells #[.int .i64 a0_0, .slice A0_1 l0_1.length c0_1] 24 (0, 0)) (by (with_reducible repeat (first | refine bN ?_ _ | refine bD ?_ | refine bA ?_ _)); exact BK503.out) hb)
                        have n3_ := ak (blk_below (g := gb512) (o := .cells #[.int .i64 x513000_2, .slice Ao41 x513001_2.length co41] 24 (0, 0)) (by (with_reducible repeat (first | refine bN ?_ _ | refine bD ?_ | refine bA ?_ _)); exact BK512.out) hb)
                        have n4_ := ak (below_step (by repeat (first | (with_reducible first | exact HB.out | apply wA | apply wN | apply wD | refine below_set ?_ GE503.out | refine below_set ?_ GE512.out) | exact HB.out)) hb)
                        have n5_ := ak (hbox)
                        have n6_ := ak ((by rw [hg]; exact (below_size (by repeat (first | (with_reducible first | exact HB.out | apply wA | apply wN | apply wD | refine below_set ?_ GE503.out | refine below_set ?_ GE512.out) | exact HB.out))) : w.heap.size ≤ gb523))
                        have n7_ := ak ((by rw [hg]; exact (below_size (by repeat (first | (with_reducible first | exact HB.out | apply wA | apply wN | apply wD | refine below_set ?_ GE503.out | refine below_set ?_ GE512.out) | exact HB.out))) : w.heap.size ≤ gb523))
                        have n8_ := ak ((by rw [hg]; exact Nat.ne_of_lt (blk_lt (g := gb503) (o := .cells #[.int .i64 a0_0, .slice A0_1 l0_1.length c0_1] 24 (0, 0)) (by (with_reducible repeat (first | refine bN ?_ _ | refine bD ?_ | refine bA ?_ _)); exact BK503.out)) : gb503 ≠ gb523))
                        have n9_ := ak ((by rw [hg]; exact Nat.ne_of_gt (blk_lt (g := gb503) (o := .cells #[.int .i64 a0_0, .slice A0_1 l0_1.length c0_1] 24 (0, 0)) (by (with_reducible repeat (first | refine bN ?_ _ | refine bD ?_ | refine bA ?_ _)); exact BK503.out)) : gb523 ≠ gb503))
                        have n10_ := ak ((by rw [hg]; exact Nat.ne_of_lt (blk_lt (g := gb512) (o := .cells #[.int .i64 x513000_2, .slice Ao41 x513001_2.length co41] 24 (0, 0)) (by (with_reducible repeat (first | refine bN ?_ _ | refine bD ?_ | refine bA ?_ _)); exact BK512.out)) : gb512 ≠ gb523))
                        have n11_ := ak ((by rw [hg]; exact Nat.ne_of_gt (blk_lt (g := gb512) (o := .cells #[.int .i64 x513000_2, .slice Ao41 x513001_2.length co41] 24 (0, 0)) (by (with_reducible repeat (first | refine bN ?_ _ | refine bD ?_ | refine bA ?_ _)); exact BK512.out)) : gb523 ≠ gb512))
                        clear HO_513001 HO521 BK503 BK512 HB
                        have HO_513001 := n0_
                        have HO521 := n1_
                        have BK503 := n2_
                        have BK512 := n3_
                        have HB := n4_
                        have BK523 := n5_
                        have GW523 := n6_
                        have GE523 := n7_
                        have NB503_523 := n8_
                        have NB523_503 := n9_
                        have NB512_523 := n10_
                        have NB523_512 := n11_
                        clear n0_ n1_ n2_ n3_ n4_ n5_ n6_ n7_ n8_ n9_ n10_ n11_ hb hbox hg
                        refine hK.out _ _ ⟨(blk_cell BK512.out 0).trans rfl, (blk_cell BK512.out 1).trans rfl, ((HB.out.cell (World.block_lt_of_cell? w _ hw517_0)).trans hw517_0)⟩ (fun hHeld => ?_)
                        clear hK K
                        refine norm_ (a' := ?_) ?_ ?_
                        rotate_left
                        · show Act.put _ (some 12) _ = _
                          simp only [Act.put, List.setIfInBounds_toArray, List.set_cons_zero, List.set_cons_succ, i64_w, i32_w]
                          rfl
                        exact norm_ (by simp only [putAll, Act.put, List.setIfInBounds_toArray, List.set_cons_zero, List.set_cons_succ]) (hCont (v520, gb523) _ ⟨hHeld, (by (with_reducible repeat (first | apply vA | apply vN | apply vD)); exact Kd.V_mono HO521.out (fun _ hk => by first | exact ⟨hk.1.1, ⟨hk.1.2, hk.2⟩⟩ | (simp only [ne_eq] at hk ⊢; simp [hk]))), (by (with_reducible repeat (first | apply vA | apply vN | apply vD)); exact Kd.V_mono HO_513001.out (fun _ hk => by first | exact ⟨hk.1.1, ⟨hk.1.2, hk.2⟩⟩ | (simp only [ne_eq] at hk ⊢; simp [hk]))), (by (with_reducible repeat (first | refine bN ?_ _ | refine bD ?_ | refine bA ?_ _)); exact BK503.out), (by (with_reducible repeat (first | refine bN ?_ _ | refine bD ?_ | refine bA ?_ _)); exact BK512.out), (by (with_reducible repeat (first | refine bN ?_ _ | refine bD ?_ | refine bA ?_ _)); exact BK523.out), GW523.out, GE523.out, NB503_523.out, NB523_503.out, NB512_523.out, NB523_512.out, (by repeat (first | (with_reducible first | exact HB.out | apply wA | apply wN | apply wD | refine below_set ?_ GE503.out | refine below_set ?_ GE512.out | refine below_set ?_ GE523.out) | exact HB.out))⟩)
                      · skip
                        refine box_step ?hg (N := 12) ?hd (cs := #[.int .i64 0, .slice none 0 0]) (t := 24) ?hr ?_; (case hd => rfl); (case hg => rfl); (case hr => first | (go_simp; done) | (go_simp; rfl))
                        intro gb523 hg w43 hbox hb
                        have n0_ := ak (Kd.V_below (Kd.V_elderB (by (with_reducible repeat (first | apply vA | apply vN | apply vD)); exact HO_513001.out) gb523 (Nat.le_of_eq hg.symm)) hb)
                        have n1_ := ak (blk_below (g := gb503) (o := .cells #[.int .i64 a0_0, .slice A0_1 l0_1.length c0_1] 24 (0, 0)) (by (with_reducible repeat (first | refine bN ?_ _ | refine bD ?_ | refine bA ?_ _)); exact BK503.out) hb)
                        have n2_ := ak (blk_below (g := gb512) (o := .cells #[.int .i64 x513000_2, .slice Ao41 x513001_2.length co41] 24 (0, 0)) (by (with_reducible repeat (first | refine bN ?_ _ | refine bD ?_ | refine bA ?_ _)); exact BK512.out) hb)
                        have n3_ := ak (below_step (by repeat (first | (with_reducible first | exact HB.out | apply wA | apply wN | apply wD | refine below_set ?_ GE503.out | refine below_set ?_ GE512.out) | exact HB.out)) hb)
                        have n4_ := ak (hbox)
                        have n5_ := ak ((by rw [hg]; exact (below_size (by repeat (first | (with_reducible first | exact HB.out | apply wA | apply wN | apply wD | refine below_set ?_ GE503.out | refine below_set ?_ GE512.out) | exact HB.out))) : w.heap.size ≤ gb523))
                        have n6_ := ak ((by rw [hg]; exact (below_size (by repeat (first | (with_reducible first | exact HB.out | apply wA | apply wN | apply wD | refine below_set ?_ GE503.out | refine below_set ?_ GE512.out) | exact HB.out))) : w.heap.size ≤ gb523))
                        have n7_ := ak ((by rw [hg]; exact Nat.ne_of_lt (blk_lt (g := gb503) (o := .cells #[.int .i64 a0_0, .slice A0_1 l0_1.length c0_1] 24 (0, 0)) (by (with_reducible repeat (first | refine bN ?_ _ | refine bD ?_ | refine bA ?_ _)); exact BK503.out)) : gb503 ≠ gb523))
                        have n8_ := ak ((by rw [hg]; exact Nat.ne_of_gt (blk_lt (g := gb503) (o := .cells #[.int .i64 a0_0, .slice A0_1 l0_1.length c0_1] 24 (0, 0)) (by (with_reducible repeat (first | refine bN ?_ _ | refine bD ?_ | refine bA ?_ _)); exact BK503.out)) : gb523 ≠ gb503))
                        have n9_ := ak ((by rw [hg]; exact Nat.ne_of_lt (blk_lt (g := gb512) (o := .cells #[.int .i64 x513000_2, .slice Ao41 x513001_2.length co41] 24 (0, 0)) (by (with_reducible repeat (first | refine bN ?_ _ | refine bD ?_ | refine bA ?_ _)); exact BK512.out)) : gb512 ≠ gb523))
                        have n10_ := ak ((by rw [hg]; exact Nat.ne_of_gt (blk_lt (g := gb512) (o := .cells #[.int .i64 x513000_2, .slice Ao41 x513001_2.length co41] 24 (0, 0)) (by (with_reducible repeat (first | refine bN ?_ _ | refine bD ?_ | refine bA ?_ _)); exact BK512.out)) : gb523 ≠ gb512))
                        clear HO_513001 BK503 BK512 HB
                        have HO_513001 := n0_
                        have BK503 := n1_
                        have BK512 := n2_
                        have HB := n3_
                        have BK523 := n4_
                        have GW523 := n5_
                        have GE523 := n6_
                        have NB503_523 := n7_
                        have NB523_503 := n8_
                        have NB512_523 := n9_
                        have NB523_512 := n10_
                        clear n0_ n1_ n2_ n3_ n4_ n5_ n6_ n7_ n8_ n9_ n10_ hb hbox hg
                        refine hK.out _ _ ⟨(blk_cell BK512.out 0).trans rfl, (blk_cell BK512.out 1).trans rfl, ((HB.out.cell (World.block_lt_of_cell? w _ hw517_0)).trans hw517_0)⟩ (fun hHeld => ?_)
                        clear hK K
                        refine norm_ (a' := ?_) ?_ ?_
                        rotate_left
                        · show Act.put _ (some 12) _ = _
                          simp only [Act.put, List.setIfInBounds_toArray, List.set_cons_zero, List.set_cons_succ, i64_w, i32_w]
                          rfl
                        refine one_ (i := 5) (N := some 69) #[true, true, true, true, true, true, false, false, false, true, false, false] rfl rfl (one_of HT_.out (by kernel_rfl)) (by decide) (fun K hK => ?_)
                        refine goes_ Try.func17 (by kernel_rfl) rfl #[.agg #[.int .i64 x513000_2, .slice Ao41 x513001_2.length co41], .int .i64 (rd l2 x11_2)] (by rfl) rfl rfl (by (try simp only [List.map_toArray, List.map_cons, List.map_nil]); first | done | rfl | (simp only [List.length_drop, List.length_take]; rfl)) ?_
                        with_reducible refine (fuel_Spend.calls k2 x513000_2 (fun k_ => ((k_ ≠ gb503 ∧ k_ ≠ gb512) ∧ k_ ≠ gb523)) _ _ x513001_2 (rd l2 x11_2) t518 t519 t522 _ ?side1 A26.out).mono ?_
                        (case side1 => exact HO_513001.out)
                        rintro e w44 ⟨v520, rfl, ho0, hb⟩
                        refine ⟨_, rfl, ?_⟩
                        have n0_ := ak (Kd.V_below (by (with_reducible repeat (first | apply vA | apply vN | apply vD)); exact HO_513001.out) hb)
                        have n1_ := ak (Kd.V_lower (Kd.V_mono (ok' := fun k_ => k_ ≠ gb503 ∧ k_ ≠ gb512 ∧ k_ ≠ gb523) ho0 (fun k_ hk_ => ⟨Or.elim hk_ (fun hs_ => hs_.1.1) (fun hn_ => (Kd.freshB (g := gb503) (o := .cells #[.int .i64 a0_0, .slice A0_1 l0_1.length c0_1] 24 (0, 0)) (by (with_reducible repeat (first | refine bN ?_ _ | refine bD ?_ | refine bA ?_ _)); exact BK503.out) k_ hn_)), Or.elim hk_ (fun hs_ => hs_.1.2) (fun hn_ => (Kd.freshB (g := gb512) (o := .cells #[.int .i64 x513000_2, .slice Ao41 x513001_2.length co41] 24 (0, 0)) (by (with_reducible repeat (first | refine bN ?_ _ | refine bD ?_ | refine bA ?_ _)); exact BK512.out) k_ hn_)), Or.elim hk_ (fun hs_ => hs_.2) (fun hn_ => (Kd.freshB (g := gb523) (o := .cells #[.int .i64 0, .slice none 0 0] 24 (0, 0)) (by (with_reducible repeat (first | refine bN ?_ _ | refine bD ?_ | refine bA ?_ _)); exact BK523.out) k_ hn_))⟩)) (below_size (by repeat (first | (with_reducible first | exact HB.out | apply wA | apply wN | apply wD | refine below_set ?_ GE503.out | refine below_set ?_ GE512.out | refine below_set ?_ GE523.out) | exact HB.out))))
                        have n2_ := ak (blk_below (g := gb503) (o := .cells #[.int .i64 a0_0, .slice A0_1 l0_1.length c0_1] 24 (0, 0)) (by (with_reducible repeat (first | refine bN ?_ _ | refine bD ?_ | refine bA ?_ _)); exact BK503.out) hb)
                        have n3_ := ak (blk_below (g := gb512) (o := .cells #[.int .i64 x513000_2, .slice Ao41 x513001_2.length co41] 24 (0, 0)) (by (with_reducible repeat (first | refine bN ?_ _ | refine bD ?_ | refine bA ?_ _)); exact BK512.out) hb)
                        have n4_ := ak (blk_below (g := gb523) (o := .cells #[.int .i64 0, .slice none 0 0] 24 (0, 0)) (by (with_reducible repeat (first | refine bN ?_ _ | refine bD ?_ | refine bA ?_ _)); exact BK523.out) hb)
                        have n5_ := ak (below_step (by repeat (first | (with_reducible first | exact HB.out | apply wA | apply wN | apply wD | refine below_set ?_ GE503.out | refine below_set ?_ GE512.out | refine below_set ?_ GE523.out) | exact HB.out)) hb)
                        clear HO_513001 BK503 BK512 BK523 HB
                        have HO_513001 := n0_
                        have HO521 := n1_
                        have BK503 := n2_
                        have BK512 := n3_
                        have BK523 := n4_
                        have HB := n5_
                        clear n0_ n1_ n2_ n3_ n4_ n5_
                        (try clear hb)
                        (try clear hb2)
                        (try clear hk)
                        (try clear hi)
                        (try clear ho0)
                        refine hK.out _ _ ⟨(blk_cell BK512.out 0).trans rfl, (blk_cell BK512.out 1).trans rfl, ((HB.out.cell (World.block_lt_of_cell? w _ hw517_0)).trans hw517_0)⟩ (fun hHeld => ?_)
                        clear hK K
                        refine norm_ (a' := ?_) ?_ ?_
                        rotate_left
                        · show Act.put _ (some 69) _ = _
                          simp only [Act.put, List.setIfInBounds_toArray, List.set_cons_zero, List.set_cons_succ, i64_w, i32_w]
                          rfl
                        refine pure_ (i := 6) (N := some 63) (v := ?_) (a' := ?_) #[true, true, true, true, true, true, true, false, false, true, false, false] rfl rfl (any_of HT_.out (by kernel_rfl)) (fun _ _ _ h => h) (Or.inl ⟨by rfl, ?_⟩) ?_ ?_
                        rotate_left
                        · intro w'
                          go_simp
                          with_reducible rfl
                        rotate_left
                        · simp only [Act.put, List.setIfInBounds_toArray, List.set_cons_zero, List.set_cons_succ, i64_w, i32_w]
                          rfl
                        refine pure_ (i := 7) (N := some 70) (v := ?_) (a' := ?_) #[true, true, true, true, true, true, true, true, false, true, false, false] rfl rfl (any_of HT_.out (by kernel_rfl)) (fun _ _ _ h => h) (Or.inl ⟨by rfl, ?_⟩) ?_ ?_
                        rotate_left
                        · intro w'
                          go_simp
                          with_reducible rfl
                        rotate_left
                        · simp only [Act.put, List.setIfInBounds_toArray, List.set_cons_zero, List.set_cons_succ, i64_w, i32_w]
                          rfl
                        refine pure_ (i := 8) (N := some 71) (v := ?_) (a' := ?_) #[true, true, true, true, true, true, true, true, true, true, false, false] rfl rfl (any_of HT_.out (by kernel_rfl)) (fun _ _ _ h => h) (Or.inl ⟨by rfl, ?_⟩) ?_ ?_
                        rotate_left
                        · intro w'
                          go_simp
                          with_reducible rfl
                        rotate_left
                        · simp only [Act.put, List.setIfInBounds_toArray, List.set_cons_zero, List.set_cons_succ, i64_w, i32_w]
                          rfl
                        exact norm_ (by simp only [putAll, Act.put, List.setIfInBounds_toArray, List.set_cons_zero, List.set_cons_succ]) (hCont (v520, gb523) _ ⟨hHeld, (by (with_reducible repeat (first | apply vA | apply vN | apply vD)); exact HO521.out), (by (with_reducible repeat (first | apply vA | apply vN | apply vD)); exact Kd.V_mono HO_513001.out (fun _ hk => by first | exact ⟨hk.1.1, ⟨hk.1.2, hk.2⟩⟩ | (simp only [ne_eq] at hk ⊢; simp [hk]))), (by (with_reducible repeat (first | refine bN ?_ _ | refine bD ?_ | refine bA ?_ _)); exact BK503.out), (by (with_reducible repeat (first | refine bN ?_ _ | refine bD ?_ | refine bA ?_ _)); exact BK512.out), (by (with_reducible repeat (first | refine bN ?_ _ | refine bD ?_ | refine bA ?_ _)); exact BK523.out), GW523.out, GE523.out, NB503_523.out, NB523_503.out, NB512_523.out, NB523_512.out, (by repeat (first | (with_reducible first | exact HB.out | apply wA | apply wN | apply wD | refine below_set ?_ GE503.out | refine below_set ?_ GE512.out | refine below_set ?_ GE523.out) | exact HB.out))⟩)
                    rintro ⟨v520, gb523⟩ w45 ⟨hS_, h0_, h1_, h2_, h3_, h4_, h5_, h6_, h7_, h8_, h9_, h10_, h11_⟩
                    have n0_ : Aside0 (Kd.V (Kd.int .i64) 2 w45 w.heap.size (fun k_ => k_ ≠ gb503 ∧ k_ ≠ gb512 ∧ k_ ≠ gb523) v520 t519) := ⟨h0_⟩
                    have n1_ : Aside0 (Kd.V (Kd.int .i64) 2 w45 w.heap.size (fun k_ => k_ ≠ gb503 ∧ k_ ≠ gb512 ∧ k_ ≠ gb523) (.slice Ao41 x513001_2.length co41) x513001_2) := ⟨h1_⟩
                    have n2_ : Aside0 (w45.heap[gb503]? = some (.cells #[.int .i64 a0_0, .slice A0_1 l0_1.length c0_1] 24 (0, 0))) := ⟨h2_⟩
                    have n3_ : Aside0 (w45.heap[gb512]? = some (.cells #[.int .i64 x513000_2, .slice Ao41 x513001_2.length co41] 24 (0, 0))) := ⟨h3_⟩
                    have n4_ : Aside0 (w45.heap[gb523]? = some (.cells #[.int .i64 0, .slice none 0 0] 24 (0, 0))) := ⟨h4_⟩
                    have n5_ : Aside0 (w.heap.size ≤ gb523) := ⟨h5_⟩
                    have n6_ : Aside0 (w.heap.size ≤ gb523) := ⟨h6_⟩
                    have n7_ : Aside0 (gb503 ≠ gb523) := ⟨h7_⟩
                    have n8_ : Aside0 (gb523 ≠ gb503) := ⟨h8_⟩
                    have n9_ : Aside0 (gb512 ≠ gb523) := ⟨h9_⟩
                    have n10_ : Aside0 (gb523 ≠ gb512) := ⟨h10_⟩
                    have n11_ : Aside0 (Below w.heap.size w w45) := ⟨h11_⟩
                    clear HO_513001 BK503 BK512 HB h0_ h1_ h2_ h3_ h4_ h5_ h6_ h7_ h8_ h9_ h10_ h11_
                    have HO521 := n0_
                    have HO_513001 := n1_
                    have BK503 := n2_
                    have BK512 := n3_
                    have BK523 := n4_
                    have GW523 := n5_
                    have GE523 := n6_
                    have NB503_523 := n7_
                    have NB523_503 := n8_
                    have NB512_523 := n9_
                    have NB523_512 := n10_
                    have HB := n11_
                    clear n0_ n1_ n2_ n3_ n4_ n5_ n6_ n7_ n8_ n9_ n10_ n11_
                    have hHeld : w45.cell? ⟨gb512, 0, none⟩ = some (.int .i64 x513000_2) ∧ w45.cell? ⟨gb512, 1, none⟩ = some (.slice Ao41 x513001_2.length co41) ∧ w45.cell? (ad517.add (x11_2).toNat) = some (.int .i64 (rd l2 x11_2)) := hS_
                    obtain ⟨Ao47, co47, eo47⟩ := Kd.V_slice HO521.out
                    (first | subst eo47 | (injection eo47 with f1_ f2_ f3_; have f4_ := f1_.symm; have f5_ := f3_.symm; clear f1_ f2_ f3_; subst f4_; subst f5_))
                    refine norm_ (a' := ?_) ?_ ?_
                    rotate_left
                    · simp only [putAll, Act.put, List.setIfInBounds_toArray, List.set_cons_zero, List.set_cons_succ]
                      rfl
                    refine one_ (i := 10) (N := none) #[true, true, true, true, true, true, true, true, true, true, true, false] rfl rfl (one_of HT_.out (by kernel_rfl)) (by decide) (fun K hK => ?_)
                    have hs46 : w45.cell? ⟨gb523, 0, none⟩ = some (.int .i64 0) := (blk_cell BK523.out 0).trans rfl
                    have hfs46 := blk_frozen BK523.out 0
                    have hns46_0 := NB503_523.out
                    have hns46_1 := NB512_523.out
                    have hms46_0 := NB523_503.out
                    have hms46_1 := NB523_512.out
                    have hs48 : w45.cell? ⟨gb523, 1, none⟩ = some (.slice none 0 0) := (blk_cell BK523.out 1).trans rfl
                    have hfs48 := blk_frozen BK523.out 1
                    have hns48_0 := NB503_523.out
                    have hns48_1 := NB512_523.out
                    have hms48_0 := NB523_503.out
                    have hms48_1 := NB523_512.out
                    refine skip_ (w1 := ?_) (by rfl) rfl ?_ ?_
                    rotate_left
                    · go_simp
                      rfl
                    refine hK.out _ _ ⟨((cell_far (p := ⟨gb523, _, none⟩) NB512_523.out _).trans (((cell_far (p := ⟨gb523, _, none⟩) NB512_523.out _).trans (hHeld.1)))), ((cell_far (p := ⟨gb523, _, none⟩) NB512_523.out _).trans (((cell_far (p := ⟨gb523, _, none⟩) NB512_523.out _).trans (hHeld.2.1)))), ((cell_far (p := ⟨gb523, _, none⟩) (by first | exact Nat.ne_of_lt (Nat.lt_of_lt_of_le (by have := World.block_lt_of_cell? _ _ hw517_0; first | rwa [add_block] at this | exact this) GW523.out) | (rw [add_block]; exact Nat.ne_of_lt (Nat.lt_of_lt_of_le (by have := World.block_lt_of_cell? _ _ hw517_0; first | rwa [add_block] at this | exact this) GW523.out)) | (show (Addr.add _ _).block ≠ _; rw [add_block]; exact Nat.ne_of_lt (Nat.lt_of_lt_of_le (by have := World.block_lt_of_cell? _ _ hw517_0; first | rwa [add_block] at this | exact this) GW523.out)) | (dsimp only; exact Nat.ne_of_lt (Nat.lt_of_lt_of_le (by have := World.block_lt_of_cell? _ _ hw517_0; first | rwa [add_block] at this | exact this) GW523.out))) _).trans (((cell_far (p := ⟨gb523, _, none⟩) (by first | exact Nat.ne_of_lt (Nat.lt_of_lt_of_le (by have := World.block_lt_of_cell? _ _ hw517_0; first | rwa [add_block] at this | exact this) GW523.out) | (rw [add_block]; exact Nat.ne_of_lt (Nat.lt_of_lt_of_le (by have := World.block_lt_of_cell? _ _ hw517_0; first | rwa [add_block] at this | exact this) GW523.out)) | (show (Addr.add _ _).block ≠ _; rw [add_block]; exact Nat.ne_of_lt (Nat.lt_of_lt_of_le (by have := World.block_lt_of_cell? _ _ hw517_0; first | rwa [add_block] at this | exact this) GW523.out)) | (dsimp only; exact Nat.ne_of_lt (Nat.lt_of_lt_of_le (by have := World.block_lt_of_cell? _ _ hw517_0; first | rwa [add_block] at this | exact this) GW523.out))) _).trans (hHeld.2.2))))⟩ (fun hHeld => ?_)
                    clear hK K
                    refine pure_ (i := 11) (N := some 13) (v := ?_) (a' := ?_) #[true, true, true, true, true, true, true, true, true, true, true, true] rfl rfl (any_of HT_.out (by kernel_rfl)) (fun _ _ _ h => h) (Or.inl ⟨by rfl, ?_⟩) ?_ ?_
                    rotate_left
                    · intro w'
                      go_simp
                      with_reducible rfl
                    rotate_left
                    · simp only [Act.put, List.setIfInBounds_toArray, List.set_cons_zero, List.set_cons_succ, i64_w, i32_w]
                      rfl
                    refine done_ (done_of HT_.out (by kernel_rfl)) ?_
                    try go_wp2
                    go_roundg k2
                    case measure => have := HJ4.out; have := HK2.out; omega
                    case rel => exact ⟨(x10_2), (wrap64 (x11_2 + 1)), (x513000_2), (x513001_2), (.slice Ao41 x513001_2.length co41), (by first | rfl | (simp; done) | (simp [*]; done)), (by first | rfl | (simp; done) | (simp [*]; done)), H', ⟨by have := HJ4.out; have := HK2.out; omega⟩, ⟨by (with_reducible repeat (first | apply vA | apply vN | apply vD)); exact Kd.V_mono (Kd.V_far (p := ⟨gb523, 1, none⟩) (Kd.V_far (p := ⟨gb523, 0, none⟩) (Kd.V_mono HO_513001.out (fun k_ hk => (⟨hk, by first | exact hk.2.2 | exact hk.2.2 | exact hk.2.1 | omega⟩ : _ ∧ k_ ≠ gb523))) (fun _ hk => hk.2) (.int .i64 t518)) (fun _ hk => hk.2) (.slice Ao47 t519.length co47)) (fun _ hk => by first | exact ⟨hk.1.1, hk.1.2.1⟩ | (simp only [ne_eq] at hk ⊢; simp [hk]))⟩, ⟨by (with_reducible repeat (first | refine bN ?_ _ | refine bD ?_ | refine bA ?_ _)); refine blk_far ?_ NB503_523.out _; (with_reducible repeat (first | refine bN ?_ _ | refine bD ?_ | refine bA ?_ _)); refine blk_far ?_ NB503_523.out _; (with_reducible repeat (first | refine bN ?_ _ | refine bD ?_ | refine bA ?_ _)); exact BK503.out⟩, ⟨by (with_reducible repeat (first | refine bN ?_ _ | refine bD ?_ | refine bA ?_ _)); refine blk_far ?_ NB512_523.out _; (with_reducible repeat (first | refine bN ?_ _ | refine bD ?_ | refine bA ?_ _)); refine blk_far ?_ NB512_523.out _; (with_reducible repeat (first | refine bN ?_ _ | refine bD ?_ | refine bA ?_ _)); exact BK512.out⟩, ⟨by repeat (first | (with_reducible first | exact HB.out | apply wA | apply wN | apply wD | refine below_set ?_ GE503.out | refine below_set ?_ GE512.out | refine below_set ?_ GE523.out) | exact HB.out)⟩⟩
                · rw [if_neg c25] at H
                  exact absurd H (by simp)
              · rw [if_neg c24] at H
                have c24b0 : decide (x11_2 < (l2.length : Int)) = false := decide_eq_false c24
                clear c24
                have HC49 := ak H
                clear H
                go_upto_region 15 with (fail)
                go_cut [88] (fun v88 wc => ∃ (kq : Nat) (x88_48 : Bool), v88 = .bool x88_48 ∧ Aside0 (mummerlaw16_FuelParts.j2 kq t504 x10_2 x88_48 a0_0 l0_1 x513000_2 x513001_2 = some r) ∧ Aside0 (kq ≤ k2) ∧ Aside0 (Kd.V (Kd.int .i64) 2 wc w.heap.size (fun k_ => k_ ≠ gb503 ∧ k_ ≠ gb512) u513001 x513001_2) ∧ Aside0 (wc.heap[gb503]? = some (.cells #[.int .i64 a0_0, (.slice A0_1 l0_1.length c0_1)] 24 (0, 0))) ∧ Aside0 (wc.heap[gb512]? = some (.cells #[.int .i64 x513000_2, u513001] 24 (0, 0))) ∧ Aside0 (Below w.heap.size w wc))
                case first =>
                  have H := HC49.out
                  clear HC49
                  by_cases c50 : x10_2 > a1
                  · rw [if_pos c50] at H
                    have c50b0 : decide (a1 < x10_2) = true := decide_eq_true c50
                    clear c50
                    (first | rw [c50b0] | (simp only [i64_w, i32_w]; rw [c50b0]) | skip)
                    have H' := ak H
                    clear H
                    go_wp2
                    go_meet
                    case rel => exact ⟨_, (true), (by first | rfl | (simp; done) | (simp [*]; done)), H', ⟨by have := HJ4.out; have := HK2.out; first | omega | exact Nat.le_refl _⟩, ⟨by (with_reducible repeat (first | apply vA | apply vN | apply vD)); exact HO_513001.out⟩, ⟨by (with_reducible repeat (first | refine bN ?_ _ | refine bD ?_ | refine bA ?_ _)); exact BK503.out⟩, ⟨by (with_reducible repeat (first | refine bN ?_ _ | refine bD ?_ | refine bA ?_ _)); exact BK512.out⟩, ⟨by repeat (first | (with_reducible first | exact HB.out | apply wA | apply wN | apply wD | refine below_set ?_ GE503.out | refine below_set ?_ GE512.out) | exact HB.out)⟩⟩
                  · rw [if_neg c50] at H
                    have c50b0 : decide (a1 < x10_2) = false := decide_eq_false c50
                    clear c50
                    (first | rw [c50b0] | (simp only [i64_w, i32_w]; rw [c50b0]) | skip)
                    have H' := ak H
                    clear H
                    go_wp2
                    go_meet
                    case rel => exact ⟨_, (decide (x10_2 > t504)), (by first | rfl | (simp; done) | (simp [*]; done)), H', ⟨by have := HJ4.out; have := HK2.out; first | omega | exact Nat.le_refl _⟩, ⟨by (with_reducible repeat (first | apply vA | apply vN | apply vD)); exact HO_513001.out⟩, ⟨by (with_reducible repeat (first | refine bN ?_ _ | refine bD ?_ | refine bA ?_ _)); exact BK503.out⟩, ⟨by (with_reducible repeat (first | refine bN ?_ _ | refine bD ?_ | refine bA ?_ _)); exact BK512.out⟩, ⟨by repeat (first | (with_reducible first | exact HB.out | apply wA | apply wN | apply wD | refine below_set ?_ GE503.out | refine below_set ?_ GE512.out) | exact HB.out)⟩⟩
                case rest =>
                  clear HC49
                  try clear c1
                  try clear c2
                  try clear p2
                  try clear c3
                  try clear c5
                  try clear p5
                  try clear q5
                  try clear hx5
                  try clear p6
                  try clear c17
                  try clear c24
                  try clear c24b0
                  try clear c25
                  try clear c27
                  try clear c27b0
                  try clear c27b1
                  try clear c36
                  try clear c37
                  try clear c39
                  try clear c50
                  try clear c50b0
                  try clear hcz38_0
                  try clear hcz38_1
                  try clear hcz40_0
                  try clear hcz40_1
                  try clear hfz38_0
                  try clear hfz38_1
                  try clear hfz40_0
                  try clear hfz40_1
                  try clear hx517_0
                  try clear hx524_0
                  try clear p517
                  try clear p524
                  try clear q517
                  try clear q524
                  obtain ⟨kq, x88_48, rfl, HA, HJ48, HO_513001, BK503, BK512, HB⟩ := hcut
                  cases kq with
                  | zero => exact absurd HA.out (by simp [mummerlaw16_FuelParts.j2])
                  | succ kj48 =>
                    have H := HA.out
                    clear HA
                    simp only [mummerlaw16_FuelParts.j2] at H
                    by_cases c51 : x88_48 = true
                    · subst c51
                      have H1 : (some false) = some r := by rw [if_pos rfl] at H; exact H
                      clear H
                      have H := H1
                      clear H1
                      exact absurd ((Option.some.inj H).trans hrt.out) (by decide)
                    · replace c51 := Bool.eq_false_iff.mpr c51
                      subst c51
                      have H1 : ((fuel_Close.f kj48 x513000_2 x513001_2).bind fun bt525 => ((fuel_Left.f kj48 bt525.1 bt525.2.1).bind fun bt530 => (if bt525.2.2 = 0 then (if bt530.2 = 0 then (if bt530.1 = (wrap64 (t504 - x10_2)) then (if (bt525.2.1.length : Int) = (l0_1.length : Int) then (if bt525.1 = (wrap64 (a0_0 + x10_2)) then ((mummerlaw16_awake.f kj48).bind fun t532 => (some t532)) else (some false)) else (some false)) else (some false)) else (some false)) else (some false)))) = some r := by rw [if_neg (show ¬ (false = true) by decide)] at H; exact H
                      clear H
                      have H := H1
                      clear H1
                      replace H := Option.bind_eq_some_iff.mp H
                      obtain ⟨⟨t525, t526, t529⟩, A520, H⟩ := H
                      replace H : ((fuel_Left.f kj48 t525 t526).bind fun bt530 => (if t529 = 0 then (if bt530.2 = 0 then (if bt530.1 = (wrap64 (t504 - x10_2)) then (if (t526.length : Int) = (l0_1.length : Int) then (if t525 = (wrap64 (a0_0 + x10_2)) then ((mummerlaw16_awake.f kj48).bind fun t532 => (some t532)) else (some false)) else (some false)) else (some false)) else (some false)) else (some false))) = some r := H
                      have A52 := ak A520
                      clear A520
                      replace H := Option.bind_eq_some_iff.mp H
                      obtain ⟨⟨t530, t531⟩, A530, H⟩ := H
                      replace H : (if t529 = 0 then (if t531 = 0 then (if t530 = (wrap64 (t504 - x10_2)) then (if (t526.length : Int) = (l0_1.length : Int) then (if t525 = (wrap64 (a0_0 + x10_2)) then ((mummerlaw16_awake.f kj48).bind fun t532 => (some t532)) else (some false)) else (some false)) else (some false)) else (some false)) else (some false)) = some r := H
                      have A53 := ak A530
                      clear A530
                      by_cases c54 : t529 = 0
                      · rw [if_pos c54] at H
                        have c54b0 : (t529 == 0) = true := beq_iff_eq.mpr c54
                        have c54b1 : (t529 != 0) = false := bne_eq_false_iff_eq.mpr c54
                        clear c54
                        by_cases c55 : t531 = 0
                        · rw [if_pos c55] at H
                          have c55b0 : (t531 == 0) = true := beq_iff_eq.mpr c55
                          have c55b1 : (t531 != 0) = false := bne_eq_false_iff_eq.mpr c55
                          clear c55
                          by_cases c56 : t530 = (wrap64 (t504 - x10_2))
                          · rw [if_pos c56] at H
                            have c56b0 : (t530 == (wrap64 (t504 - x10_2))) = true := beq_iff_eq.mpr c56
                            have c56b1 : (t530 != (wrap64 (t504 - x10_2))) = false := bne_eq_false_iff_eq.mpr c56
                            clear c56
                            by_cases c57 : (t526.length : Int) = (l0_1.length : Int)
                            · rw [if_pos c57] at H
                              have c57b0 : ((t526.length : Int) == (l0_1.length : Int)) = true := beq_iff_eq.mpr c57
                              have c57b1 : ((t526.length : Int) != (l0_1.length : Int)) = false := bne_eq_false_iff_eq.mpr c57
                              have c57b2 : (t526.length == l0_1.length) = true := by first | simpa using c57 | (simp at c57 ⊢; omega)
                              clear c57
                              by_cases c58 : t525 = (wrap64 (a0_0 + x10_2))
                              · rw [if_pos c58] at H
                                have c58b0 : (t525 == (wrap64 (a0_0 + x10_2))) = true := beq_iff_eq.mpr c58
                                have c58b1 : (t525 != (wrap64 (a0_0 + x10_2))) = false := bne_eq_false_iff_eq.mpr c58
                                clear c58
                                replace H := Option.bind_eq_some_iff.mp H
                                obtain ⟨t532, A590, H⟩ := H
                                replace H : (some t532) = some r := H
                                have A59 := ak A590
                                clear A590
                                obtain rfl := Option.some.inj H
                                have hnb60 := NB512_503.out
                                have hnc60 := NB503_512.out
                                have hcz61_0 : wc.cell? ⟨gb512, 0, none⟩ = some (.int .i64 x513000_2) := (blk_cell BK512.out 0).trans rfl
                                have hcz61_1 : wc.cell? ⟨gb512, 1, none⟩ = some (u513001) := (blk_cell BK512.out 1).trans rfl
                                have hfz61_0 := blk_frozen BK512.out 0
                                have hfz61_1 := blk_frozen BK512.out 1
                                obtain ⟨Ao62, co62, eo62⟩ := Kd.V_slice HO_513001.out
                                subst eo62
                                go_wp2_with (first | ((with_reducible refine gate_callee (f := 20) rfl ?_); refine goesL_ (some 91) rfl rfl Try.func20 (by kernel_rfl) rfl #[.agg #[.int .i64 x513000_2, .slice Ao62 x513001_2.length co62]] rfl (by (try simp only [List.map_toArray, List.map_cons, List.map_nil]); first | done | rfl | (simp only [List.length_drop, List.length_take]; rfl)) ?_; (with_reducible refine (fuel_Close.calls kj48 x513000_2 (fun k_ => (k_ ≠ gb503 ∧ k_ ≠ gb512)) _ _ x513001_2 t525 t526 t529 _ ?side1 A52.out).mono ?_); (case side1 => exact HO_513001.out); rintro e w63 ⟨v527, rfl, ho0, hb⟩; refine ⟨_, rfl, ?_⟩; have n0_ := ak (Kd.V_below (by (with_reducible repeat (first | apply vA | apply vN | apply vD)); exact HO_513001.out) hb); have n1_ := ak (Kd.V_lower (Kd.V_mono (ok' := fun k_ => k_ ≠ gb503 ∧ k_ ≠ gb512) ho0 (fun k_ hk_ => ⟨Or.elim hk_ (fun hs_ => hs_.1) (fun hn_ => (Kd.freshB (g := gb503) (o := .cells #[.int .i64 a0_0, .slice A0_1 l0_1.length c0_1] 24 (0, 0)) (by (with_reducible repeat (first | refine bN ?_ _ | refine bD ?_ | refine bA ?_ _)); exact BK503.out) k_ hn_)), Or.elim hk_ (fun hs_ => hs_.2) (fun hn_ => (Kd.freshB (g := gb512) (o := .cells #[.int .i64 x513000_2, .slice Ao62 x513001_2.length co62] 24 (0, 0)) (by (with_reducible repeat (first | refine bN ?_ _ | refine bD ?_ | refine bA ?_ _)); exact BK512.out) k_ hn_))⟩)) (below_size (by repeat (first | (with_reducible first | exact HB.out | apply wA | apply wN | apply wD | refine below_set ?_ GE503.out | refine below_set ?_ GE512.out) | exact HB.out)))); have n2_ := ak (blk_below (g := gb503) (o := .cells #[.int .i64 a0_0, .slice A0_1 l0_1.length c0_1] 24 (0, 0)) (by (with_reducible repeat (first | refine bN ?_ _ | refine bD ?_ | refine bA ?_ _)); exact BK503.out) hb); have n3_ := ak (blk_below (g := gb512) (o := .cells #[.int .i64 x513000_2, .slice Ao62 x513001_2.length co62] 24 (0, 0)) (by (with_reducible repeat (first | refine bN ?_ _ | refine bD ?_ | refine bA ?_ _)); exact BK512.out) hb); have n4_ := ak (below_step (by repeat (first | (with_reducible first | exact HB.out | apply wA | apply wN | apply wD | refine below_set ?_ GE503.out | refine below_set ?_ GE512.out) | exact HB.out)) hb); clear HO_513001; clear BK503; clear BK512; clear HB; have HO_513001 := n0_; have HO528 := n1_; have BK503 := n2_; have BK512 := n3_; have HB := n4_; clear n0_ n1_ n2_ n3_ n4_; (try clear hb); (try clear hb2); (try clear hk); (try clear hi); (try clear ho0); have hcz64_0 : w63.cell? ⟨gb512, 0, none⟩ = some (.int .i64 x513000_2) := (blk_cell BK512.out 0).trans rfl; have hcz64_1 : w63.cell? ⟨gb512, 1, none⟩ = some (.slice Ao62 x513001_2.length co62) := (blk_cell BK512.out 1).trans rfl; have hfz64_0 := blk_frozen BK512.out 0; have hfz64_1 := blk_frozen BK512.out 1; obtain ⟨Ao65, co65, eo65⟩ := Kd.V_slice HO528.out; subst eo65) | ((with_reducible refine gate_callee (f := 18) rfl ?_); refine goesL_ (some 96) rfl rfl Try.func18 (by kernel_rfl) rfl #[.agg #[.int .i64 t525, .slice Ao65 t526.length co65]] rfl (by (try simp only [List.map_toArray, List.map_cons, List.map_nil]); first | done | rfl | (simp only [List.length_drop, List.length_take]; rfl)) ?_; (with_reducible refine (fuel_Left.calls kj48 t525 _ _ t526 t530 t531 _ ?side1 ?side2 A53.out).mono ?_); (case side1 => refine (Kd.V_reads' (e := 2) (base := w.heap.size) (ok := fun k_ => (k_ ≠ gb503 ∧ k_ ≠ gb512)) (n := t526.length) (c := co65) ?_).2.2; exact (by (with_reducible repeat (first | apply vA | apply vN | apply vD)); exact (Kd.V_mono (Kd.V_far (p := ⟨gb512, 1, none⟩) (Kd.V_far (p := ⟨gb512, 0, none⟩) (Kd.V_mono HO528.out (fun k_ hk => (⟨hk, by first | exact hk.2 | exact hk.2.2 | exact hk.2.1 | omega⟩ : _ ∧ k_ ≠ gb512))) (fun _ hk => hk.2) (.int .i64 t525)) (fun _ hk => hk.2) (.slice Ao65 t526.length co65)) (fun _ h_ => h_.1)))); (case side2 => exact (Kd.V_reads' HO528.out).2.1); rintro e w66 ⟨rfl, hb⟩; refine ⟨_, rfl, ?_⟩; have n0_ := ak (Kd.V_below (by (with_reducible repeat (first | apply vA | apply vN | apply vD)); exact (Kd.V_mono (Kd.V_far (p := ⟨gb512, 1, none⟩) (Kd.V_far (p := ⟨gb512, 0, none⟩) (Kd.V_mono HO_513001.out (fun k_ hk => (⟨hk, by first | exact hk.2 | exact hk.2.2 | exact hk.2.1 | omega⟩ : _ ∧ k_ ≠ gb512))) (fun _ hk => hk.2) (.int .i64 t525)) (fun _ hk => hk.2) (.slice Ao65 t526.length co65)) (fun _ h_ => h_.1))) hb); have n1_ := ak (Kd.V_below (by (with_reducible repeat (first | apply vA | apply vN | apply vD)); exact (Kd.V_mono (Kd.V_far (p := ⟨gb512, 1, none⟩) (Kd.V_far (p := ⟨gb512, 0, none⟩) (Kd.V_mono HO528.out (fun k_ hk => (⟨hk, by first | exact hk.2 | exact hk.2.2 | exact hk.2.1 | omega⟩ : _ ∧ k_ ≠ gb512))) (fun _ hk => hk.2) (.int .i64 t525)) (fun _ hk => hk.2) (.slice Ao65 t526.length co65)) (fun _ h_ => h_.1))) hb); have n2_ := ak (blk_below (g := gb503) (o := .cells #[.int .i64 a0_0, .slice A0_1 l0_1.length c0_1] 24 (0, 0)) (by (with_reducible repeat (first | refine bN ?_ _ | refine bD ?_ | refine bA ?_ _)); refine blk_far ?_ NB503_512.out _; (with_reducible repeat (first | refine bN ?_ _ | refine bD ?_ | refine bA ?_ _)); refine blk_far ?_ NB503_512.out _; (with_reducible repeat (first | refine bN ?_ _ | refine bD ?_ | refine bA ?_ _)); exact BK503.out) hb); have n3_ := ak (blk_below (g := gb512) (o := .cells #[.int .i64 t525, .slice Ao65 t526.length co65] 24 (0, 0)) (by (with_reducible repeat (first | refine bN ?_ _ | refine bD ?_ | refine bA ?_ _)); refine blk_put (cs := #[.int .i64 t525, .slice Ao62 x513001_2.length co62]) ?_ 1 _ rfl; (with_reducible repeat (first | refine bN ?_ _ | refine bD ?_ | refine bA ?_ _)); refine blk_put (cs := #[.int .i64 x513000_2, .slice Ao62 x513001_2.length co62]) ?_ 0 _ rfl; (with_reducible repeat (first | refine bN ?_ _ | refine bD ?_ | refine bA ?_ _)); exact BK512.out) hb); have n4_ := ak (below_step (by repeat (first | (with_reducible first | exact HB.out | apply wA | apply wN | apply wD | refine below_set ?_ GE503.out | refine below_set ?_ GE512.out) | exact HB.out)) hb); clear HO_513001; clear HO528; clear BK503; clear BK512; clear HB; have HO_513001 := n0_; have HO528 := n1_; have BK503 := n2_; have BK512 := n3_; have HB := n4_; clear n0_ n1_ n2_ n3_ n4_; (try clear hb); (try clear hb2); (try clear hk); (try clear hi); have hcz67_0 : w66.cell? ⟨gb512, 0, none⟩ = some (.int .i64 t525) := (blk_cell BK512.out 0).trans rfl; have hcz67_1 : w66.cell? ⟨gb512, 1, none⟩ = some (.slice Ao65 t526.length co65) := (blk_cell BK512.out 1).trans rfl; have hfz67_0 := blk_frozen BK512.out 0; have hfz67_1 := blk_frozen BK512.out 1; have hcz68_0 : w66.cell? ⟨gb503, 0, none⟩ = some (.int .i64 a0_0) := (blk_cell BK503.out 0).trans rfl; have hcz68_1 : w66.cell? ⟨gb503, 1, none⟩ = some (.slice A0_1 l0_1.length c0_1) := (blk_cell BK503.out 1).trans rfl; have hfz68_0 := blk_frozen BK503.out 0; have hfz68_1 := blk_frozen BK503.out 1) | (go_at_call 9; (with_reducible refine (mummerlaw16_awake.calls kj48  t532 _ hrt A59.out).mono ?_); rintro e w69 ⟨rfl, hb⟩; have n0_ := ak (Kd.V_below (by (with_reducible repeat (first | apply vA | apply vN | apply vD)); exact HO_513001.out) hb); have n1_ := ak (Kd.V_below (by (with_reducible repeat (first | apply vA | apply vN | apply vD)); exact HO528.out) hb); have n2_ := ak (blk_below (g := gb503) (o := .cells #[.int .i64 a0_0, .slice A0_1 l0_1.length c0_1] 24 (0, 0)) (by (with_reducible repeat (first | refine bN ?_ _ | refine bD ?_ | refine bA ?_ _)); exact BK503.out) hb); have n3_ := ak (blk_below (g := gb512) (o := .cells #[.int .i64 t525, .slice Ao65 t526.length co65] 24 (0, 0)) (by (with_reducible repeat (first | refine bN ?_ _ | refine bD ?_ | refine bA ?_ _)); exact BK512.out) hb); have n4_ := ak (below_step (by repeat (first | (with_reducible first | exact HB.out | apply wA | apply wN | apply wD | refine below_set ?_ GE503.out | refine below_set ?_ GE512.out) | exact HB.out)) hb); clear HO_513001; clear HO528; clear BK503; clear BK512; clear HB; have HO_513001 := n0_; have HO528 := n1_; have BK503 := n2_; have BK512 := n3_; have HB := n4_; clear n0_ n1_ n2_ n3_ n4_; (try clear hb); (try clear hb2); (try clear hk); (try clear hi)))
                                go_ret
                                exact ⟨by first | rfl | (simp [errW_none, errW_some] <;> rfl) | (simp [*, errW_none, errW_some] <;> rfl), by repeat (first | (with_reducible first | exact HB.out | apply wA | apply wN | apply wD | refine below_set ?_ GE503.out | refine below_set ?_ GE512.out) | exact HB.out)⟩
                              · rw [if_neg c58] at H
                                have c58b0 : (t525 == (wrap64 (a0_0 + x10_2))) = false := beq_eq_false_iff_ne.mpr c58
                                have c58b1 : (t525 != (wrap64 (a0_0 + x10_2))) = true := bne_iff_ne.mpr c58
                                exact absurd ((Option.some.inj H).trans hrt.out) (by decide)
                            · rw [if_neg c57] at H
                              have c57b0 : ((t526.length : Int) == (l0_1.length : Int)) = false := beq_eq_false_iff_ne.mpr c57
                              have c57b1 : ((t526.length : Int) != (l0_1.length : Int)) = true := bne_iff_ne.mpr c57
                              have c57b2 : (t526.length == l0_1.length) = false := by first | simpa using c57 | (simp at c57 ⊢; omega)
                              exact absurd ((Option.some.inj H).trans hrt.out) (by decide)
                          · rw [if_neg c56] at H
                            have c56b0 : (t530 == (wrap64 (t504 - x10_2))) = false := beq_eq_false_iff_ne.mpr c56
                            have c56b1 : (t530 != (wrap64 (t504 - x10_2))) = true := bne_iff_ne.mpr c56
                            exact absurd ((Option.some.inj H).trans hrt.out) (by decide)
                        · rw [if_neg c55] at H
                          have c55b0 : (t531 == 0) = false := beq_eq_false_iff_ne.mpr c55
                          have c55b1 : (t531 != 0) = true := bne_iff_ne.mpr c55
                          exact absurd ((Option.some.inj H).trans hrt.out) (by decide)
                      · rw [if_neg c54] at H
                        have c54b0 : (t529 == 0) = false := beq_eq_false_iff_ne.mpr c54
                        have c54b1 : (t529 != 0) = true := bne_iff_ne.mpr c54
                        exact absurd ((Option.some.inj H).trans hrt.out) (by decide)
        · rw [if_neg c17] at H
          have c17b0 : (t511 == 0) = false := beq_eq_false_iff_ne.mpr c17
          have c17b1 : (t511 != 0) = true := bne_iff_ne.mpr c17
          by_cases c70 : t511 = 7
          · rw [if_pos c70] at H
            have c70b0 : (t511 == 7) = true := beq_iff_eq.mpr c70
            have c70b1 : (t511 != 7) = false := bne_eq_false_iff_eq.mpr c70
            clear c70
            replace H := Option.bind_eq_some_iff.mp H
            obtain ⟨t513, A710, H⟩ := H
            replace H : (if t513 = true then ((mummerlaw16_awake.f kj4).bind fun t514 => (some t514)) else (some false)) = some r := H
            have A71 := ak A710
            clear A710
            by_cases c72 : t513 = true
            · subst c72
              have H1 : ((mummerlaw16_awake.f kj4).bind fun t514 => (some t514)) = some r := by rw [if_pos rfl] at H; exact H
              clear H
              have H := H1
              clear H1
              replace H := Option.bind_eq_some_iff.mp H
              obtain ⟨t514, A730, H⟩ := H
              replace H : (some t514) = some r := H
              have A73 := ak A730
              clear A730
              obtain rfl := Option.some.inj H
              have hcz74_0 : wc.cell? ⟨gb503, 0, none⟩ = some (.int .i64 a0_0) := (blk_cell BK503.out 0).trans rfl
              have hcz74_1 : wc.cell? ⟨gb503, 1, none⟩ = some (.slice A0_1 l0_1.length c0_1) := (blk_cell BK503.out 1).trans rfl
              have hfz74_0 := blk_frozen BK503.out 0
              have hfz74_1 := blk_frozen BK503.out 1
              go_wp2_with (first | ((with_reducible refine gate_callee (f := 19) rfl ?_); refine goesL_ (some 38) rfl rfl Try.func19 (by kernel_rfl) rfl #[.agg #[.int .i64 a0_0, .slice A0_1 l0_1.length c0_1], .int .i64 a1] rfl (by (try simp only [List.map_toArray, List.map_cons, List.map_nil]); first | done | rfl | (simp only [List.length_drop, List.length_take]; rfl)) ?_; (with_reducible refine (fuel_Open.calls kj4 a0_0 (fun k_ => k_ < w.heap.size) _ _ l0_1 a1 t507 t508 t511 _ ?side1 A16.out).mono ?_); (case side1 => exact Kd.V_mk HC0_1.out (Kd.F_below (Kd.C_F (Kd.heap_int .i64) HR0_1.out) (by repeat (first | (with_reducible first | exact HB.out | apply wA | apply wN | apply wD | refine below_set ?_ GE503.out) | exact HB.out)))); rintro e w75 ⟨v509, rfl, ho0, hb⟩; refine ⟨_, rfl, ?_⟩; have n0_ := ak (Kd.V_lower (Kd.V_mono (ok' := fun k_ => k_ ≠ gb503) ho0 (fun k_ hk_ => Or.elim hk_ (fun hs_ => fun e_ => Nat.not_le.2 hs_ (by rw [e_]; exact GW503.out)) (fun hn_ => (Kd.freshB (g := gb503) (o := .cells #[.int .i64 a0_0, .slice A0_1 l0_1.length c0_1] 24 (0, 0)) (by (with_reducible repeat (first | refine bN ?_ _ | refine bD ?_ | refine bA ?_ _)); exact BK503.out) k_ hn_)))) (below_size (by repeat (first | (with_reducible first | exact HB.out | apply wA | apply wN | apply wD | refine below_set ?_ GE503.out) | exact HB.out)))); have n1_ := ak (blk_below (g := gb503) (o := .cells #[.int .i64 a0_0, .slice A0_1 l0_1.length c0_1] 24 (0, 0)) (by (with_reducible repeat (first | refine bN ?_ _ | refine bD ?_ | refine bA ?_ _)); exact BK503.out) hb); have n2_ := ak (below_step (by repeat (first | (with_reducible first | exact HB.out | apply wA | apply wN | apply wD | refine below_set ?_ GE503.out) | exact HB.out)) hb); clear BK503; clear HB; have HO510 := n0_; have BK503 := n1_; have HB := n2_; clear n0_ n1_ n2_; (try clear hb); (try clear hb2); (try clear hk); (try clear hi); (try clear ho0)) | ((with_reducible refine gate_dst (N := 9) rfl ?_); (try (refine gate_guard (by rfl) ?_; dsimp only)); refine box_event ?hg (N := 9) ?hd (cs := #[.int .i64 0, .slice none 0 0]) (t := 24) ?hr ?_; (case hd => rfl); (case hg => rfl); (case hr => first | (go_simp; done) | (go_simp; rfl)); intro gb512 hg w76 hbox hb; have n0_ := ak (Kd.V_below (Kd.V_elderB (by (with_reducible repeat (first | apply vA | apply vN | apply vD)); exact HO510.out) gb512 (Nat.le_of_eq hg.symm)) hb); have n1_ := ak (blk_below (g := gb503) (o := .cells #[.int .i64 a0_0, .slice A0_1 l0_1.length c0_1] 24 (0, 0)) (by (with_reducible repeat (first | refine bN ?_ _ | refine bD ?_ | refine bA ?_ _)); exact BK503.out) hb); have n2_ := ak (below_step (by repeat (first | (with_reducible first | exact HB.out | apply wA | apply wN | apply wD | refine below_set ?_ GE503.out) | exact HB.out)) hb); have n3_ := ak (hbox); have n4_ := ak ((by rw [hg]; exact (below_size (by repeat (first | (with_reducible first | exact HB.out | apply wA | apply wN | apply wD | refine below_set ?_ GE503.out) | exact HB.out))) : w.heap.size ≤ gb512)); have n5_ := ak ((by rw [hg]; exact (below_size (by repeat (first | (with_reducible first | exact HB.out | apply wA | apply wN | apply wD | refine below_set ?_ GE503.out) | exact HB.out))) : w.heap.size ≤ gb512)); have n6_ := ak ((by rw [hg]; exact Nat.ne_of_lt (blk_lt (g := gb503) (o := .cells #[.int .i64 a0_0, .slice A0_1 l0_1.length c0_1] 24 (0, 0)) (by (with_reducible repeat (first | refine bN ?_ _ | refine bD ?_ | refine bA ?_ _)); exact BK503.out)) : gb503 ≠ gb512)); have n7_ := ak ((by rw [hg]; exact Nat.ne_of_gt (blk_lt (g := gb503) (o := .cells #[.int .i64 a0_0, .slice A0_1 l0_1.length c0_1] 24 (0, 0)) (by (with_reducible repeat (first | refine bN ?_ _ | refine bD ?_ | refine bA ?_ _)); exact BK503.out)) : gb512 ≠ gb503)); clear HO510; clear BK503; clear HB; have HO510 := n0_; have BK503 := n1_; have HB := n2_; have BK512 := n3_; have GW512 := n4_; have GE512 := n5_; have NB503_512 := n6_; have NB512_503 := n7_; clear n0_ n1_ n2_ n3_ n4_ n5_ n6_ n7_; clear hb hbox hg; have hnb77 := NB512_503.out; have hnc77 := NB503_512.out; have hcz78_0 : w76.cell? ⟨gb512, 0, none⟩ = some (.int .i64 0) := (blk_cell BK512.out 0).trans rfl; have hcz78_1 : w76.cell? ⟨gb512, 1, none⟩ = some (.slice none 0 0) := (blk_cell BK512.out 1).trans rfl; have hfz78_0 := blk_frozen BK512.out 0; have hfz78_1 := blk_frozen BK512.out 1; obtain ⟨Ao79, co79, eo79⟩ := Kd.V_slice HO510.out; subst eo79; have hcz80_0 : w76.cell? ⟨gb503, 0, none⟩ = some (.int .i64 a0_0) := (blk_cell BK503.out 0).trans rfl; have hcz80_1 : w76.cell? ⟨gb503, 1, none⟩ = some (.slice A0_1 l0_1.length c0_1) := (blk_cell BK503.out 1).trans rfl; have hfz80_0 := blk_frozen BK503.out 0; have hfz80_1 := blk_frozen BK503.out 1) | (go_at_call 14; (with_reducible refine (mummerref16_Same.calls kj4 a0_0 _ _ l0_1 t507 _ _ t508 true _ ?side1 ?side2 ?side3 ?side4 A71.out).mono ?_); (case side1 => exact Kd.C_below HR0_1.out (by repeat (first | (with_reducible first | exact HB.out | apply wA | apply wN | apply wD | refine below_set ?_ GE503.out | refine below_set ?_ GE512.out) | exact HB.out))); (case side2 => exact HC0_1.out); (case side3 => refine (Kd.V_reads' (e := 2) (base := w.heap.size) (ok := fun k_ => (k_ ≠ gb503 ∧ k_ ≠ gb512)) (n := t508.length) (c := co79) ?_).2.2; exact (by (with_reducible repeat (first | apply vA | apply vN | apply vD)); exact (Kd.V_mono (Kd.V_far (p := ⟨gb512, 1, none⟩) (Kd.V_far (p := ⟨gb512, 0, none⟩) (Kd.V_mono HO510.out (fun k_ hk => (⟨hk, by first | exact hk.2 | exact hk.2.2 | exact hk.2.1 | omega⟩ : _ ∧ k_ ≠ gb512))) (fun _ hk => hk.2) (.int .i64 t507)) (fun _ hk => hk.2) (.slice Ao79 t508.length co79)) (fun _ h_ => h_.1)))); (case side4 => exact (Kd.V_reads' HO510.out).2.1); rintro e w81 ⟨rfl, hb⟩; have n0_ := ak (Kd.V_below (by (with_reducible repeat (first | apply vA | apply vN | apply vD)); exact (Kd.V_mono (Kd.V_far (p := ⟨gb512, 1, none⟩) (Kd.V_far (p := ⟨gb512, 0, none⟩) (Kd.V_mono HO510.out (fun k_ hk => (⟨hk, by first | exact hk.2 | exact hk.2.2 | exact hk.2.1 | omega⟩ : _ ∧ k_ ≠ gb512))) (fun _ hk => hk.2) (.int .i64 t507)) (fun _ hk => hk.2) (.slice Ao79 t508.length co79)) (fun _ h_ => h_.1))) hb); have n1_ := ak (blk_below (g := gb503) (o := .cells #[.int .i64 a0_0, .slice A0_1 l0_1.length c0_1] 24 (0, 0)) (by (with_reducible repeat (first | refine bN ?_ _ | refine bD ?_ | refine bA ?_ _)); refine blk_far ?_ NB503_512.out _; (with_reducible repeat (first | refine bN ?_ _ | refine bD ?_ | refine bA ?_ _)); refine blk_far ?_ NB503_512.out _; (with_reducible repeat (first | refine bN ?_ _ | refine bD ?_ | refine bA ?_ _)); exact BK503.out) hb); have n2_ := ak (blk_below (g := gb512) (o := .cells #[.int .i64 t507, .slice Ao79 t508.length co79] 24 (0, 0)) (by (with_reducible repeat (first | refine bN ?_ _ | refine bD ?_ | refine bA ?_ _)); refine blk_put (cs := #[.int .i64 t507, .slice none 0 0]) ?_ 1 _ rfl; (with_reducible repeat (first | refine bN ?_ _ | refine bD ?_ | refine bA ?_ _)); refine blk_put (cs := #[.int .i64 0, .slice none 0 0]) ?_ 0 _ rfl; (with_reducible repeat (first | refine bN ?_ _ | refine bD ?_ | refine bA ?_ _)); exact BK512.out) hb); have n3_ := ak (below_step (by repeat (first | (with_reducible first | exact HB.out | apply wA | apply wN | apply wD | refine below_set ?_ GE503.out | refine below_set ?_ GE512.out) | exact HB.out)) hb); clear HO510; clear BK503; clear BK512; clear HB; have HO510 := n0_; have BK503 := n1_; have BK512 := n2_; have HB := n3_; clear n0_ n1_ n2_ n3_; (try clear hb); (try clear hb2); (try clear hk); (try clear hi)) | (go_at_call 9; (with_reducible refine (mummerlaw16_awake.calls kj4  t514 _ hrt A73.out).mono ?_); rintro e w82 ⟨rfl, hb⟩; have n0_ := ak (Kd.V_below (by (with_reducible repeat (first | apply vA | apply vN | apply vD)); exact HO510.out) hb); have n1_ := ak (blk_below (g := gb503) (o := .cells #[.int .i64 a0_0, .slice A0_1 l0_1.length c0_1] 24 (0, 0)) (by (with_reducible repeat (first | refine bN ?_ _ | refine bD ?_ | refine bA ?_ _)); exact BK503.out) hb); have n2_ := ak (blk_below (g := gb512) (o := .cells #[.int .i64 t507, .slice Ao79 t508.length co79] 24 (0, 0)) (by (with_reducible repeat (first | refine bN ?_ _ | refine bD ?_ | refine bA ?_ _)); exact BK512.out) hb); have n3_ := ak (below_step (by repeat (first | (with_reducible first | exact HB.out | apply wA | apply wN | apply wD | refine below_set ?_ GE503.out | refine below_set ?_ GE512.out) | exact HB.out)) hb); clear HO510; clear BK503; clear BK512; clear HB; have HO510 := n0_; have BK503 := n1_; have BK512 := n2_; have HB := n3_; clear n0_ n1_ n2_ n3_; (try clear hb); (try clear hb2); (try clear hk); (try clear hi)))
              go_ret
              exact ⟨by first | rfl | (simp [errW_none, errW_some] <;> rfl) | (simp [*, errW_none, errW_some] <;> rfl), by repeat (first | (with_reducible first | exact HB.out | apply wA | apply wN | apply wD | refine below_set ?_ GE503.out | refine below_set ?_ GE512.out) | exact HB.out)⟩
            · replace c72 := Bool.eq_false_iff.mpr c72
              subst c72
              have H1 : (some false) = some r := by rw [if_neg (show ¬ (false = true) by decide)] at H; exact H
              clear H
              have H := H1
              clear H1
              exact absurd ((Option.some.inj H).trans hrt.out) (by decide)
          · rw [if_neg c70] at H
            have c70b0 : (t511 == 7) = false := beq_eq_false_iff_ne.mpr c70
            have c70b1 : (t511 != 7) = true := bne_iff_ne.mpr c70
            by_cases c83 : t511 = 3
            · rw [if_pos c83] at H
              have c83b0 : (t511 == 3) = true := beq_iff_eq.mpr c83
              have c83b1 : (t511 != 3) = false := bne_eq_false_iff_eq.mpr c83
              clear c83
              replace H := Option.bind_eq_some_iff.mp H
              obtain ⟨t515, A840, H⟩ := H
              replace H : (if t515 = true then ((mummerlaw16_awake.f kj4).bind fun t516 => (some t516)) else (some false)) = some r := H
              have A84 := ak A840
              clear A840
              by_cases c85 : t515 = true
              · subst c85
                have H1 : ((mummerlaw16_awake.f kj4).bind fun t516 => (some t516)) = some r := by rw [if_pos rfl] at H; exact H
                clear H
                have H := H1
                clear H1
                replace H := Option.bind_eq_some_iff.mp H
                obtain ⟨t516, A860, H⟩ := H
                replace H : (some t516) = some r := H
                have A86 := ak A860
                clear A860
                obtain rfl := Option.some.inj H
                have hcz87_0 : wc.cell? ⟨gb503, 0, none⟩ = some (.int .i64 a0_0) := (blk_cell BK503.out 0).trans rfl
                have hcz87_1 : wc.cell? ⟨gb503, 1, none⟩ = some (.slice A0_1 l0_1.length c0_1) := (blk_cell BK503.out 1).trans rfl
                have hfz87_0 := blk_frozen BK503.out 0
                have hfz87_1 := blk_frozen BK503.out 1
                go_wp2_with (first | ((with_reducible refine gate_callee (f := 19) rfl ?_); refine goesL_ (some 38) rfl rfl Try.func19 (by kernel_rfl) rfl #[.agg #[.int .i64 a0_0, .slice A0_1 l0_1.length c0_1], .int .i64 a1] rfl (by (try simp only [List.map_toArray, List.map_cons, List.map_nil]); first | done | rfl | (simp only [List.length_drop, List.length_take]; rfl)) ?_; (with_reducible refine (fuel_Open.calls kj4 a0_0 (fun k_ => k_ < w.heap.size) _ _ l0_1 a1 t507 t508 t511 _ ?side1 A16.out).mono ?_); (case side1 => exact Kd.V_mk HC0_1.out (Kd.F_below (Kd.C_F (Kd.heap_int .i64) HR0_1.out) (by repeat (first | (with_reducible first | exact HB.out | apply wA | apply wN | apply wD | refine below_set ?_ GE503.out) | exact HB.out)))); rintro e w88 ⟨v509, rfl, ho0, hb⟩; refine ⟨_, rfl, ?_⟩; have n0_ := ak (Kd.V_lower (Kd.V_mono (ok' := fun k_ => k_ ≠ gb503) ho0 (fun k_ hk_ => Or.elim hk_ (fun hs_ => fun e_ => Nat.not_le.2 hs_ (by rw [e_]; exact GW503.out)) (fun hn_ => (Kd.freshB (g := gb503) (o := .cells #[.int .i64 a0_0, .slice A0_1 l0_1.length c0_1] 24 (0, 0)) (by (with_reducible repeat (first | refine bN ?_ _ | refine bD ?_ | refine bA ?_ _)); exact BK503.out) k_ hn_)))) (below_size (by repeat (first | (with_reducible first | exact HB.out | apply wA | apply wN | apply wD | refine below_set ?_ GE503.out) | exact HB.out)))); have n1_ := ak (blk_below (g := gb503) (o := .cells #[.int .i64 a0_0, .slice A0_1 l0_1.length c0_1] 24 (0, 0)) (by (with_reducible repeat (first | refine bN ?_ _ | refine bD ?_ | refine bA ?_ _)); exact BK503.out) hb); have n2_ := ak (below_step (by repeat (first | (with_reducible first | exact HB.out | apply wA | apply wN | apply wD | refine below_set ?_ GE503.out) | exact HB.out)) hb); clear BK503; clear HB; have HO510 := n0_; have BK503 := n1_; have HB := n2_; clear n0_ n1_ n2_; (try clear hb); (try clear hb2); (try clear hk); (try clear hi); (try clear ho0)) | ((with_reducible refine gate_dst (N := 9) rfl ?_); (try (refine gate_guard (by rfl) ?_; dsimp only)); refine box_event ?hg (N := 9) ?hd (cs := #[.int .i64 0, .slice none 0 0]) (t := 24) ?hr ?_; (case hd => rfl); (case hg => rfl); (case hr => first | (go_simp; done) | (go_simp; rfl)); intro gb512 hg w89 hbox hb; have n0_ := ak (Kd.V_below (Kd.V_elderB (by (with_reducible repeat (first | apply vA | apply vN | apply vD)); exact HO510.out) gb512 (Nat.le_of_eq hg.symm)) hb); have n1_ := ak (blk_below (g := gb503) (o := .cells #[.int .i64 a0_0, .slice A0_1 l0_1.length c0_1] 24 (0, 0)) (by (with_reducible repeat (first | refine bN ?_ _ | refine bD ?_ | refine bA ?_ _)); exact BK503.out) hb); have n2_ := ak (below_step (by repeat (first | (with_reducible first | exact HB.out | apply wA | apply wN | apply wD | refine below_set ?_ GE503.out) | exact HB.out)) hb); have n3_ := ak (hbox); have n4_ := ak ((by rw [hg]; exact (below_size (by repeat (first | (with_reducible first | exact HB.out | apply wA | apply wN | apply wD | refine below_set ?_ GE503.out) | exact HB.out))) : w.heap.size ≤ gb512)); have n5_ := ak ((by rw [hg]; exact (below_size (by repeat (first | (with_reducible first | exact HB.out | apply wA | apply wN | apply wD | refine below_set ?_ GE503.out) | exact HB.out))) : w.heap.size ≤ gb512)); have n6_ := ak ((by rw [hg]; exact Nat.ne_of_lt (blk_lt (g := gb503) (o := .cells #[.int .i64 a0_0, .slice A0_1 l0_1.length c0_1] 24 (0, 0)) (by (with_reducible repeat (first | refine bN ?_ _ | refine bD ?_ | refine bA ?_ _)); exact BK503.out)) : gb503 ≠ gb512)); have n7_ := ak ((by rw [hg]; exact Nat.ne_of_gt (blk_lt (g := gb503) (o := .cells #[.int .i64 a0_0, .slice A0_1 l0_1.length c0_1] 24 (0, 0)) (by (with_reducible repeat (first | refine bN ?_ _ | refine bD ?_ | refine bA ?_ _)); exact BK503.out)) : gb512 ≠ gb503)); clear HO510; clear BK503; clear HB; have HO510 := n0_; have BK503 := n1_; have HB := n2_; have BK512 := n3_; have GW512 := n4_; have GE512 := n5_; have NB503_512 := n6_; have NB512_503 := n7_; clear n0_ n1_ n2_ n3_ n4_ n5_ n6_ n7_; clear hb hbox hg; have hnb90 := NB512_503.out; have hnc90 := NB503_512.out; have hcz91_0 : w89.cell? ⟨gb512, 0, none⟩ = some (.int .i64 0) := (blk_cell BK512.out 0).trans rfl; have hcz91_1 : w89.cell? ⟨gb512, 1, none⟩ = some (.slice none 0 0) := (blk_cell BK512.out 1).trans rfl; have hfz91_0 := blk_frozen BK512.out 0; have hfz91_1 := blk_frozen BK512.out 1; obtain ⟨Ao92, co92, eo92⟩ := Kd.V_slice HO510.out; subst eo92; have hcz93_0 : w89.cell? ⟨gb503, 0, none⟩ = some (.int .i64 a0_0) := (blk_cell BK503.out 0).trans rfl; have hcz93_1 : w89.cell? ⟨gb503, 1, none⟩ = some (.slice A0_1 l0_1.length c0_1) := (blk_cell BK503.out 1).trans rfl; have hfz93_0 := blk_frozen BK503.out 0; have hfz93_1 := blk_frozen BK503.out 1) | (go_at_call 14; (with_reducible refine (mummerref16_Same.calls kj4 a0_0 _ _ l0_1 t507 _ _ t508 true _ ?side1 ?side2 ?side3 ?side4 A84.out).mono ?_); (case side1 => exact Kd.C_below HR0_1.out (by repeat (first | (with_reducible first | exact HB.out | apply wA | apply wN | apply wD | refine below_set ?_ GE503.out | refine below_set ?_ GE512.out) | exact HB.out))); (case side2 => exact HC0_1.out); (case side3 => refine (Kd.V_reads' (e := 2) (base := w.heap.size) (ok := fun k_ => (k_ ≠ gb503 ∧ k_ ≠ gb512)) (n := t508.length) (c := co92) ?_).2.2; exact (by (with_reducible repeat (first | apply vA | apply vN | apply vD)); exact (Kd.V_mono (Kd.V_far (p := ⟨gb512, 1, none⟩) (Kd.V_far (p := ⟨gb512, 0, none⟩) (Kd.V_mono HO510.out (fun k_ hk => (⟨hk, by first | exact hk.2 | exact hk.2.2 | exact hk.2.1 | omega⟩ : _ ∧ k_ ≠ gb512))) (fun _ hk => hk.2) (.int .i64 t507)) (fun _ hk => hk.2) (.slice Ao92 t508.length co92)) (fun _ h_ => h_.1)))); (case side4 => exact (Kd.V_reads' HO510.out).2.1); rintro e w94 ⟨rfl, hb⟩; have n0_ := ak (Kd.V_below (by (with_reducible repeat (first | apply vA | apply vN | apply vD)); exact (Kd.V_mono (Kd.V_far (p := ⟨gb512, 1, none⟩) (Kd.V_far (p := ⟨gb512, 0, none⟩) (Kd.V_mono HO510.out (fun k_ hk => (⟨hk, by first | exact hk.2 | exact hk.2.2 | exact hk.2.1 | omega⟩ : _ ∧ k_ ≠ gb512))) (fun _ hk => hk.2) (.int .i64 t507)) (fun _ hk => hk.2) (.slice Ao92 t508.length co92)) (fun _ h_ => h_.1))) hb); have n1_ := ak (blk_below (g := gb503) (o := .cells #[.int .i64 a0_0, .slice A0_1 l0_1.length c0_1] 24 (0, 0)) (by (with_reducible repeat (first | refine bN ?_ _ | refine bD ?_ | refine bA ?_ _)); refine blk_far ?_ NB503_512.out _; (with_reducible repeat (first | refine bN ?_ _ | refine bD ?_ | refine bA ?_ _)); refine blk_far ?_ NB503_512.out _; (with_reducible repeat (first | refine bN ?_ _ | refine bD ?_ | refine bA ?_ _)); exact BK503.out) hb); have n2_ := ak (blk_below (g := gb512) (o := .cells #[.int .i64 t507, .slice Ao92 t508.length co92] 24 (0, 0)) (by (with_reducible repeat (first | refine bN ?_ _ | refine bD ?_ | refine bA ?_ _)); refine blk_put (cs := #[.int .i64 t507, .slice none 0 0]) ?_ 1 _ rfl; (with_reducible repeat (first | refine bN ?_ _ | refine bD ?_ | refine bA ?_ _)); refine blk_put (cs := #[.int .i64 0, .slice none 0 0]) ?_ 0 _ rfl; (with_reducible repeat (first | refine bN ?_ _ | refine bD ?_ | refine bA ?_ _)); exact BK512.out) hb); have n3_ := ak (below_step (by repeat (first | (with_reducible first | exact HB.out | apply wA | apply wN | apply wD | refine below_set ?_ GE503.out | refine below_set ?_ GE512.out) | exact HB.out)) hb); clear HO510; clear BK503; clear BK512; clear HB; have HO510 := n0_; have BK503 := n1_; have BK512 := n2_; have HB := n3_; clear n0_ n1_ n2_ n3_; (try clear hb); (try clear hb2); (try clear hk); (try clear hi)) | (go_at_call 9; (with_reducible refine (mummerlaw16_awake.calls kj4  t516 _ hrt A86.out).mono ?_); rintro e w95 ⟨rfl, hb⟩; have n0_ := ak (Kd.V_below (by (with_reducible repeat (first | apply vA | apply vN | apply vD)); exact HO510.out) hb); have n1_ := ak (blk_below (g := gb503) (o := .cells #[.int .i64 a0_0, .slice A0_1 l0_1.length c0_1] 24 (0, 0)) (by (with_reducible repeat (first | refine bN ?_ _ | refine bD ?_ | refine bA ?_ _)); exact BK503.out) hb); have n2_ := ak (blk_below (g := gb512) (o := .cells #[.int .i64 t507, .slice Ao92 t508.length co92] 24 (0, 0)) (by (with_reducible repeat (first | refine bN ?_ _ | refine bD ?_ | refine bA ?_ _)); exact BK512.out) hb); have n3_ := ak (below_step (by repeat (first | (with_reducible first | exact HB.out | apply wA | apply wN | apply wD | refine below_set ?_ GE503.out | refine below_set ?_ GE512.out) | exact HB.out)) hb); clear HO510; clear BK503; clear BK512; clear HB; have HO510 := n0_; have BK503 := n1_; have BK512 := n2_; have HB := n3_; clear n0_ n1_ n2_ n3_; (try clear hb); (try clear hb2); (try clear hk); (try clear hi)))
                go_ret
                exact ⟨by first | rfl | (simp [errW_none, errW_some] <;> rfl) | (simp [*, errW_none, errW_some] <;> rfl), by repeat (first | (with_reducible first | exact HB.out | apply wA | apply wN | apply wD | refine below_set ?_ GE503.out | refine below_set ?_ GE512.out) | exact HB.out)⟩
              · replace c85 := Bool.eq_false_iff.mpr c85
                subst c85
                have H1 : (some false) = some r := by rw [if_neg (show ¬ (false = true) by decide)] at H; exact H
                clear H
                have H := H1
                clear H1
                exact absurd ((Option.some.inj H).trans hrt.out) (by decide)
            · rw [if_neg c83] at H
              have c83b0 : (t511 == 3) = false := beq_eq_false_iff_ne.mpr c83
              have c83b1 : (t511 != 3) = true := bne_iff_ne.mpr c83
              exact absurd ((Option.some.inj H).trans hrt.out) (by decide)

end Go.Proofs.Ytpophcogdekgkaa.P
