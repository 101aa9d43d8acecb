-- Written by wip/tools/myprint.py of this session over the kit's print; Lean checks it.
import Derived.Test.YtpophcogdekgkaaPx0
import Derived.Test.YtpophcogdekgkaaPx2
import Derived.Test.YtpophcogdekgkaaPx10
import Derived.Test.YtpophcogdekgkaaPx12
import Derived.Test.YtpophcogdekgkaaPx22
namespace Go.Proofs.Ytpophcogdekgkaa.P
open Go.RowKit Go.Proofs.YtpophcogdekgkaaW.PrintWords Go.Proofs.YtpophcogdekgkaaW.PrintLast Go.Proofs.YtpophcogdekgkaaW.PrintMore
attribute [local go_sem] max2_int min2_int max_two min_two max_three min_three max_four min_four   -- for this text's walks alone
set_option linter.unusedVariables false
set_option linter.unusedSimpArgs false

/-! ### mummerlaw16_FuelSums: function 6 -/
mutual
def mummerlaw16_FuelSums.j0 : Nat → Int → Int → Bool → Int → List Int → Option (Bool)
  | 0, _, _, _, _, _ => none
  | k + 1, x1, x2, x44, x473000, x473001 => if x44 = true then ((mummerlaw16_awake.f k).bind fun t474 => (some t474)) else ((fuel_Spend.f k x473000 x473001 x1).bind fun bt475 => ((fuel_Spend.f k bt475.1 bt475.2.1 x2).bind fun bt481 => ((fuel_Spend.f k x473000 x473001 (wrap64 (x1 + x2))).bind fun bt487 => (if bt475.2.2 = 0 then (mummerlaw16_FuelSums.j1 k x1 x2 bt487.2.2 (bt481.2.2 == 0) x473000 x473001 bt481.1 bt481.2.1 bt487.1 bt487.2.1) else (mummerlaw16_FuelSums.j1 k x1 x2 bt487.2.2 false x473000 x473001 bt481.1 bt481.2.1 bt487.1 bt487.2.1)))))
def mummerlaw16_FuelSums.j1 : Nat → Int → Int → Int → Bool → Int → List Int → Int → List Int → Int → List Int → Option (Bool)
  | 0, _, _, _, _, _, _, _, _, _, _ => none
  | k + 1, x1, x2, x12, x13, x473000, x473001, x487000, x487001, x493000, x493001 => if (x13 != (x12 == 0)) = true then (some false) else (if x13 = true then ((mummerref16_Same.f k x487000 x487001 x493000 x493001).bind fun t493 => (if t493 = true then (if x493000 = (wrap64 ((wrap64 (x473000 + x1)) + x2)) then ((mummerlaw16_awake.f k).bind fun t494 => (some t494)) else (some false)) else (some false))) else ((mummerlaw16_awake.f k).bind fun t495 => (some t495)))
end
def mummerlaw16_FuelSums.f (k : Nat) (a0_0 : Int) (l0_1 : List Int) (a1 : Int) (a2 : Int) : Option (Bool) := if (l0_1.length : Int) > 300 then (mummerlaw16_FuelSums.j0 k a1 a2 true a0_0 l0_1) else ((fuel_Check.f k a0_0 l0_1).bind fun t473 => (if t473 = 0 then (if a1 < 0 then (mummerlaw16_FuelSums.j0 k a1 a2 true a0_0 l0_1) else (if a2 < 0 then (mummerlaw16_FuelSums.j0 k a1 a2 true a0_0 l0_1) else (if a1 > 1000000000 then (mummerlaw16_FuelSums.j0 k a1 a2 true a0_0 l0_1) else (if a2 > 1000000000 then (mummerlaw16_FuelSums.j0 k a1 a2 true a0_0 l0_1) else (mummerlaw16_FuelSums.j0 k a1 a2 (decide ((wrap64 (a1 + a2)) > 1000000000)) a0_0 l0_1))))) else (mummerlaw16_FuelSums.j0 k a1 a2 true a0_0 l0_1)))
theorem mummerlaw16_FuelSums.mono_l : ∀ k, (∀ y0 y1 y2 y3 y4, LeO (mummerlaw16_FuelSums.j0 k y0 y1 y2 y3 y4) (mummerlaw16_FuelSums.j0 (k + 1) y0 y1 y2 y3 y4)) ∧ (∀ y0 y1 y2 y3 y4 y5 y6 y7 y8 y9, LeO (mummerlaw16_FuelSums.j1 k y0 y1 y2 y3 y4 y5 y6 y7 y8 y9) (mummerlaw16_FuelSums.j1 (k + 1) y0 y1 y2 y3 y4 y5 y6 y7 y8 y9))
  | 0 => ⟨fun _ _ _ _ _ r h => by simp [mummerlaw16_FuelSums.j0] at h, fun _ _ _ _ _ _ _ _ _ _ r h => by simp [mummerlaw16_FuelSums.j1] at h⟩
  | k + 1 => by
    obtain ⟨ih0, ih1⟩ := mummerlaw16_FuelSums.mono_l k
    refine ⟨?_, ?_⟩
    · intro y0 y1 y2 y3 y4
      unfold mummerlaw16_FuelSums.j0
      repeat' first
      | (with_reducible exact ih0 _ _ _ _ _)
      | (with_reducible exact ih1 _ _ _ _ _ _ _ _ _ _)
      | (with_reducible exact fuel_Check.mono _ _ _)
      | (with_reducible exact fuel_Spend.mono _ _ _ _)
      | (with_reducible exact mummerlaw16_awake.mono _)
      | (with_reducible exact mummerref16_Same.mono _ _ _ _ _)
      | (with_reducible exact LeO.refl _)
      | (with_reducible exact LeO.none _)
      | (with_reducible refine LeO.ite ?_ ?_)
      | (with_reducible refine LeO.bind ?_ (fun _ => ?_))
      | exact ih0 _ _ _ _ _
      | exact ih1 _ _ _ _ _ _ _ _ _ _
      | exact fuel_Check.mono _ _ _
      | exact fuel_Spend.mono _ _ _ _
      | exact mummerlaw16_awake.mono _
      | exact mummerref16_Same.mono _ _ _ _ _
      | exact LeO.none _
      | refine LeO.ite ?_ ?_
      | refine LeO.bind ?_ (fun _ => ?_)
    · intro y0 y1 y2 y3 y4 y5 y6 y7 y8 y9
      unfold mummerlaw16_FuelSums.j1
      repeat' first
      | (with_reducible exact ih0 _ _ _ _ _)
      | (with_reducible exact ih1 _ _ _ _ _ _ _ _ _ _)
      | (with_reducible exact fuel_Check.mono _ _ _)
      | (with_reducible exact fuel_Spend.mono _ _ _ _)
      | (with_reducible exact mummerlaw16_awake.mono _)
      | (with_reducible exact mummerref16_Same.mono _ _ _ _ _)
      | (with_reducible exact LeO.refl _)
      | (with_reducible exact LeO.none _)
      | (with_reducible refine LeO.ite ?_ ?_)
      | (with_reducible refine LeO.bind ?_ (fun _ => ?_))
      | exact ih0 _ _ _ _ _
      | exact ih1 _ _ _ _ _ _ _ _ _ _
      | exact fuel_Check.mono _ _ _
      | exact fuel_Spend.mono _ _ _ _
      | exact mummerlaw16_awake.mono _
      | exact mummerref16_Same.mono _ _ _ _ _
      | exact LeO.none _
      | refine LeO.ite ?_ ?_
      | refine LeO.bind ?_ (fun _ => ?_)
theorem mummerlaw16_FuelSums.mono : ∀ a0 a1 a2 a3 k, LeO (mummerlaw16_FuelSums.f k a0 a1 a2 a3) (mummerlaw16_FuelSums.f (k + 1) a0 a1 a2 a3) := by
  intro a0 a1 a2 a3 k
  obtain ⟨ih0, ih1⟩ := mummerlaw16_FuelSums.mono_l k
  unfold mummerlaw16_FuelSums.f
  repeat' first
      | (with_reducible exact ih0 _ _ _ _ _)
      | (with_reducible exact ih1 _ _ _ _ _ _ _ _ _ _)
      | (with_reducible exact fuel_Check.mono _ _ _)
      | (with_reducible exact fuel_Spend.mono _ _ _ _)
      | (with_reducible exact mummerlaw16_awake.mono _)
      | (with_reducible exact mummerref16_Same.mono _ _ _ _ _)
      | (with_reducible exact LeO.refl _)
      | (with_reducible exact LeO.none _)
      | (with_reducible refine LeO.ite ?_ ?_)
      | (with_reducible refine LeO.bind ?_ (fun _ => ?_))
      | exact ih0 _ _ _ _ _
      | exact ih1 _ _ _ _ _ _ _ _ _ _
      | exact fuel_Check.mono _ _ _
      | exact fuel_Spend.mono _ _ _ _
      | exact mummerlaw16_awake.mono _
      | exact mummerref16_Same.mono _ _ _ _ _
      | exact LeO.none _
      | refine LeO.ite ?_ ?_
      | refine LeO.bind ?_ (fun _ => ?_)
set_option maxHeartbeats 8000000 in
set_option maxRecDepth 100000 in
theorem mummerlaw16_FuelSums.calls (k : Nat) (a0_0 : Int) (A0_1 : Option Addr) (c0_1 : Nat) (l0_1 : List Int) (a1 : Int) (a2 : Int) (r : Bool) (w : World) (hr0_1 : Kd.C (Kd.int .i64) w A0_1 l0_1.length l0_1) (hc0_1 : l0_1.length ≤ c0_1) (hrt : Aside0 (r = true)) (h : mummerlaw16_FuelSums.f k a0_0 l0_1 a1 a2 = some r) :
    Calls Try.prog 6 #[.agg #[.int .i64 a0_0, .slice A0_1 l0_1.length c0_1], .int .i64 a1, .int .i64 a2] w fun e w' => e = .returned (.bool r) ∧ Below w.heap.size w w' := by
  have hu24 := Try.underlying24
  have HR0_1 := ak hr0_1
  have HC0_1 := ak hc0_1
  clear hr0_1 hc0_1
  have HB := ak (Below.refl w.heap.size w)
  have H : (if (l0_1.length : Int) > 300 then (mummerlaw16_FuelSums.j0 k a1 a2 true a0_0 l0_1) else ((fuel_Check.f k a0_0 l0_1).bind fun t473 => (if t473 = 0 then (if a1 < 0 then (mummerlaw16_FuelSums.j0 k a1 a2 true a0_0 l0_1) else (if a2 < 0 then (mummerlaw16_FuelSums.j0 k a1 a2 true a0_0 l0_1) else (if a1 > 1000000000 then (mummerlaw16_FuelSums.j0 k a1 a2 true a0_0 l0_1) else (if a2 > 1000000000 then (mummerlaw16_FuelSums.j0 k a1 a2 true a0_0 l0_1) else (mummerlaw16_FuelSums.j0 k a1 a2 (decide ((wrap64 (a1 + a2)) > 1000000000)) a0_0 l0_1))))) else (mummerlaw16_FuelSums.j0 k a1 a2 true a0_0 l0_1)))) = some r := h
  clear h
  have HC4 := ak H
  clear H
  go_enter Try.func6, Try.ntmps6
  go_upto_region 1 with (first | ((with_reducible refine gate_dst (N := 3) rfl ?_); refine box_event ?hg (N := 3) ?hd (cs := #[.int .i64 a0_0, .slice A0_1 l0_1.length c0_1]) (t := 24) ?hr ?_; (case hd => rfl); (case hg => rfl); (case hr => first | (go_simp; done) | (go_simp; rfl)); intro gb472 hg w5 hbox hb; have n0_ := ak (below_step (by repeat (first | (with_reducible first | exact HB.out | apply wA | apply wN | apply wD) | exact HB.out)) hb); have n1_ := ak (hbox); have n2_ := ak ((by rw [hg]; exact (below_size (by repeat (first | (with_reducible first | exact HB.out | apply wA | apply wN | apply wD) | exact HB.out))) : w.heap.size ≤ gb472)); have n3_ := ak ((by rw [hg]; exact (below_size (by repeat (first | (with_reducible first | exact HB.out | apply wA | apply wN | apply wD) | exact HB.out))) : w.heap.size ≤ gb472)); clear HB; have HB := n0_; have BK472 := n1_; have GW472 := n2_; have GE472 := n3_; clear n0_ n1_ n2_ n3_; clear hb hbox hg))
  (try simp only [Act.put, List.setIfInBounds_toArray, List.set_cons_zero, List.set_cons_succ])
  go_cut [44] (fun v44 wc => ∃ (kq : Nat) (x44_3 : Bool), v44 = .bool x44_3 ∧ Aside0 (mummerlaw16_FuelSums.j0 kq a1 a2 x44_3 a0_0 l0_1 = some r) ∧ Aside0 (kq ≤ k) ∧ Aside0 (wc.heap[gb472]? = some (.cells #[.int .i64 a0_0, (.slice A0_1 l0_1.length c0_1)] 24 (0, 0))) ∧ Aside0 (Below w.heap.size w wc))
  case first =>
    have H := HC4.out
    clear HC4
    by_cases c6 : (l0_1.length : Int) > 300
    · rw [if_pos c6] at H
      have c6b0 : decide (300 < (l0_1.length : Int)) = true := decide_eq_true c6
      have c6b1 : decide (300 < l0_1.length) = true := decide_eq_true (by omega)
      clear c6
      (first | rw [c6b0] | (simp only [i64_w, i32_w]; rw [c6b0]) | skip)
      have H' := ak H
      clear H
      have hcz7_0 : w5.cell? ⟨gb472, 0, none⟩ = some (.int .i64 a0_0) := (blk_cell BK472.out 0).trans rfl
      have hcz7_1 : w5.cell? ⟨gb472, 1, none⟩ = some (.slice A0_1 l0_1.length c0_1) := (blk_cell BK472.out 1).trans rfl
      have hfz7_0 := blk_frozen BK472.out 0
      have hfz7_1 := blk_frozen BK472.out 1
      go_wp2
      go_meet
      case rel => exact ⟨_, (true), (by first | rfl | (simp; done) | (simp [*]; done)), H', ⟨by first | omega | exact Nat.le_refl _⟩, ⟨by (with_reducible repeat (first | refine bN ?_ _ | refine bD ?_ | refine bA ?_ _)); exact BK472.out⟩, ⟨by repeat (first | (with_reducible first | exact HB.out | apply wA | apply wN | apply wD | refine below_set ?_ GE472.out) | exact HB.out)⟩⟩
    · rw [if_neg c6] at H
      have c6b0 : decide (300 < (l0_1.length : Int)) = false := decide_eq_false c6
      have c6b1 : decide (300 < l0_1.length) = false := decide_eq_false (by omega)
      clear c6
      (first | rw [c6b0] | (simp only [i64_w, i32_w]; rw [c6b0]) | skip)
      replace H := Option.bind_eq_some_iff.mp H
      obtain ⟨t473, A80, H⟩ := H
      replace H : (if t473 = 0 then (if a1 < 0 then (mummerlaw16_FuelSums.j0 k a1 a2 true a0_0 l0_1) else (if a2 < 0 then (mummerlaw16_FuelSums.j0 k a1 a2 true a0_0 l0_1) else (if a1 > 1000000000 then (mummerlaw16_FuelSums.j0 k a1 a2 true a0_0 l0_1) else (if a2 > 1000000000 then (mummerlaw16_FuelSums.j0 k a1 a2 true a0_0 l0_1) else (mummerlaw16_FuelSums.j0 k a1 a2 (decide ((wrap64 (a1 + a2)) > 1000000000)) a0_0 l0_1))))) else (mummerlaw16_FuelSums.j0 k a1 a2 true a0_0 l0_1)) = some r := H
      have A8 := ak A80
      clear A80
      by_cases c9 : t473 = 0
      · rw [if_pos c9] at H
        have c9b0 : (t473 == 0) = true := beq_iff_eq.mpr c9
        have c9b1 : (t473 != 0) = false := bne_eq_false_iff_eq.mpr c9
        clear c9
        by_cases c10 : a1 < 0
        · rw [if_pos c10] at H
          have c10b0 : decide (a1 < 0) = true := decide_eq_true c10
          clear c10
          have H' := ak H
          clear H
          have hcz11_0 : w5.cell? ⟨gb472, 0, none⟩ = some (.int .i64 a0_0) := (blk_cell BK472.out 0).trans rfl
          have hcz11_1 : w5.cell? ⟨gb472, 1, none⟩ = some (.slice A0_1 l0_1.length c0_1) := (blk_cell BK472.out 1).trans rfl
          have hfz11_0 := blk_frozen BK472.out 0
          have hfz11_1 := blk_frozen BK472.out 1
          go_wp2_with (first | (go_at_call 16; (with_reducible refine (fuel_Check.calls k a0_0 _ _ l0_1 t473 _ ?side1 ?side2 A8.out).mono ?_); (case side1 => repeat (first | exact (Kd.C_below HR0_1.out HB.out) | (with_reducible refine Kd.C_alloc ?_ _) | (with_reducible refine Kd.C_drewN ?_ _) | (with_reducible refine Kd.C_drew ?_))); (case side2 => exact HC0_1.out); rintro e w12 ⟨rfl, hb⟩; have n0_ := ak (blk_below (g := gb472) (o := .cells #[.int .i64 a0_0, .slice A0_1 l0_1.length c0_1] 24 (0, 0)) (by (with_reducible repeat (first | refine bN ?_ _ | refine bD ?_ | refine bA ?_ _)); exact BK472.out) hb); have n1_ := ak (below_step (by repeat (first | (with_reducible first | exact HB.out | apply wA | apply wN | apply wD | refine below_set ?_ GE472.out) | exact HB.out)) hb); clear BK472; clear HB; have BK472 := n0_; have HB := n1_; clear n0_ n1_; (try clear hb); (try clear hb2); (try clear hk); (try clear hi)))
          go_meet
          case rel => exact ⟨_, (true), (by first | rfl | (simp; done) | (simp [*]; done)), H', ⟨by first | omega | exact Nat.le_refl _⟩, ⟨by (with_reducible repeat (first | refine bN ?_ _ | refine bD ?_ | refine bA ?_ _)); exact BK472.out⟩, ⟨by repeat (first | (with_reducible first | exact HB.out | apply wA | apply wN | apply wD | refine below_set ?_ GE472.out) | exact HB.out)⟩⟩
        · rw [if_neg c10] at H
          have c10b0 : decide (a1 < 0) = false := decide_eq_false c10
          clear c10
          by_cases c13 : a2 < 0
          · rw [if_pos c13] at H
            have c13b0 : decide (a2 < 0) = true := decide_eq_true c13
            clear c13
            have H' := ak H
            clear H
            have hcz14_0 : w5.cell? ⟨gb472, 0, none⟩ = some (.int .i64 a0_0) := (blk_cell BK472.out 0).trans rfl
            have hcz14_1 : w5.cell? ⟨gb472, 1, none⟩ = some (.slice A0_1 l0_1.length c0_1) := (blk_cell BK472.out 1).trans rfl
            have hfz14_0 := blk_frozen BK472.out 0
            have hfz14_1 := blk_frozen BK472.out 1
            go_wp2_with (first | (go_at_call 16; (with_reducible refine (fuel_Check.calls k a0_0 _ _ l0_1 t473 _ ?side1 ?side2 A8.out).mono ?_); (case side1 => repeat (first | exact (Kd.C_below HR0_1.out HB.out) | (with_reducible refine Kd.C_alloc ?_ _) | (with_reducible refine Kd.C_drewN ?_ _) | (with_reducible refine Kd.C_drew ?_))); (case side2 => exact HC0_1.out); rintro e w15 ⟨rfl, hb⟩; have n0_ := ak (blk_below (g := gb472) (o := .cells #[.int .i64 a0_0, .slice A0_1 l0_1.length c0_1] 24 (0, 0)) (by (with_reducible repeat (first | refine bN ?_ _ | refine bD ?_ | refine bA ?_ _)); exact BK472.out) hb); have n1_ := ak (below_step (by repeat (first | (with_reducible first | exact HB.out | apply wA | apply wN | apply wD | refine below_set ?_ GE472.out) | exact HB.out)) hb); clear BK472; clear HB; have BK472 := n0_; have HB := n1_; clear n0_ n1_; (try clear hb); (try clear hb2); (try clear hk); (try clear hi)))
            go_meet
            case rel => exact ⟨_, (true), (by first | rfl | (simp; done) | (simp [*]; done)), H', ⟨by first | omega | exact Nat.le_refl _⟩, ⟨by (with_reducible repeat (first | refine bN ?_ _ | refine bD ?_ | refine bA ?_ _)); exact BK472.out⟩, ⟨by repeat (first | (with_reducible first | exact HB.out | apply wA | apply wN | apply wD | refine below_set ?_ GE472.out) | exact HB.out)⟩⟩
          · rw [if_neg c13] at H
            have c13b0 : decide (a2 < 0) = false := decide_eq_false c13
            clear c13
            by_cases c16 : a1 > 1000000000
            · rw [if_pos c16] at H
              have c16b0 : decide (1000000000 < a1) = true := decide_eq_true c16
              clear c16
              have H' := ak H
              clear H
              have hcz17_0 : w5.cell? ⟨gb472, 0, none⟩ = some (.int .i64 a0_0) := (blk_cell BK472.out 0).trans rfl
              have hcz17_1 : w5.cell? ⟨gb472, 1, none⟩ = some (.slice A0_1 l0_1.length c0_1) := (blk_cell BK472.out 1).trans rfl
              have hfz17_0 := blk_frozen BK472.out 0
              have hfz17_1 := blk_frozen BK472.out 1
              go_wp2_with (first | (go_at_call 16; (with_reducible refine (fuel_Check.calls k a0_0 _ _ l0_1 t473 _ ?side1 ?side2 A8.out).mono ?_); (case side1 => repeat (first | exact (Kd.C_below HR0_1.out HB.out) | (with_reducible refine Kd.C_alloc ?_ _) | (with_reducible refine Kd.C_drewN ?_ _) | (with_reducible refine Kd.C_drew ?_))); (case side2 => exact HC0_1.out); rintro e w18 ⟨rfl, hb⟩; have n0_ := ak (blk_below (g := gb472) (o := .cells #[.int .i64 a0_0, .slice A0_1 l0_1.length c0_1] 24 (0, 0)) (by (with_reducible repeat (first | refine bN ?_ _ | refine bD ?_ | refine bA ?_ _)); exact BK472.out) hb); have n1_ := ak (below_step (by repeat (first | (with_reducible first | exact HB.out | apply wA | apply wN | apply wD | refine below_set ?_ GE472.out) | exact HB.out)) hb); clear BK472; clear HB; have BK472 := n0_; have HB := n1_; clear n0_ n1_; (try clear hb); (try clear hb2); (try clear hk); (try clear hi)))
              go_meet
              case rel => exact ⟨_, (true), (by first | rfl | (simp; done) | (simp [*]; done)), H', ⟨by first | omega | exact Nat.le_refl _⟩, ⟨by (with_reducible repeat (first | refine bN ?_ _ | refine bD ?_ | refine bA ?_ _)); exact BK472.out⟩, ⟨by repeat (first | (with_reducible first | exact HB.out | apply wA | apply wN | apply wD | refine below_set ?_ GE472.out) | exact HB.out)⟩⟩
            · rw [if_neg c16] at H
              have c16b0 : decide (1000000000 < a1) = false := decide_eq_false c16
              clear c16
              by_cases c19 : a2 > 1000000000
              · rw [if_pos c19] at H
                have c19b0 : decide (1000000000 < a2) = true := decide_eq_true c19
                clear c19
                have H' := ak H
                clear H
                have hcz20_0 : w5.cell? ⟨gb472, 0, none⟩ = some (.int .i64 a0_0) := (blk_cell BK472.out 0).trans rfl
                have hcz20_1 : w5.cell? ⟨gb472, 1, none⟩ = some (.slice A0_1 l0_1.length c0_1) := (blk_cell BK472.out 1).trans rfl
                have hfz20_0 := blk_frozen BK472.out 0
                have hfz20_1 := blk_frozen BK472.out 1
                go_wp2_with (first | (go_at_call 16; (with_reducible refine (fuel_Check.calls k a0_0 _ _ l0_1 t473 _ ?side1 ?side2 A8.out).mono ?_); (case side1 => repeat (first | exact (Kd.C_below HR0_1.out HB.out) | (with_reducible refine Kd.C_alloc ?_ _) | (with_reducible refine Kd.C_drewN ?_ _) | (with_reducible refine Kd.C_drew ?_))); (case side2 => exact HC0_1.out); rintro e w21 ⟨rfl, hb⟩; have n0_ := ak (blk_below (g := gb472) (o := .cells #[.int .i64 a0_0, .slice A0_1 l0_1.length c0_1] 24 (0, 0)) (by (with_reducible repeat (first | refine bN ?_ _ | refine bD ?_ | refine bA ?_ _)); exact BK472.out) hb); have n1_ := ak (below_step (by repeat (first | (with_reducible first | exact HB.out | apply wA | apply wN | apply wD | refine below_set ?_ GE472.out) | exact HB.out)) hb); clear BK472; clear HB; have BK472 := n0_; have HB := n1_; clear n0_ n1_; (try clear hb); (try clear hb2); (try clear hk); (try clear hi)))
                go_meet
                case rel => exact ⟨_, (true), (by first | rfl | (simp; done) | (simp [*]; done)), H', ⟨by first | omega | exact Nat.le_refl _⟩, ⟨by (with_reducible repeat (first | refine bN ?_ _ | refine bD ?_ | refine bA ?_ _)); exact BK472.out⟩, ⟨by repeat (first | (with_reducible first | exact HB.out | apply wA | apply wN | apply wD | refine below_set ?_ GE472.out) | exact HB.out)⟩⟩
              · rw [if_neg c19] at H
                have c19b0 : decide (1000000000 < a2) = false := decide_eq_false c19
                clear c19
                have H' := ak H
                clear H
                have hcz22_0 : w5.cell? ⟨gb472, 0, none⟩ = some (.int .i64 a0_0) := (blk_cell BK472.out 0).trans rfl
                have hcz22_1 : w5.cell? ⟨gb472, 1, none⟩ = some (.slice A0_1 l0_1.length c0_1) := (blk_cell BK472.out 1).trans rfl
                have hfz22_0 := blk_frozen BK472.out 0
                have hfz22_1 := blk_frozen BK472.out 1
                go_wp2_with (first | (go_at_call 16; (with_reducible refine (fuel_Check.calls k a0_0 _ _ l0_1 t473 _ ?side1 ?side2 A8.out).mono ?_); (case side1 => repeat (first | exact (Kd.C_below HR0_1.out HB.out) | (with_reducible refine Kd.C_alloc ?_ _) | (with_reducible refine Kd.C_drewN ?_ _) | (with_reducible refine Kd.C_drew ?_))); (case side2 => exact HC0_1.out); rintro e w23 ⟨rfl, hb⟩; have n0_ := ak (blk_below (g := gb472) (o := .cells #[.int .i64 a0_0, .slice A0_1 l0_1.length c0_1] 24 (0, 0)) (by (with_reducible repeat (first | refine bN ?_ _ | refine bD ?_ | refine bA ?_ _)); exact BK472.out) hb); have n1_ := ak (below_step (by repeat (first | (with_reducible first | exact HB.out | apply wA | apply wN | apply wD | refine below_set ?_ GE472.out) | exact HB.out)) hb); clear BK472; clear HB; have BK472 := n0_; have HB := n1_; clear n0_ n1_; (try clear hb); (try clear hb2); (try clear hk); (try clear hi)))
                go_meet
                case rel => exact ⟨_, (decide ((wrap64 (a1 + a2)) > 1000000000)), (by first | rfl | (simp; done) | (simp [*]; done)), H', ⟨by first | omega | exact Nat.le_refl _⟩, ⟨by (with_reducible repeat (first | refine bN ?_ _ | refine bD ?_ | refine bA ?_ _)); exact BK472.out⟩, ⟨by repeat (first | (with_reducible first | exact HB.out | apply wA | apply wN | apply wD | refine below_set ?_ GE472.out) | exact HB.out)⟩⟩
      · rw [if_neg c9] at H
        have c9b0 : (t473 == 0) = false := beq_eq_false_iff_ne.mpr c9
        have c9b1 : (t473 != 0) = true := bne_iff_ne.mpr c9
        have H' := ak H
        clear H
        have hcz24_0 : w5.cell? ⟨gb472, 0, none⟩ = some (.int .i64 a0_0) := (blk_cell BK472.out 0).trans rfl
        have hcz24_1 : w5.cell? ⟨gb472, 1, none⟩ = some (.slice A0_1 l0_1.length c0_1) := (blk_cell BK472.out 1).trans rfl
        have hfz24_0 := blk_frozen BK472.out 0
        have hfz24_1 := blk_frozen BK472.out 1
        go_wp2_with (first | (go_at_call 16; (with_reducible refine (fuel_Check.calls k a0_0 _ _ l0_1 t473 _ ?side1 ?side2 A8.out).mono ?_); (case side1 => repeat (first | exact (Kd.C_below HR0_1.out HB.out) | (with_reducible refine Kd.C_alloc ?_ _) | (with_reducible refine Kd.C_drewN ?_ _) | (with_reducible refine Kd.C_drew ?_))); (case side2 => exact HC0_1.out); rintro e w25 ⟨rfl, hb⟩; have n0_ := ak (blk_below (g := gb472) (o := .cells #[.int .i64 a0_0, .slice A0_1 l0_1.length c0_1] 24 (0, 0)) (by (with_reducible repeat (first | refine bN ?_ _ | refine bD ?_ | refine bA ?_ _)); exact BK472.out) hb); have n1_ := ak (below_step (by repeat (first | (with_reducible first | exact HB.out | apply wA | apply wN | apply wD | refine below_set ?_ GE472.out) | exact HB.out)) hb); clear BK472; clear HB; have BK472 := n0_; have HB := n1_; clear n0_ n1_; (try clear hb); (try clear hb2); (try clear hk); (try clear hi)))
        go_meet
        case rel => exact ⟨_, (true), (by first | rfl | (simp; done) | (simp [*]; done)), H', ⟨by first | omega | exact Nat.le_refl _⟩, ⟨by (with_reducible repeat (first | refine bN ?_ _ | refine bD ?_ | refine bA ?_ _)); exact BK472.out⟩, ⟨by repeat (first | (with_reducible first | exact HB.out | apply wA | apply wN | apply wD | refine below_set ?_ GE472.out) | exact HB.out)⟩⟩
  case rest =>
    clear HC4
    try clear c1
    try clear p2
    try clear c6
    try clear c6b0
    try clear c6b1
    try clear p6
    try clear c9
    try clear c9b0
    try clear c9b1
    try clear c10
    try clear c10b0
    try clear c13
    try clear c13b0
    try clear c16
    try clear c16b0
    try clear c19
    try clear c19b0
    try clear hcz11_0
    try clear hcz11_1
    try clear hcz14_0
    try clear hcz14_1
    try clear hcz17_0
    try clear hcz17_1
    try clear hcz20_0
    try clear hcz20_1
    try clear hcz22_0
    try clear hcz22_1
    try clear hcz24_0
    try clear hcz24_1
    try clear hcz7_0
    try clear hcz7_1
    try clear hfz11_0
    try clear hfz11_1
    try clear hfz14_0
    try clear hfz14_1
    try clear hfz17_0
    try clear hfz17_1
    try clear hfz20_0
    try clear hfz20_1
    try clear hfz22_0
    try clear hfz22_1
    try clear hfz24_0
    try clear hfz24_1
    try clear hfz7_0
    try clear hfz7_1
    obtain ⟨kq, x44_3, rfl, HA, HJ3, BK472, HB⟩ := hcut
    cases kq with
    | zero => exact absurd HA.out (by simp [mummerlaw16_FuelSums.j0])
    | succ kj3 =>
      have H := HA.out
      clear HA
      simp only [mummerlaw16_FuelSums.j0] at H
      by_cases c26 : x44_3 = true
      · subst c26
        have H1 : ((mummerlaw16_awake.f kj3).bind fun t474 => (some t474)) = some r := by rw [if_pos rfl] at H; exact H
        clear H
        have H := H1
        clear H1
        replace H := Option.bind_eq_some_iff.mp H
        obtain ⟨t474, A270, H⟩ := H
        replace H : (some t474) = some r := H
        have A27 := ak A270
        clear A270
        obtain rfl := Option.some.inj H
        go_wp2_with (first | ((with_reducible refine gate_callee (f := 9) rfl ?_); refine goesL_ (some 45) rfl rfl Try.func9 (by kernel_rfl) rfl #[] rfl (by (try simp only [List.map_toArray, List.map_cons, List.map_nil]); first | done | rfl | (simp only [List.length_drop, List.length_take]; rfl)) ?_; (with_reducible refine (mummerlaw16_awake.calls kj3  t474 _ hrt A27.out).mono ?_); rintro e w28 ⟨rfl, hb⟩; refine ⟨_, rfl, ?_⟩; have n0_ := ak (blk_below (g := gb472) (o := .cells #[.int .i64 a0_0, .slice A0_1 l0_1.length c0_1] 24 (0, 0)) (by (with_reducible repeat (first | refine bN ?_ _ | refine bD ?_ | refine bA ?_ _)); exact BK472.out) hb); have n1_ := ak (below_step (by repeat (first | (with_reducible first | exact HB.out | apply wA | apply wN | apply wD | refine below_set ?_ GE472.out) | exact HB.out)) hb); clear BK472; clear HB; have BK472 := n0_; have HB := n1_; clear n0_ n1_; (try clear hb); (try clear hb2); (try clear hk); (try clear hi)))
        go_ret
        exact ⟨by first | rfl | (simp [errW_none, errW_some] <;> rfl) | (simp [*, errW_none, errW_some] <;> rfl), by repeat (first | (with_reducible first | exact HB.out | apply wA | apply wN | apply wD | refine below_set ?_ GE472.out) | exact HB.out)⟩
      · replace c26 := Bool.eq_false_iff.mpr c26
        subst c26
        have H1 : ((fuel_Spend.f kj3 a0_0 l0_1 a1).bind fun bt475 => ((fuel_Spend.f kj3 bt475.1 bt475.2.1 a2).bind fun bt481 => ((fuel_Spend.f kj3 a0_0 l0_1 (wrap64 (a1 + a2))).bind fun bt487 => (if bt475.2.2 = 0 then (mummerlaw16_FuelSums.j1 kj3 a1 a2 bt487.2.2 (bt481.2.2 == 0) a0_0 l0_1 bt481.1 bt481.2.1 bt487.1 bt487.2.1) else (mummerlaw16_FuelSums.j1 kj3 a1 a2 bt487.2.2 false a0_0 l0_1 bt481.1 bt481.2.1 bt487.1 bt487.2.1))))) = some r := by rw [if_neg (show ¬ (false = true) by decide)] at H; exact H
        clear H
        have H := H1
        clear H1
        replace H := Option.bind_eq_some_iff.mp H
        obtain ⟨⟨t475, t476, t479⟩, A290, H⟩ := H
        replace H : ((fuel_Spend.f kj3 t475 t476 a2).bind fun bt481 => ((fuel_Spend.f kj3 a0_0 l0_1 (wrap64 (a1 + a2))).bind fun bt487 => (if t479 = 0 then (mummerlaw16_FuelSums.j1 kj3 a1 a2 bt487.2.2 (bt481.2.2 == 0) a0_0 l0_1 bt481.1 bt481.2.1 bt487.1 bt487.2.1) else (mummerlaw16_FuelSums.j1 kj3 a1 a2 bt487.2.2 false a0_0 l0_1 bt481.1 bt481.2.1 bt487.1 bt487.2.1)))) = some r := H
        have A29 := ak A290
        clear A290
        replace H := Option.bind_eq_some_iff.mp H
        obtain ⟨⟨t481, t482, t485⟩, A300, H⟩ := H
        replace H : ((fuel_Spend.f kj3 a0_0 l0_1 (wrap64 (a1 + a2))).bind fun bt487 => (if t479 = 0 then (mummerlaw16_FuelSums.j1 kj3 a1 a2 bt487.2.2 (t485 == 0) a0_0 l0_1 t481 t482 bt487.1 bt487.2.1) else (mummerlaw16_FuelSums.j1 kj3 a1 a2 bt487.2.2 false a0_0 l0_1 t481 t482 bt487.1 bt487.2.1))) = some r := H
        have A30 := ak A300
        clear A300
        replace H := Option.bind_eq_some_iff.mp H
        obtain ⟨⟨t487, t488, t491⟩, A310, H⟩ := H
        replace H : (if t479 = 0 then (mummerlaw16_FuelSums.j1 kj3 a1 a2 t491 (t485 == 0) a0_0 l0_1 t481 t482 t487 t488) else (mummerlaw16_FuelSums.j1 kj3 a1 a2 t491 false a0_0 l0_1 t481 t482 t487 t488)) = some r := H
        have A31 := ak A310
        clear A310
        have HC32 := ak H
        clear H
        have hcz33_0 : wc.cell? ⟨gb472, 0, none⟩ = some (.int .i64 a0_0) := (blk_cell BK472.out 0).trans rfl
        have hcz33_1 : wc.cell? ⟨gb472, 1, none⟩ = some (.slice A0_1 l0_1.length c0_1) := (blk_cell BK472.out 1).trans rfl
        have hfz33_0 := blk_frozen BK472.out 0
        have hfz33_1 := blk_frozen BK472.out 1
        go_upto_region 6 with (first | ((with_reducible refine gate_callee (f := 17) rfl ?_); refine goesL_ (some 49) rfl rfl Try.func17 (by kernel_rfl) rfl #[.agg #[.int .i64 a0_0, .slice A0_1 l0_1.length c0_1], .int .i64 a1] rfl (by (try simp only [List.map_toArray, List.map_cons, List.map_nil]); first | done | rfl | (simp only [List.length_drop, List.length_take]; rfl)) ?_; (with_reducible refine (fuel_Spend.calls kj3 a0_0 (fun k_ => k_ < w.heap.size) _ _ l0_1 a1 t475 t476 t479 _ ?side1 A29.out).mono ?_); (case side1 => exact Kd.V_mk HC0_1.out (Kd.F_below (Kd.C_F (Kd.heap_int .i64) HR0_1.out) (by repeat (first | (with_reducible first | exact HB.out | apply wA | apply wN | apply wD | refine below_set ?_ GE472.out) | exact HB.out)))); rintro e w34 ⟨v477, rfl, ho0, hb⟩; refine ⟨_, rfl, ?_⟩; have n0_ := ak (Kd.V_lower (Kd.V_mono (ok' := fun k_ => k_ ≠ gb472) ho0 (fun k_ hk_ => Or.elim hk_ (fun hs_ => fun e_ => Nat.not_le.2 hs_ (by rw [e_]; exact GW472.out)) (fun hn_ => (Kd.freshB (g := gb472) (o := .cells #[.int .i64 a0_0, .slice A0_1 l0_1.length c0_1] 24 (0, 0)) (by (with_reducible repeat (first | refine bN ?_ _ | refine bD ?_ | refine bA ?_ _)); exact BK472.out) k_ hn_)))) (below_size (by repeat (first | (with_reducible first | exact HB.out | apply wA | apply wN | apply wD | refine below_set ?_ GE472.out) | exact HB.out)))); have n1_ := ak (blk_below (g := gb472) (o := .cells #[.int .i64 a0_0, .slice A0_1 l0_1.length c0_1] 24 (0, 0)) (by (with_reducible repeat (first | refine bN ?_ _ | refine bD ?_ | refine bA ?_ _)); exact BK472.out) hb); have n2_ := ak (below_step (by repeat (first | (with_reducible first | exact HB.out | apply wA | apply wN | apply wD | refine below_set ?_ GE472.out) | exact HB.out)) hb); clear BK472; clear HB; have HO478 := n0_; have BK472 := n1_; have HB := n2_; clear n0_ n1_ n2_; (try clear hb); (try clear hb2); (try clear hk); (try clear hi); (try clear ho0)) | ((with_reducible refine gate_dst (N := 7) rfl ?_); refine box_event ?hg (N := 7) ?hd (cs := #[.int .i64 0, .slice none 0 0]) (t := 24) ?hr ?_; (case hd => rfl); (case hg => rfl); (case hr => first | (go_simp; done) | (go_simp; rfl)); intro gb480 hg w35 hbox hb; have n0_ := ak (Kd.V_below (Kd.V_elderB (by (with_reducible repeat (first | apply vA | apply vN | apply vD)); exact HO478.out) gb480 (Nat.le_of_eq hg.symm)) hb); have n1_ := ak (blk_below (g := gb472) (o := .cells #[.int .i64 a0_0, .slice A0_1 l0_1.length c0_1] 24 (0, 0)) (by (with_reducible repeat (first | refine bN ?_ _ | refine bD ?_ | refine bA ?_ _)); exact BK472.out) hb); have n2_ := ak (below_step (by repeat (first | (with_reducible first | exact HB.out | apply wA | apply wN | apply wD | refine below_set ?_ GE472.out) | exact HB.out)) hb); have n3_ := ak (hbox); have n4_ := ak ((by rw [hg]; exact (below_size (by repeat (first | (with_reducible first | exact HB.out | apply wA | apply wN | apply wD | refine below_set ?_ GE472.out) | exact HB.out))) : w.heap.size ≤ gb480)); have n5_ := ak ((by rw [hg]; exact (below_size (by repeat (first | (with_reducible first | exact HB.out | apply wA | apply wN | apply wD | refine below_set ?_ GE472.out) | exact HB.out))) : w.heap.size ≤ gb480)); have n6_ := ak ((by rw [hg]; exact Nat.ne_of_lt (blk_lt (g := gb472) (o := .cells #[.int .i64 a0_0, .slice A0_1 l0_1.length c0_1] 24 (0, 0)) (by (with_reducible repeat (first | refine bN ?_ _ | refine bD ?_ | refine bA ?_ _)); exact BK472.out)) : gb472 ≠ gb480)); have n7_ := ak ((by rw [hg]; exact Nat.ne_of_gt (blk_lt (g := gb472) (o := .cells #[.int .i64 a0_0, .slice A0_1 l0_1.length c0_1] 24 (0, 0)) (by (with_reducible repeat (first | refine bN ?_ _ | refine bD ?_ | refine bA ?_ _)); exact BK472.out)) : gb480 ≠ gb472)); clear HO478; clear BK472; clear HB; have HO478 := n0_; have BK472 := n1_; have HB := n2_; have BK480 := n3_; have GW480 := n4_; have GE480 := n5_; have NB472_480 := n6_; have NB480_472 := n7_; clear n0_ n1_ n2_ n3_ n4_ n5_ n6_ n7_; clear hb hbox hg; have hnb36 := NB480_472.out; have hnc36 := NB472_480.out; have hcz37_0 : w35.cell? ⟨gb480, 0, none⟩ = some (.int .i64 0) := (blk_cell BK480.out 0).trans rfl; have hcz37_1 : w35.cell? ⟨gb480, 1, none⟩ = some (.slice none 0 0) := (blk_cell BK480.out 1).trans rfl; have hfz37_0 := blk_frozen BK480.out 0; have hfz37_1 := blk_frozen BK480.out 1; obtain ⟨Ao38, co38, eo38⟩ := Kd.V_slice HO478.out; subst eo38) | ((with_reducible refine gate_store (t := 24) (p := 7) rfl ?_); refine store_event (t := 24) (p := 7) (v := ?vo_w39) (w1 := ((w35.setCell ⟨gb480, 0, none⟩ (.int .i64 t475)).setCell ⟨gb480, 1, none⟩ (.slice Ao38 t476.length co38))) ?hg ?ho ?hn ?hr ?_; (case ho => rfl); (case hg => rfl); (case hn => rfl); (case hr => first | (go_simp; done) | (go_simp; rfl)); intro w39 hw; have n0_ : Aside0 (Kd.V (Kd.int .i64) 2 w39 w.heap.size (fun k_ => k_ ≠ gb472 ∧ k_ ≠ gb480) (.slice Ao38 t476.length co38) t476) := ⟨(by rw [hw]; exact (by (with_reducible repeat (first | apply vA | apply vN | apply vD)); exact Kd.V_mono (Kd.V_far (p := ⟨gb480, 1, none⟩) (Kd.V_far (p := ⟨gb480, 0, none⟩) (Kd.V_mono HO478.out (fun k_ hk => (⟨hk, by first | exact hk.2 | exact hk.2.2 | exact hk.2.1 | omega⟩ : _ ∧ k_ ≠ gb480))) (fun _ hk => hk.2) (.int .i64 t475)) (fun _ hk => hk.2) (.slice Ao38 t476.length co38)) (fun _ hk => by first | exact ⟨hk.1.1, hk.1.2⟩ | (simp only [ne_eq] at hk ⊢; simp [hk]))))⟩; have n1_ : Aside0 (w39.heap[gb472]? = some (.cells #[.int .i64 a0_0, .slice A0_1 l0_1.length c0_1] 24 (0, 0))) := ⟨(by rw [hw]; exact (by (with_reducible repeat (first | refine bN ?_ _ | refine bD ?_ | refine bA ?_ _)); refine blk_far ?_ NB472_480.out _; (with_reducible repeat (first | refine bN ?_ _ | refine bD ?_ | refine bA ?_ _)); refine blk_far ?_ NB472_480.out _; (with_reducible repeat (first | refine bN ?_ _ | refine bD ?_ | refine bA ?_ _)); exact BK472.out))⟩; have n2_ : Aside0 (w39.heap[gb480]? = some (.cells #[.int .i64 t475, .slice Ao38 t476.length co38] 24 (0, 0))) := ⟨(by rw [hw]; exact (by (with_reducible repeat (first | refine bN ?_ _ | refine bD ?_ | refine bA ?_ _)); refine blk_put (cs := #[.int .i64 t475, .slice none 0 0]) ?_ 1 _ rfl; (with_reducible repeat (first | refine bN ?_ _ | refine bD ?_ | refine bA ?_ _)); refine blk_put (cs := #[.int .i64 0, .slice none 0 0]) ?_ 0 _ rfl; (with_reducible repeat (first | refine bN ?_ _ | refine bD ?_ | refine bA ?_ _)); exact BK480.out))⟩; have n3_ : Aside0 (Below w.heap.size w w39) := ⟨(by rw [hw]; exact (by repeat (first | (with_reducible first | exact HB.out | apply wA | apply wN | apply wD | refine below_set ?_ GE472.out | refine below_set ?_ GE480.out) | exact HB.out)))⟩; clear hw; clear HO478; clear BK472; clear BK480; clear HB; have HO478 := n0_; have BK472 := n1_; have BK480 := n2_; have HB := n3_; clear n0_ n1_ n2_ n3_; have hcz40_0 : w39.cell? ⟨gb480, 0, none⟩ = some (.int .i64 t475) := (blk_cell BK480.out 0).trans rfl; have hcz40_1 : w39.cell? ⟨gb480, 1, none⟩ = some (.slice Ao38 t476.length co38) := (blk_cell BK480.out 1).trans rfl; have hfz40_0 := blk_frozen BK480.out 0; have hfz40_1 := blk_frozen BK480.out 1) | ((with_reducible refine gate_callee (f := 17) rfl ?_); refine goesL_ (some 55) rfl rfl Try.func17 (by kernel_rfl) rfl #[.agg #[.int .i64 t475, .slice Ao38 t476.length co38], .int .i64 a2] rfl (by (try simp only [List.map_toArray, List.map_cons, List.map_nil]); first | done | rfl | (simp only [List.length_drop, List.length_take]; rfl)) ?_; (with_reducible refine (fuel_Spend.calls kj3 t475 (fun k_ => (k_ ≠ gb472 ∧ k_ ≠ gb480)) _ _ t476 a2 t481 t482 t485 _ ?side1 A30.out).mono ?_); (case side1 => exact HO478.out); rintro e w41 ⟨v483, rfl, ho0, hb⟩; refine ⟨_, rfl, ?_⟩; have n0_ := ak (Kd.V_below (by (with_reducible repeat (first | apply vA | apply vN | apply vD)); exact HO478.out) hb); have n1_ := ak (Kd.V_lower (Kd.V_mono (ok' := fun k_ => k_ ≠ gb472 ∧ k_ ≠ gb480) ho0 (fun k_ hk_ => ⟨Or.elim hk_ (fun hs_ => hs_.1) (fun hn_ => (Kd.freshB (g := gb472) (o := .cells #[.int .i64 a0_0, .slice A0_1 l0_1.length c0_1] 24 (0, 0)) (by (with_reducible repeat (first | refine bN ?_ _ | refine bD ?_ | refine bA ?_ _)); exact BK472.out) k_ hn_)), Or.elim hk_ (fun hs_ => hs_.2) (fun hn_ => (Kd.freshB (g := gb480) (o := .cells #[.int .i64 t475, .slice Ao38 t476.length co38] 24 (0, 0)) (by (with_reducible repeat (first | refine bN ?_ _ | refine bD ?_ | refine bA ?_ _)); exact BK480.out) k_ hn_))⟩)) (below_size (by repeat (first | (with_reducible first | exact HB.out | apply wA | apply wN | apply wD | refine below_set ?_ GE472.out | refine below_set ?_ GE480.out) | exact HB.out)))); have n2_ := ak (blk_below (g := gb472) (o := .cells #[.int .i64 a0_0, .slice A0_1 l0_1.length c0_1] 24 (0, 0)) (by (with_reducible repeat (first | refine bN ?_ _ | refine bD ?_ | refine bA ?_ _)); exact BK472.out) hb); have n3_ := ak (blk_below (g := gb480) (o := .cells #[.int .i64 t475, .slice Ao38 t476.length co38] 24 (0, 0)) (by (with_reducible repeat (first | refine bN ?_ _ | refine bD ?_ | refine bA ?_ _)); exact BK480.out) hb); have n4_ := ak (below_step (by repeat (first | (with_reducible first | exact HB.out | apply wA | apply wN | apply wD | refine below_set ?_ GE472.out | refine below_set ?_ GE480.out) | exact HB.out)) hb); clear HO478; clear BK472; clear BK480; clear HB; have HO478 := n0_; have HO484 := n1_; have BK472 := n2_; have BK480 := n3_; have HB := n4_; clear n0_ n1_ n2_ n3_ n4_; (try clear hb); (try clear hb2); (try clear hk); (try clear hi); (try clear ho0)) | ((with_reducible refine gate_dst (N := 9) rfl ?_); refine box_event ?hg (N := 9) ?hd (cs := #[.int .i64 0, .slice none 0 0]) (t := 24) ?hr ?_; (case hd => rfl); (case hg => rfl); (case hr => first | (go_simp; done) | (go_simp; rfl)); intro gb486 hg w42 hbox hb; have n0_ := ak (Kd.V_below (Kd.V_elderB (by (with_reducible repeat (first | apply vA | apply vN | apply vD)); exact HO478.out) gb486 (Nat.le_of_eq hg.symm)) hb); have n1_ := ak (Kd.V_below (Kd.V_elderB (by (with_reducible repeat (first | apply vA | apply vN | apply vD)); exact HO484.out) gb486 (Nat.le_of_eq hg.symm)) hb); have n2_ := ak (blk_below (g := gb472) (o := .cells #[.int .i64 a0_0, .slice A0_1 l0_1.length c0_1] 24 (0, 0)) (by (with_reducible repeat (first | refine bN ?_ _ | refine bD ?_ | refine bA ?_ _)); exact BK472.out) hb); have n3_ := ak (blk_below (g := gb480) (o := .cells #[.int .i64 t475, .slice Ao38 t476.length co38] 24 (0, 0)) (by (with_reducible repeat (first | refine bN ?_ _ | refine bD ?_ | refine bA ?_ _)); exact BK480.out) hb); have n4_ := ak (below_step (by repeat (first | (with_reducible first | exact HB.out | apply wA | apply wN | apply wD | refine below_set ?_ GE472.out | refine below_set ?_ GE480.out) | exact HB.out)) hb); have n5_ := ak (hbox); have n6_ := ak ((by rw [hg]; exact (below_size (by repeat (first | (with_reducible first | exact HB.out | apply wA | apply wN | apply wD | refine below_set ?_ GE472.out | refine below_set ?_ GE480.out) | exact HB.out))) : w.heap.size ≤ gb486)); have n7_ := ak ((by rw [hg]; exact (below_size (by repeat (first | (with_reducible first | exact HB.out | apply wA | apply wN | apply wD | refine below_set ?_ GE472.out | refine below_set ?_ GE480.out) | exact HB.out))) : w.heap.size ≤ gb486)); have n8_ := ak ((by rw [hg]; exact Nat.ne_of_lt (blk_lt (g := gb472) (o := .cells #[.int .i64 a0_0, .slice A0_1 l0_1.length c0_1] 24 (0, 0)) (by (with_reducible repeat (first | refine bN ?_ _ | refine bD ?_ | refine bA ?_ _)); exact BK472.out)) : gb472 ≠ gb486)); have n9_ := ak ((by rw [hg]; exact Nat.ne_of_gt (blk_lt (g := gb472) (o := .cells #[.int .i64 a0_0, .slice A0_1 l0_1.length c0_1] 24 (0, 0)) (by (with_reducible repeat (first | refine bN ?_ _ | refine bD ?_ | refine bA ?_ _)); exact BK472.out)) : gb486 ≠ gb472)); have n10_ := ak ((by rw [hg]; exact Nat.ne_of_lt (blk_lt (g := gb480) (o := .cells #[.int .i64 t475, .slice Ao38 t476.length co38] 24 (0, 0)) (by (with_reducible repeat (first | refine bN ?_ _ | refine bD ?_ | refine bA ?_ _)); exact BK480.out)) : gb480 ≠ gb486)); have n11_ := ak ((by rw [hg]; exact Nat.ne_of_gt (blk_lt (g := gb480) (o := .cells #[.int .i64 t475, .slice Ao38 t476.length co38] 24 (0, 0)) (by (with_reducible repeat (first | refine bN ?_ _ | refine bD ?_ | refine bA ?_ _)); exact BK480.out)) : gb486 ≠ gb480)); clear HO478; clear HO484; clear BK472; clear BK480; clear HB; have HO478 := n0_; have HO484 := n1_; have BK472 := n2_; have BK480 := n3_; have HB := n4_; have BK486 := n5_; have GW486 := n6_; have GE486 := n7_; have NB472_486 := n8_; have NB486_472 := n9_; have NB480_486 := n10_; have NB486_480 := n11_; clear n0_ n1_ n2_ n3_ n4_ n5_ n6_ n7_ n8_ n9_ n10_ n11_; clear hb hbox hg; have hnb43 := NB486_472.out; have hnc43 := NB472_486.out; have hnb44 := NB486_480.out; have hnc44 := NB480_486.out; have hcz45_0 : w42.cell? ⟨gb486, 0, none⟩ = some (.int .i64 0) := (blk_cell BK486.out 0).trans rfl; have hcz45_1 : w42.cell? ⟨gb486, 1, none⟩ = some (.slice none 0 0) := (blk_cell BK486.out 1).trans rfl; have hfz45_0 := blk_frozen BK486.out 0; have hfz45_1 := blk_frozen BK486.out 1; obtain ⟨Ao46, co46, eo46⟩ := Kd.V_slice HO484.out; subst eo46) | ((with_reducible refine gate_store (t := 24) (p := 9) rfl ?_); refine store_event (t := 24) (p := 9) (v := ?vo_w47) (w1 := ((w42.setCell ⟨gb486, 0, none⟩ (.int .i64 t481)).setCell ⟨gb486, 1, none⟩ (.slice Ao46 t482.length co46))) ?hg ?ho ?hn ?hr ?_; (case ho => rfl); (case hg => rfl); (case hn => rfl); (case hr => first | (go_simp; done) | (go_simp; rfl)); intro w47 hw; have n0_ : Aside0 (Kd.V (Kd.int .i64) 2 w47 w.heap.size (fun k_ => k_ ≠ gb472 ∧ k_ ≠ gb480 ∧ k_ ≠ gb486) (.slice Ao38 t476.length co38) t476) := ⟨(by rw [hw]; exact (by (with_reducible repeat (first | apply vA | apply vN | apply vD)); exact Kd.V_mono (Kd.V_far (p := ⟨gb486, 1, none⟩) (Kd.V_far (p := ⟨gb486, 0, none⟩) (Kd.V_mono HO478.out (fun k_ hk => (⟨hk, by first | exact hk.2 | exact hk.2.2 | exact hk.2.1 | omega⟩ : _ ∧ k_ ≠ gb486))) (fun _ hk => hk.2) (.int .i64 t481)) (fun _ hk => hk.2) (.slice Ao46 t482.length co46)) (fun _ hk => by first | exact ⟨hk.1.1.1, ⟨hk.1.1.2, hk.1.2⟩⟩ | (simp only [ne_eq] at hk ⊢; simp [hk]))))⟩; have n1_ : Aside0 (Kd.V (Kd.int .i64) 2 w47 w.heap.size (fun k_ => k_ ≠ gb472 ∧ k_ ≠ gb480 ∧ k_ ≠ gb486) (.slice Ao46 t482.length co46) t482) := ⟨(by rw [hw]; exact (by (with_reducible repeat (first | apply vA | apply vN | apply vD)); exact Kd.V_mono (Kd.V_far (p := ⟨gb486, 1, none⟩) (Kd.V_far (p := ⟨gb486, 0, none⟩) (Kd.V_mono HO484.out (fun k_ hk => (⟨hk, by first | exact hk.2 | exact hk.2.2 | exact hk.2.1 | omega⟩ : _ ∧ k_ ≠ gb486))) (fun _ hk => hk.2) (.int .i64 t481)) (fun _ hk => hk.2) (.slice Ao46 t482.length co46)) (fun _ hk => by first | exact ⟨hk.1.1.1, ⟨hk.1.1.2, hk.1.2⟩⟩ | (simp only [ne_eq] at hk ⊢; simp [hk]))))⟩; have n2_ : Aside0 (w47.heap[gb472]? = some (.cells #[.int .i64 a0_0, .slice A0_1 l0_1.length c0_1] 24 (0, 0))) := ⟨(by rw [hw]; exact (by (with_reducible repeat (first | refine bN ?_ _ | refine bD ?_ | refine bA ?_ _)); refine blk_far ?_ NB472_486.out _; (with_reducible repeat (first | refine bN ?_ _ | refine bD ?_ | refine bA ?_ _)); refine blk_far ?_ NB472_486.out _; (with_reducible repeat (first | refine bN ?_ _ | refine bD ?_ | refine bA ?_ _)); exact BK472.out))⟩; have n3_ : Aside0 (w47.heap[gb480]? = some (.cells #[.int .i64 t475, .slice Ao38 t476.length co38] 24 (0, 0))) := ⟨(by rw [hw]; exact (by (with_reducible repeat (first | refine bN ?_ _ | refine bD ?_ | refine bA ?_ _)); refine blk_far ?_ NB480_486.out _; (with_reducible repeat (first | refine bN ?_ _ | refine bD ?_ | refine bA ?_ _)); refine blk_far ?_ NB480_486.out _; (with_reducible repeat (first | refine bN ?_ _ | refine bD ?_ | refine bA ?_ _)); exact BK480.out))⟩; have n4_ : Aside0 (w47.heap[gb486]? = some (.cells #[.int .i64 t481, .slice Ao46 t482.length co46] 24 (0, 0))) := ⟨(by rw [hw]; exact (by (with_reducible repeat (first | refine bN ?_ _ | refine bD ?_ | refine bA ?_ _)); refine blk_put (cs := #[.int .i64 t481, .slice none 0 0]) ?_ 1 _ rfl; (with_reducible repeat (first | refine bN ?_ _ | refine bD ?_ | refine bA ?_ _)); refine blk_put (cs := #[.int .i64 0, .slice none 0 0]) ?_ 0 _ rfl; (with_reducible repeat (first | refine bN ?_ _ | refine bD ?_ | refine bA ?_ _)); exact BK486.out))⟩; have n5_ : Aside0 (Below w.heap.size w w47) := ⟨(by rw [hw]; exact (by repeat (first | (with_reducible first | exact HB.out | apply wA | apply wN | apply wD | refine below_set ?_ GE472.out | refine below_set ?_ GE480.out | refine below_set ?_ GE486.out) | exact HB.out)))⟩; clear hw; clear HO478; clear HO484; clear BK472; clear BK480; clear BK486; clear HB; have HO478 := n0_; have HO484 := n1_; have BK472 := n2_; have BK480 := n3_; have BK486 := n4_; have HB := n5_; clear n0_ n1_ n2_ n3_ n4_ n5_; have hcz48_0 : w47.cell? ⟨gb472, 0, none⟩ = some (.int .i64 a0_0) := (blk_cell BK472.out 0).trans rfl; have hcz48_1 : w47.cell? ⟨gb472, 1, none⟩ = some (.slice A0_1 l0_1.length c0_1) := (blk_cell BK472.out 1).trans rfl; have hfz48_0 := blk_frozen BK472.out 0; have hfz48_1 := blk_frozen BK472.out 1) | ((with_reducible refine gate_callee (f := 17) rfl ?_); refine goesL_ (some 63) rfl rfl Try.func17 (by kernel_rfl) rfl #[.agg #[.int .i64 a0_0, .slice A0_1 l0_1.length c0_1], .int .i64 (wrap64 (a1 + a2))] rfl (by (try simp only [List.map_toArray, List.map_cons, List.map_nil]); first | done | rfl | (simp only [List.length_drop, List.length_take]; rfl)) ?_; (with_reducible refine (fuel_Spend.calls kj3 a0_0 (fun k_ => k_ < w.heap.size) _ _ l0_1 (wrap64 (a1 + a2)) t487 t488 t491 _ ?side1 A31.out).mono ?_); (case side1 => exact Kd.V_mk HC0_1.out (Kd.F_below (Kd.C_F (Kd.heap_int .i64) HR0_1.out) (by repeat (first | (with_reducible first | exact HB.out | apply wA | apply wN | apply wD | refine below_set ?_ GE472.out | refine below_set ?_ GE480.out | refine below_set ?_ GE486.out) | exact HB.out)))); rintro e w49 ⟨v489, rfl, ho0, hb⟩; refine ⟨_, rfl, ?_⟩; have n0_ := ak (Kd.V_below (by (with_reducible repeat (first | apply vA | apply vN | apply vD)); exact HO478.out) hb); have n1_ := ak (Kd.V_below (by (with_reducible repeat (first | apply vA | apply vN | apply vD)); exact HO484.out) hb); have n2_ := ak (Kd.V_lower (Kd.V_mono (ok' := fun k_ => k_ ≠ gb472 ∧ k_ ≠ gb480 ∧ k_ ≠ gb486) ho0 (fun k_ hk_ => ⟨Or.elim hk_ (fun hs_ => fun e_ => Nat.not_le.2 hs_ (by rw [e_]; exact GW472.out)) (fun hn_ => (Kd.freshB (g := gb472) (o := .cells #[.int .i64 a0_0, .slice A0_1 l0_1.length c0_1] 24 (0, 0)) (by (with_reducible repeat (first | refine bN ?_ _ | refine bD ?_ | refine bA ?_ _)); exact BK472.out) k_ hn_)), Or.elim hk_ (fun hs_ => fun e_ => Nat.not_le.2 hs_ (by rw [e_]; exact GW480.out)) (fun hn_ => (Kd.freshB (g := gb480) (o := .cells #[.int .i64 t475, .slice Ao38 t476.length co38] 24 (0, 0)) (by (with_reducible repeat (first | refine bN ?_ _ | refine bD ?_ | refine bA ?_ _)); exact BK480.out) k_ hn_)), Or.elim hk_ (fun hs_ => fun e_ => Nat.not_le.2 hs_ (by rw [e_]; exact GW486.out)) (fun hn_ => (Kd.freshB (g := gb486) (o := .cells #[.int .i64 t481, .slice Ao46 t482.length co46] 24 (0, 0)) (by (with_reducible repeat (first | refine bN ?_ _ | refine bD ?_ | refine bA ?_ _)); exact BK486.out) k_ hn_))⟩)) (below_size (by repeat (first | (with_reducible first | exact HB.out | apply wA | apply wN | apply wD | refine below_set ?_ GE472.out | refine below_set ?_ GE480.out | refine below_set ?_ GE486.out) | exact HB.out)))); have n3_ := ak (blk_below (g := gb472) (o := .cells #[.int .i64 a0_0, .slice A0_1 l0_1.length c0_1] 24 (0, 0)) (by (with_reducible repeat (first | refine bN ?_ _ | refine bD ?_ | refine bA ?_ _)); exact BK472.out) hb); have n4_ := ak (blk_below (g := gb480) (o := .cells #[.int .i64 t475, .slice Ao38 t476.length co38] 24 (0, 0)) (by (with_reducible repeat (first | refine bN ?_ _ | refine bD ?_ | refine bA ?_ _)); exact BK480.out) hb); have n5_ := ak (blk_below (g := gb486) (o := .cells #[.int .i64 t481, .slice Ao46 t482.length co46] 24 (0, 0)) (by (with_reducible repeat (first | refine bN ?_ _ | refine bD ?_ | refine bA ?_ _)); exact BK486.out) hb); have n6_ := ak (below_step (by repeat (first | (with_reducible first | exact HB.out | apply wA | apply wN | apply wD | refine below_set ?_ GE472.out | refine below_set ?_ GE480.out | refine below_set ?_ GE486.out) | exact HB.out)) hb); clear HO478; clear HO484; clear BK472; clear BK480; clear BK486; clear HB; have HO478 := n0_; have HO484 := n1_; have HO490 := n2_; have BK472 := n3_; have BK480 := n4_; have BK486 := n5_; have HB := n6_; clear n0_ n1_ n2_ n3_ n4_ n5_ n6_; (try clear hb); (try clear hb2); (try clear hk); (try clear hi); (try clear ho0)) | ((with_reducible refine gate_dst (N := 11) rfl ?_); refine box_event ?hg (N := 11) ?hd (cs := #[.int .i64 0, .slice none 0 0]) (t := 24) ?hr ?_; (case hd => rfl); (case hg => rfl); (case hr => first | (go_simp; done) | (go_simp; rfl)); intro gb492 hg w50 hbox hb; have n0_ := ak (Kd.V_below (Kd.V_elderB (by (with_reducible repeat (first | apply vA | apply vN | apply vD)); exact HO478.out) gb492 (Nat.le_of_eq hg.symm)) hb); have n1_ := ak (Kd.V_below (Kd.V_elderB (by (with_reducible repeat (first | apply vA | apply vN | apply vD)); exact HO484.out) gb492 (Nat.le_of_eq hg.symm)) hb); have n2_ := ak (Kd.V_below (Kd.V_elderB (by (with_reducible repeat (first | apply vA | apply vN | apply vD)); exact HO490.out) gb492 (Nat.le_of_eq hg.symm)) hb); have n3_ := ak (blk_below (g := gb472) (o := .cells #[.int .i64 a0_0, .slice A0_1 l0_1.length c0_1] 24 (0, 0)) (by (with_reducible repeat (first | refine bN ?_ _ | refine bD ?_ | refine bA ?_ _)); exact BK472.out) hb); have n4_ := ak (blk_below (g := gb480) (o := .cells #[.int .i64 t475, .slice Ao38 t476.length co38] 24 (0, 0)) (by (with_reducible repeat (first | refine bN ?_ _ | refine bD ?_ | refine bA ?_ _)); exact BK480.out) hb); have n5_ := ak (blk_below (g := gb486) (o := .cells #[.int .i64 t481, .slice Ao46 t482.length co46] 24 (0, 0)) (by (with_reducible repeat (first | refine bN ?_ _ | refine bD ?_ | refine bA ?_ _)); exact BK486.out) hb); have n6_ := ak (below_step (by repeat (first | (with_reducible first | exact HB.out | apply wA | apply wN | apply wD | refine below_set ?_ GE472.out | refine below_set ?_ GE480.out | refine below_set ?_ GE486.out) | exact HB.out)) hb); have n7_ := ak (hbox); have n8_ := ak ((by rw [hg]; exact (below_size (by repeat (first | (with_reducible first | exact HB.out | apply wA | apply wN | apply wD | refine below_set ?_ GE472.out | refine below_set ?_ GE480.out | refine below_set ?_ GE486.out) | exact HB.out))) : w.heap.size ≤ gb492)); have n9_ := ak ((by rw [hg]; exact (below_size (by repeat (first | (with_reducible first | exact HB.out | apply wA | apply wN | apply wD | refine below_set ?_ GE472.out | refine below_set ?_ GE480.out | refine below_set ?_ GE486.out) | exact HB.out))) : w.heap.size ≤ gb492)); have n10_ := ak ((by rw [hg]; exact Nat.ne_of_lt (blk_lt (g := gb472) (o := .cells #[.int .i64 a0_0, .slice A0_1 l0_1.length c0_1] 24 (0, 0)) (by (with_reducible repeat (first | refine bN ?_ _ | refine bD ?_ | refine bA ?_ _)); exact BK472.out)) : gb472 ≠ gb492)); have n11_ := ak ((by rw [hg]; exact Nat.ne_of_gt (blk_lt (g := gb472) (o := .cells #[.int .i64 a0_0, .slice A0_1 l0_1.length c0_1] 24 (0, 0)) (by (with_reducible repeat (first | refine bN ?_ _ | refine bD ?_ | refine bA ?_ _)); exact BK472.out)) : gb492 ≠ gb472)); have n12_ := ak ((by rw [hg]; exact Nat.ne_of_lt (blk_lt (g := gb480) (o := .cells #[.int .i64 t475, .slice Ao38 t476.length co38] 24 (0, 0)) (by (with_reducible repeat (first | refine bN ?_ _ | refine bD ?_ | refine bA ?_ _)); exact BK480.out)) : gb480 ≠ gb492)); have n13_ := ak ((by rw [hg]; exact Nat.ne_of_gt (blk_lt (g := gb480) (o := .cells #[.int .i64 t475, .slice Ao38 t476.length co38] 24 (0, 0)) (by (with_reducible repeat (first | refine bN ?_ _ | refine bD ?_ | refine bA ?_ _)); exact BK480.out)) : gb492 ≠ gb480)); have n14_ := ak ((by rw [hg]; exact Nat.ne_of_lt (blk_lt (g := gb486) (o := .cells #[.int .i64 t481, .slice Ao46 t482.length co46] 24 (0, 0)) (by (with_reducible repeat (first | refine bN ?_ _ | refine bD ?_ | refine bA ?_ _)); exact BK486.out)) : gb486 ≠ gb492)); have n15_ := ak ((by rw [hg]; exact Nat.ne_of_gt (blk_lt (g := gb486) (o := .cells #[.int .i64 t481, .slice Ao46 t482.length co46] 24 (0, 0)) (by (with_reducible repeat (first | refine bN ?_ _ | refine bD ?_ | refine bA ?_ _)); exact BK486.out)) : gb492 ≠ gb486)); clear HO478; clear HO484; clear HO490; clear BK472; clear BK480; clear BK486; clear HB; have HO478 := n0_; have HO484 := n1_; have HO490 := n2_; have BK472 := n3_; have BK480 := n4_; have BK486 := n5_; have HB := n6_; have BK492 := n7_; have GW492 := n8_; have GE492 := n9_; have NB472_492 := n10_; have NB492_472 := n11_; have NB480_492 := n12_; have NB492_480 := n13_; have NB486_492 := n14_; have NB492_486 := n15_; clear n0_ n1_ n2_ n3_ n4_ n5_ n6_ n7_ n8_ n9_ n10_ n11_ n12_ n13_ n14_ n15_; clear hb hbox hg; have hnb51 := NB492_472.out; have hnc51 := NB472_492.out; have hnb52 := NB492_480.out; have hnc52 := NB480_492.out; have hnb53 := NB492_486.out; have hnc53 := NB486_492.out; have hcz54_0 : w50.cell? ⟨gb492, 0, none⟩ = some (.int .i64 0) := (blk_cell BK492.out 0).trans rfl; have hcz54_1 : w50.cell? ⟨gb492, 1, none⟩ = some (.slice none 0 0) := (blk_cell BK492.out 1).trans rfl; have hfz54_0 := blk_frozen BK492.out 0; have hfz54_1 := blk_frozen BK492.out 1; obtain ⟨Ao55, co55, eo55⟩ := Kd.V_slice HO490.out; subst eo55))
        (try simp only [Act.put, List.setIfInBounds_toArray, List.set_cons_zero, List.set_cons_succ])
        go_cut [13] (fun v13 wc => ∃ (kq : Nat) (x13_31 : Bool), v13 = .bool x13_31 ∧ Aside0 (mummerlaw16_FuelSums.j1 kq a1 a2 t491 x13_31 a0_0 l0_1 t481 t482 t487 t488 = some r) ∧ Aside0 (kq ≤ kj3) ∧ Aside0 (Kd.V (Kd.int .i64) 2 wc w.heap.size (fun k_ => k_ ≠ gb472 ∧ k_ ≠ gb480 ∧ k_ ≠ gb486 ∧ k_ ≠ gb492) (.slice Ao38 t476.length co38) t476) ∧ Aside0 (Kd.V (Kd.int .i64) 2 wc w.heap.size (fun k_ => k_ ≠ gb472 ∧ k_ ≠ gb480 ∧ k_ ≠ gb486 ∧ k_ ≠ gb492) (.slice Ao46 t482.length co46) t482) ∧ Aside0 (Kd.V (Kd.int .i64) 2 wc w.heap.size (fun k_ => k_ ≠ gb472 ∧ k_ ≠ gb480 ∧ k_ ≠ gb486 ∧ k_ ≠ gb492) (.slice Ao55 t488.length co55) t488) ∧ Aside0 (wc.heap[gb472]? = some (.cells #[.int .i64 a0_0, (.slice A0_1 l0_1.length c0_1)] 24 (0, 0))) ∧ Aside0 (wc.heap[gb480]? = some (.cells #[.int .i64 t475, (.slice Ao38 t476.length co38)] 24 (0, 0))) ∧ Aside0 (wc.heap[gb486]? = some (.cells #[.int .i64 t481, (.slice Ao46 t482.length co46)] 24 (0, 0))) ∧ Aside0 (wc.heap[gb492]? = some (.cells #[.int .i64 t487, (.slice Ao55 t488.length co55)] 24 (0, 0))) ∧ Aside0 (Below w.heap.size w wc))
        case first =>
          have H := HC32.out
          clear HC32
          by_cases c56 : t479 = 0
          · rw [if_pos c56] at H
            have c56b0 : (t479 == 0) = true := beq_iff_eq.mpr c56
            have c56b1 : (t479 != 0) = false := bne_eq_false_iff_eq.mpr c56
            clear c56
            (first | rw [c56b0] | (simp only [i64_w, i32_w]; rw [c56b0]) | skip)
            have H' := ak H
            clear H
            go_wp2
            go_meet
            case rel => exact ⟨_, ((t485 == 0)), (by first | rfl | (simp; done) | (simp [*]; done)), H', ⟨by have := HJ3.out; first | omega | exact Nat.le_refl _⟩, ⟨by (with_reducible repeat (first | apply vA | apply vN | apply vD)); exact Kd.V_mono (Kd.V_far (p := ⟨gb492, 1, none⟩) (Kd.V_far (p := ⟨gb492, 0, none⟩) (Kd.V_mono HO478.out (fun k_ hk => (⟨hk, by first | exact hk.2 | exact hk.2.2 | exact hk.2.1 | omega⟩ : _ ∧ k_ ≠ gb492))) (fun _ hk => hk.2) (.int .i64 t487)) (fun _ hk => hk.2) (.slice Ao55 t488.length co55)) (fun _ hk => by first | exact ⟨hk.1.1.1, ⟨hk.1.1.2.1, ⟨hk.1.1.2.2, hk.1.2⟩⟩⟩ | (simp only [ne_eq] at hk ⊢; simp [hk]))⟩, ⟨by (with_reducible repeat (first | apply vA | apply vN | apply vD)); exact Kd.V_mono (Kd.V_far (p := ⟨gb492, 1, none⟩) (Kd.V_far (p := ⟨gb492, 0, none⟩) (Kd.V_mono HO484.out (fun k_ hk => (⟨hk, by first | exact hk.2 | exact hk.2.2 | exact hk.2.1 | omega⟩ : _ ∧ k_ ≠ gb492))) (fun _ hk => hk.2) (.int .i64 t487)) (fun _ hk => hk.2) (.slice Ao55 t488.length co55)) (fun _ hk => by first | exact ⟨hk.1.1.1, ⟨hk.1.1.2.1, ⟨hk.1.1.2.2, hk.1.2⟩⟩⟩ | (simp only [ne_eq] at hk ⊢; simp [hk]))⟩, ⟨by (with_reducible repeat (first | apply vA | apply vN | apply vD)); exact Kd.V_mono (Kd.V_far (p := ⟨gb492, 1, none⟩) (Kd.V_far (p := ⟨gb492, 0, none⟩) (Kd.V_mono HO490.out (fun k_ hk => (⟨hk, by first | exact hk.2 | exact hk.2.2 | exact hk.2.1 | omega⟩ : _ ∧ k_ ≠ gb492))) (fun _ hk => hk.2) (.int .i64 t487)) (fun _ hk => hk.2) (.slice Ao55 t488.length co55)) (fun _ hk => by first | exact ⟨hk.1.1.1, ⟨hk.1.1.2.1, ⟨hk.1.1.2.2, hk.1.2⟩⟩⟩ | (simp only [ne_eq] at hk ⊢; simp [hk]))⟩, ⟨by (with_reducible repeat (first | refine bN ?_ _ | refine bD ?_ | refine bA ?_ _)); refine blk_far ?_ NB472_492.out _; (with_reducible repeat (first | refine bN ?_ _ | refine bD ?_ | refine bA ?_ _)); refine blk_far ?_ NB472_492.out _; (with_reducible repeat (first | refine bN ?_ _ | refine bD ?_ | refine bA ?_ _)); exact BK472.out⟩, ⟨by (with_reducible repeat (first | refine bN ?_ _ | refine bD ?_ | refine bA ?_ _)); refine blk_far ?_ NB480_492.out _; (with_reducible repeat (first | refine bN ?_ _ | refine bD ?_ | refine bA ?_ _)); refine blk_far ?_ NB480_492.out _; (with_reducible repeat (first | refine bN ?_ _ | refine bD ?_ | refine bA ?_ _)); exact BK480.out⟩, ⟨by (with_reducible repeat (first | refine bN ?_ _ | refine bD ?_ | refine bA ?_ _)); refine blk_far ?_ NB486_492.out _; (with_reducible repeat (first | refine bN ?_ _ | refine bD ?_ | refine bA ?_ _)); refine blk_far ?_ NB486_492.out _; (with_reducible repeat (first | refine bN ?_ _ | refine bD ?_ | refine bA ?_ _)); exact BK486.out⟩, ⟨by (with_reducible repeat (first | refine bN ?_ _ | refine bD ?_ | refine bA ?_ _)); refine blk_put (cs := #[.int .i64 t487, .slice none 0 0]) ?_ 1 _ rfl; (with_reducible repeat (first | refine bN ?_ _ | refine bD ?_ | refine bA ?_ _)); refine blk_put (cs := #[.int .i64 0, .slice none 0 0]) ?_ 0 _ rfl; (with_reducible repeat (first | refine bN ?_ _ | refine bD ?_ | refine bA ?_ _)); exact BK492.out⟩, ⟨by repeat (first | (with_reducible first | exact HB.out | apply wA | apply wN | apply wD | refine below_set ?_ GE472.out | refine below_set ?_ GE480.out | refine below_set ?_ GE486.out | refine below_set ?_ GE492.out) | exact HB.out)⟩⟩
          · rw [if_neg c56] at H
            have c56b0 : (t479 == 0) = false := beq_eq_false_iff_ne.mpr c56
            have c56b1 : (t479 != 0) = true := bne_iff_ne.mpr c56
            (first | rw [c56b0] | (simp only [i64_w, i32_w]; rw [c56b0]) | skip)
            have H' := ak H
            clear H
            go_wp2
            go_meet
            case rel => exact ⟨_, (false), (by first | rfl | (simp; done) | (simp [*]; done)), H', ⟨by have := HJ3.out; first | omega | exact Nat.le_refl _⟩, ⟨by (with_reducible repeat (first | apply vA | apply vN | apply vD)); exact Kd.V_mono (Kd.V_far (p := ⟨gb492, 1, none⟩) (Kd.V_far (p := ⟨gb492, 0, none⟩) (Kd.V_mono HO478.out (fun k_ hk => (⟨hk, by first | exact hk.2 | exact hk.2.2 | exact hk.2.1 | omega⟩ : _ ∧ k_ ≠ gb492))) (fun _ hk => hk.2) (.int .i64 t487)) (fun _ hk => hk.2) (.slice Ao55 t488.length co55)) (fun _ hk => by first | exact ⟨hk.1.1.1, ⟨hk.1.1.2.1, ⟨hk.1.1.2.2, hk.1.2⟩⟩⟩ | (simp only [ne_eq] at hk ⊢; simp [hk]))⟩, ⟨by (with_reducible repeat (first | apply vA | apply vN | apply vD)); exact Kd.V_mono (Kd.V_far (p := ⟨gb492, 1, none⟩) (Kd.V_far (p := ⟨gb492, 0, none⟩) (Kd.V_mono HO484.out (fun k_ hk => (⟨hk, by first | exact hk.2 | exact hk.2.2 | exact hk.2.1 | omega⟩ : _ ∧ k_ ≠ gb492))) (fun _ hk => hk.2) (.int .i64 t487)) (fun _ hk => hk.2) (.slice Ao55 t488.length co55)) (fun _ hk => by first | exact ⟨hk.1.1.1, ⟨hk.1.1.2.1, ⟨hk.1.1.2.2, hk.1.2⟩⟩⟩ | (simp only [ne_eq] at hk ⊢; simp [hk]))⟩, ⟨by (with_reducible repeat (first | apply vA | apply vN | apply vD)); exact Kd.V_mono (Kd.V_far (p := ⟨gb492, 1, none⟩) (Kd.V_far (p := ⟨gb492, 0, none⟩) (Kd.V_mono HO490.out (fun k_ hk => (⟨hk, by first | exact hk.2 | exact hk.2.2 | exact hk.2.1 | omega⟩ : _ ∧ k_ ≠ gb492))) (fun _ hk => hk.2) (.int .i64 t487)) (fun _ hk => hk.2) (.slice Ao55 t488.length co55)) (fun _ hk => by first | exact ⟨hk.1.1.1, ⟨hk.1.1.2.1, ⟨hk.1.1.2.2, hk.1.2⟩⟩⟩ | (simp only [ne_eq] at hk ⊢; simp [hk]))⟩, ⟨by (with_reducible repeat (first | refine bN ?_ _ | refine bD ?_ | refine bA ?_ _)); refine blk_far ?_ NB472_492.out _; (with_reducible repeat (first | refine bN ?_ _ | refine bD ?_ | refine bA ?_ _)); refine blk_far ?_ NB472_492.out _; (with_reducible repeat (first | refine bN ?_ _ | refine bD ?_ | refine bA ?_ _)); exact BK472.out⟩, ⟨by (with_reducible repeat (first | refine bN ?_ _ | refine bD ?_ | refine bA ?_ _)); refine blk_far ?_ NB480_492.out _; (with_reducible repeat (first | refine bN ?_ _ | refine bD ?_ | refine bA ?_ _)); refine blk_far ?_ NB480_492.out _; (with_reducible repeat (first | refine bN ?_ _ | refine bD ?_ | refine bA ?_ _)); exact BK480.out⟩, ⟨by (with_reducible repeat (first | refine bN ?_ _ | refine bD ?_ | refine bA ?_ _)); refine blk_far ?_ NB486_492.out _; (with_reducible repeat (first | refine bN ?_ _ | refine bD ?_ | refine bA ?_ _)); refine blk_far ?_ NB486_492.out _; (with_reducible repeat (first | refine bN ?_ _ | refine bD ?_ | refine bA ?_ _)); exact BK486.out⟩, ⟨by (with_reducible repeat (first | refine bN ?_ _ | refine bD ?_ | refine bA ?_ _)); refine blk_put (cs := #[.int .i64 t487, .slice none 0 0]) ?_ 1 _ rfl; (with_reducible repeat (first | refine bN ?_ _ | refine bD ?_ | refine bA ?_ _)); refine blk_put (cs := #[.int .i64 0, .slice none 0 0]) ?_ 0 _ rfl; (with_reducible repeat (first | refine bN ?_ _ | refine bD ?_ | refine bA ?_ _)); exact BK492.out⟩, ⟨by repeat (first | (with_reducible first | exact HB.out | apply wA | apply wN | apply wD | refine below_set ?_ GE472.out | refine below_set ?_ GE480.out | refine below_set ?_ GE486.out | refine below_set ?_ GE492.out) | exact HB.out)⟩⟩
        case rest =>
          clear HC32
          try clear c1
          try clear c2
          try clear p2
          try clear c3
          try clear c4
          try clear c5
          try clear c6
          try clear c6b0
          try clear c6b1
          try clear p6
          try clear c9
          try clear c9b0
          try clear c9b1
          try clear c10
          try clear c10b0
          try clear c13
          try clear c13b0
          try clear c16
          try clear c16b0
          try clear c17
          try clear c19
          try clear c19b0
          try clear c26
          try clear c36
          try clear c43
          try clear c44
          try clear c51
          try clear c52
          try clear c53
          try clear c56
          try clear c56b0
          try clear c56b1
          try clear hcz11_0
          try clear hcz11_1
          try clear hcz14_0
          try clear hcz14_1
          try clear hcz17_0
          try clear hcz17_1
          try clear hcz20_0
          try clear hcz20_1
          try clear hcz22_0
          try clear hcz22_1
          try clear hcz24_0
          try clear hcz24_1
          try clear hcz33_0
          try clear hcz33_1
          try clear hcz37_0
          try clear hcz37_1
          try clear hcz40_0
          try clear hcz40_1
          try clear hcz45_0
          try clear hcz45_1
          try clear hcz48_0
          try clear hcz48_1
          try clear hcz54_0
          try clear hcz54_1
          try clear hcz7_0
          try clear hcz7_1
          try clear hfz11_0
          try clear hfz11_1
          try clear hfz14_0
          try clear hfz14_1
          try clear hfz17_0
          try clear hfz17_1
          try clear hfz20_0
          try clear hfz20_1
          try clear hfz22_0
          try clear hfz22_1
          try clear hfz24_0
          try clear hfz24_1
          try clear hfz33_0
          try clear hfz33_1
          try clear hfz37_0
          try clear hfz37_1
          try clear hfz40_0
          try clear hfz40_1
          try clear hfz45_0
          try clear hfz45_1
          try clear hfz48_0
          try clear hfz48_1
          try clear hfz54_0
          try clear hfz54_1
          try clear hfz7_0
          try clear hfz7_1
          try clear p2
          try clear p6
          obtain ⟨kq, x13_31, rfl, HA, HJ31, HO_481001, HO_487001, HO_493001, BK472, BK480, BK486, BK492, HB⟩ := hcut
          cases kq with
          | zero => exact absurd HA.out (by simp [mummerlaw16_FuelSums.j1])
          | succ kj31 =>
            have H := HA.out
            clear HA
            simp only [mummerlaw16_FuelSums.j1] at H
            by_cases c57 : (x13_31 != (t491 == 0)) = true
            · rw [if_pos c57] at H
              have c57b0 : (x13_31 != (t491 == 0)) = true := c57
              (try (have c57b1 : decide (x13_31 = (t491 == 0)) = false := by simpa using c57))
              (try (have c57b2 : (x13_31 == (t491 == 0)) = false := by simpa using c57))
              (try (have c57b3 : ¬ (x13_31 = (t491 == 0)) := by simpa using c57))
              clear c57
              exact absurd ((Option.some.inj H).trans hrt.out) (by decide)
            · rw [if_neg c57] at H
              have c57b0 : (x13_31 != (t491 == 0)) = false := by simpa using c57
              (try (have c57b1 : decide (x13_31 = (t491 == 0)) = true := by simpa using c57))
              (try (have c57b2 : (x13_31 == (t491 == 0)) = true := by simpa using c57))
              clear c57
              by_cases c58 : x13_31 = true
              · subst c58
                have H1 : ((mummerref16_Same.f kj31 t481 t482 t487 t488).bind fun t493 => (if t493 = true then (if t487 = (wrap64 ((wrap64 (a0_0 + a1)) + a2)) then ((mummerlaw16_awake.f kj31).bind fun t494 => (some t494)) else (some false)) else (some false))) = some r := by rw [if_pos rfl] at H; exact H
                clear H
                have H := H1
                clear H1
                replace H := Option.bind_eq_some_iff.mp H
                obtain ⟨t493, A590, H⟩ := H
                replace H : (if t493 = true then (if t487 = (wrap64 ((wrap64 (a0_0 + a1)) + a2)) then ((mummerlaw16_awake.f kj31).bind fun t494 => (some t494)) else (some false)) else (some false)) = some r := H
                have A59 := ak A590
                clear A590
                by_cases c60 : t493 = true
                · subst c60
                  have H1 : (if t487 = (wrap64 ((wrap64 (a0_0 + a1)) + a2)) then ((mummerlaw16_awake.f kj31).bind fun t494 => (some t494)) else (some false)) = some r := by rw [if_pos rfl] at H; exact H
                  clear H
                  have H := H1
                  clear H1
                  by_cases c61 : t487 = (wrap64 ((wrap64 (a0_0 + a1)) + a2))
                  · rw [if_pos c61] at H
                    have c61b0 : (t487 == (wrap64 ((wrap64 (a0_0 + a1)) + a2))) = true := beq_iff_eq.mpr c61
                    have c61b1 : (t487 != (wrap64 ((wrap64 (a0_0 + a1)) + a2))) = false := bne_eq_false_iff_eq.mpr c61
                    clear c61
                    replace H := Option.bind_eq_some_iff.mp H
                    obtain ⟨t494, A620, H⟩ := H
                    replace H : (some t494) = some r := H
                    have A62 := ak A620
                    clear A620
                    obtain rfl := Option.some.inj H
                    have hnb63 := NB486_472.out
                    have hnc63 := NB472_486.out
                    have hnb64 := NB486_480.out
                    have hnc64 := NB480_486.out
                    have hnb65 := NB486_492.out
                    have hnc65 := NB492_486.out
                    have hcz66_0 : wc.cell? ⟨gb486, 0, none⟩ = some (.int .i64 t481) := (blk_cell BK486.out 0).trans rfl
                    have hcz66_1 : wc.cell? ⟨gb486, 1, none⟩ = some (.slice Ao46 t482.length co46) := (blk_cell BK486.out 1).trans rfl
                    have hfz66_0 := blk_frozen BK486.out 0
                    have hfz66_1 := blk_frozen BK486.out 1
                    have hnb67 := NB492_472.out
                    have hnc67 := NB472_492.out
                    have hnb68 := NB492_480.out
                    have hnc68 := NB480_492.out
                    have hcz69_0 : wc.cell? ⟨gb492, 0, none⟩ = some (.int .i64 t487) := (blk_cell BK492.out 0).trans rfl
                    have hcz69_1 : wc.cell? ⟨gb492, 1, none⟩ = some (.slice Ao55 t488.length co55) := (blk_cell BK492.out 1).trans rfl
                    have hfz69_0 := blk_frozen BK492.out 0
                    have hfz69_1 := blk_frozen BK492.out 1
                    go_wp2_with (first | (go_at_call 14; (with_reducible refine (mummerref16_Same.calls kj31 t481 _ _ t482 t487 _ _ t488 true _ ?side1 ?side2 ?side3 ?side4 A59.out).mono ?_); (case side1 => repeat (first | exact (Kd.V_reads' HO_487001.out).2.2 | (with_reducible refine Kd.C_alloc ?_ _) | (with_reducible refine Kd.C_drewN ?_ _) | (with_reducible refine Kd.C_drew ?_))); (case side2 => exact (Kd.V_reads' HO_487001.out).2.1); (case side3 => repeat (first | exact (Kd.V_reads' HO_493001.out).2.2 | (with_reducible refine Kd.C_alloc ?_ _) | (with_reducible refine Kd.C_drewN ?_ _) | (with_reducible refine Kd.C_drew ?_))); (case side4 => exact (Kd.V_reads' HO_493001.out).2.1); rintro e w70 ⟨rfl, hb⟩; have n0_ := ak (Kd.V_below (by (with_reducible repeat (first | apply vA | apply vN | apply vD)); exact HO_481001.out) hb); have n1_ := ak (Kd.V_below (by (with_reducible repeat (first | apply vA | apply vN | apply vD)); exact HO_487001.out) hb); have n2_ := ak (Kd.V_below (by (with_reducible repeat (first | apply vA | apply vN | apply vD)); exact HO_493001.out) hb); have n3_ := ak (blk_below (g := gb472) (o := .cells #[.int .i64 a0_0, .slice A0_1 l0_1.length c0_1] 24 (0, 0)) (by (with_reducible repeat (first | refine bN ?_ _ | refine bD ?_ | refine bA ?_ _)); exact BK472.out) hb); have n4_ := ak (blk_below (g := gb480) (o := .cells #[.int .i64 t475, .slice Ao38 t476.length co38] 24 (0, 0)) (by (with_reducible repeat (first | refine bN ?_ _ | refine bD ?_ | refine bA ?_ _)); exact BK480.out) hb); have n5_ := ak (blk_below (g := gb486) (o := .cells #[.int .i64 t481, .slice Ao46 t482.length co46] 24 (0, 0)) (by (with_reducible repeat (first | refine bN ?_ _ | refine bD ?_ | refine bA ?_ _)); exact BK486.out) hb); have n6_ := ak (blk_below (g := gb492) (o := .cells #[.int .i64 t487, .slice Ao55 t488.length co55] 24 (0, 0)) (by (with_reducible repeat (first | refine bN ?_ _ | refine bD ?_ | refine bA ?_ _)); exact BK492.out) hb); have n7_ := ak (below_step (by repeat (first | (with_reducible first | exact HB.out | apply wA | apply wN | apply wD | refine below_set ?_ GE472.out | refine below_set ?_ GE480.out | refine below_set ?_ GE486.out | refine below_set ?_ GE492.out) | exact HB.out)) hb); clear HO_481001; clear HO_487001; clear HO_493001; clear BK472; clear BK480; clear BK486; clear BK492; clear HB; have HO_481001 := n0_; have HO_487001 := n1_; have HO_493001 := n2_; have BK472 := n3_; have BK480 := n4_; have BK486 := n5_; have BK492 := n6_; have HB := n7_; clear n0_ n1_ n2_ n3_ n4_ n5_ n6_ n7_; (try clear hb); (try clear hb2); (try clear hk); (try clear hi); have hcz71_0 : w70.cell? ⟨gb492, 0, none⟩ = some (.int .i64 t487) := (blk_cell BK492.out 0).trans rfl; have hcz71_1 : w70.cell? ⟨gb492, 1, none⟩ = some (.slice Ao55 t488.length co55) := (blk_cell BK492.out 1).trans rfl; have hfz71_0 := blk_frozen BK492.out 0; have hfz71_1 := blk_frozen BK492.out 1; have hnb72 := NB472_480.out; have hnc72 := NB480_472.out; have hcz73_0 : w70.cell? ⟨gb472, 0, none⟩ = some (.int .i64 a0_0) := (blk_cell BK472.out 0).trans rfl; have hcz73_1 : w70.cell? ⟨gb472, 1, none⟩ = some (.slice A0_1 l0_1.length c0_1) := (blk_cell BK472.out 1).trans rfl; have hfz73_0 := blk_frozen BK472.out 0; have hfz73_1 := blk_frozen BK472.out 1) | (go_at_call 9; (with_reducible refine (mummerlaw16_awake.calls kj31  t494 _ hrt A62.out).mono ?_); rintro e w74 ⟨rfl, hb⟩; have n0_ := ak (Kd.V_below (by (with_reducible repeat (first | apply vA | apply vN | apply vD)); exact HO_481001.out) hb); have n1_ := ak (Kd.V_below (by (with_reducible repeat (first | apply vA | apply vN | apply vD)); exact HO_487001.out) hb); have n2_ := ak (Kd.V_below (by (with_reducible repeat (first | apply vA | apply vN | apply vD)); exact HO_493001.out) hb); have n3_ := ak (blk_below (g := gb472) (o := .cells #[.int .i64 a0_0, .slice A0_1 l0_1.length c0_1] 24 (0, 0)) (by (with_reducible repeat (first | refine bN ?_ _ | refine bD ?_ | refine bA ?_ _)); exact BK472.out) hb); have n4_ := ak (blk_below (g := gb480) (o := .cells #[.int .i64 t475, .slice Ao38 t476.length co38] 24 (0, 0)) (by (with_reducible repeat (first | refine bN ?_ _ | refine bD ?_ | refine bA ?_ _)); exact BK480.out) hb); have n5_ := ak (blk_below (g := gb486) (o := .cells #[.int .i64 t481, .slice Ao46 t482.length co46] 24 (0, 0)) (by (with_reducible repeat (first | refine bN ?_ _ | refine bD ?_ | refine bA ?_ _)); exact BK486.out) hb); have n6_ := ak (blk_below (g := gb492) (o := .cells #[.int .i64 t487, .slice Ao55 t488.length co55] 24 (0, 0)) (by (with_reducible repeat (first | refine bN ?_ _ | refine bD ?_ | refine bA ?_ _)); exact BK492.out) hb); have n7_ := ak (below_step (by repeat (first | (with_reducible first | exact HB.out | apply wA | apply wN | apply wD | refine below_set ?_ GE472.out | refine below_set ?_ GE480.out | refine below_set ?_ GE486.out | refine below_set ?_ GE492.out) | exact HB.out)) hb); clear HO_481001; clear HO_487001; clear HO_493001; clear BK472; clear BK480; clear BK486; clear BK492; clear HB; have HO_481001 := n0_; have HO_487001 := n1_; have HO_493001 := n2_; have BK472 := n3_; have BK480 := n4_; have BK486 := n5_; have BK492 := n6_; have HB := n7_; clear n0_ n1_ n2_ n3_ n4_ n5_ n6_ n7_; (try clear hb); (try clear hb2); (try clear hk); (try clear hi)))
                    go_ret
                    exact ⟨by first | rfl | (simp [errW_none, errW_some] <;> rfl) | (simp [*, errW_none, errW_some] <;> rfl), by repeat (first | (with_reducible first | exact HB.out | apply wA | apply wN | apply wD | refine below_set ?_ GE472.out | refine below_set ?_ GE480.out | refine below_set ?_ GE486.out | refine below_set ?_ GE492.out) | exact HB.out)⟩
                  · rw [if_neg c61] at H
                    have c61b0 : (t487 == (wrap64 ((wrap64 (a0_0 + a1)) + a2))) = false := beq_eq_false_iff_ne.mpr c61
                    have c61b1 : (t487 != (wrap64 ((wrap64 (a0_0 + a1)) + a2))) = true := bne_iff_ne.mpr c61
                    exact absurd ((Option.some.inj H).trans hrt.out) (by decide)
                · replace c60 := Bool.eq_false_iff.mpr c60
                  subst c60
                  have H1 : (some false) = some r := by rw [if_neg (show ¬ (false = true) by decide)] at H; exact H
                  clear H
                  have H := H1
                  clear H1
                  exact absurd ((Option.some.inj H).trans hrt.out) (by decide)
              · replace c58 := Bool.eq_false_iff.mpr c58
                subst c58
                have H1 : ((mummerlaw16_awake.f kj31).bind fun t495 => (some t495)) = some r := by rw [if_neg (show ¬ (false = true) by decide)] at H; exact H
                clear H
                have H := H1
                clear H1
                replace H := Option.bind_eq_some_iff.mp H
                obtain ⟨t495, A750, H⟩ := H
                replace H : (some t495) = some r := H
                have A75 := ak A750
                clear A750
                obtain rfl := Option.some.inj H
                go_wp2_with (first | (go_at_call 9; (with_reducible refine (mummerlaw16_awake.calls kj31  t495 _ hrt A75.out).mono ?_); rintro e w76 ⟨rfl, hb⟩; have n0_ := ak (Kd.V_below (by (with_reducible repeat (first | apply vA | apply vN | apply vD)); exact HO_481001.out) hb); have n1_ := ak (Kd.V_below (by (with_reducible repeat (first | apply vA | apply vN | apply vD)); exact HO_487001.out) hb); have n2_ := ak (Kd.V_below (by (with_reducible repeat (first | apply vA | apply vN | apply vD)); exact HO_493001.out) hb); have n3_ := ak (blk_below (g := gb472) (o := .cells #[.int .i64 a0_0, .slice A0_1 l0_1.length c0_1] 24 (0, 0)) (by (with_reducible repeat (first | refine bN ?_ _ | refine bD ?_ | refine bA ?_ _)); exact BK472.out) hb); have n4_ := ak (blk_below (g := gb480) (o := .cells #[.int .i64 t475, .slice Ao38 t476.length co38] 24 (0, 0)) (by (with_reducible repeat (first | refine bN ?_ _ | refine bD ?_ | refine bA ?_ _)); exact BK480.out) hb); have n5_ := ak (blk_below (g := gb486) (o := .cells #[.int .i64 t481, .slice Ao46 t482.length co46] 24 (0, 0)) (by (with_reducible repeat (first | refine bN ?_ _ | refine bD ?_ | refine bA ?_ _)); exact BK486.out) hb); have n6_ := ak (blk_below (g := gb492) (o := .cells #[.int .i64 t487, .slice Ao55 t488.length co55] 24 (0, 0)) (by (with_reducible repeat (first | refine bN ?_ _ | refine bD ?_ | refine bA ?_ _)); exact BK492.out) hb); have n7_ := ak (below_step (by repeat (first | (with_reducible first | exact HB.out | apply wA | apply wN | apply wD | refine below_set ?_ GE472.out | refine below_set ?_ GE480.out | refine below_set ?_ GE486.out | refine below_set ?_ GE492.out) | exact HB.out)) hb); clear HO_481001; clear HO_487001; clear HO_493001; clear BK472; clear BK480; clear BK486; clear BK492; clear HB; have HO_481001 := n0_; have HO_487001 := n1_; have HO_493001 := n2_; have BK472 := n3_; have BK480 := n4_; have BK486 := n5_; have BK492 := n6_; have HB := n7_; clear n0_ n1_ n2_ n3_ n4_ n5_ n6_ n7_; (try clear hb); (try clear hb2); (try clear hk); (try clear hi)))
                go_ret
                exact ⟨by first | rfl | (simp [errW_none, errW_some] <;> rfl) | (simp [*, errW_none, errW_some] <;> rfl), by repeat (first | (with_reducible first | exact HB.out | apply wA | apply wN | apply wD | refine below_set ?_ GE472.out | refine below_set ?_ GE480.out | refine below_set ?_ GE486.out | refine below_set ?_ GE492.out) | exact HB.out)⟩

end Go.Proofs.Ytpophcogdekgkaa.P
