-- Written by wip/tools/myprint.py of this session over the kit's print; Lean checks it.
import Derived.Test.YtpophcogdekgkaaPx0
import Derived.Test.YtpophcogdekgkaaPx8
import Derived.Test.YtpophcogdekgkaaPx9
import Derived.Test.YtpophcogdekgkaaPx12
import Derived.Test.YtpophcogdekgkaaPx19
import Derived.Test.YtpophcogdekgkaaPx21
import Derived.Test.YtpophcogdekgkaaPx22
namespace Go.Proofs.Ytpophcogdekgkaa.P
open Go.RowKit Go.Proofs.YtpophcogdekgkaaW.PrintWords Go.Proofs.YtpophcogdekgkaaW.PrintLast Go.Proofs.YtpophcogdekgkaaW.PrintMore
attribute [local go_sem] max2_int min2_int max_two min_two max_three min_three max_four min_four   -- for this text's walks alone
set_option linter.unusedVariables false
set_option linter.unusedSimpArgs false

/-! ### mummerlaw16_FuelRuns: function 3 -/
def mummerlaw16_FuelRuns.j0 : Nat → List (S46) → Bool → Int → List Int → Option (Bool)
  | 0, _, _, _, _ => none
  | k + 1, x1, x25, x376000, x376001 => if x25 = true then ((mummerlaw16_awake.f k).bind fun t376 => (some t376)) else ((fuel_Run.f k x376000 x376001 x1).bind fun bt377 => ((mummerref16_Run.f k x376000 x376001 x1).bind fun bt384 => ((fuel_Least.f k x1).bind fun bt391 => ((mummerref16_Least.f k x1).bind fun bt394 => ((mummerref16_Same.f k bt377.1 bt377.2.1 bt384.1 bt384.2.1).bind fun t397 => (if t397 = true then (if bt377.2.2.1 = bt384.2.2.1 then (if bt377.2.2.2 = bt384.2.2.2 then (if bt391.1 = bt394.1 then (if bt391.2.1 = bt394.2.1 then (if bt391.2.2 = bt394.2.2 then ((mummerlaw16_awake.f k).bind fun t398 => (some t398)) else (some false)) else (some false)) else (some false)) else (some false)) else (some false)) else (some false)))))))
def mummerlaw16_FuelRuns.f (k : Nat) (a0_0 : Int) (l0_1 : List Int) (l1 : List (S46)) : Option (Bool) := if (l0_1.length : Int) > 300 then (mummerlaw16_FuelRuns.j0 k l1 true a0_0 l0_1) else (mummerlaw16_FuelRuns.j0 k l1 (decide ((l1.length : Int) > 300)) a0_0 l0_1)
theorem mummerlaw16_FuelRuns.mono_l : ∀ k, (∀ y0 y1 y2 y3, LeO (mummerlaw16_FuelRuns.j0 k y0 y1 y2 y3) (mummerlaw16_FuelRuns.j0 (k + 1) y0 y1 y2 y3))
  | 0 => fun _ _ _ _ r h => by simp [mummerlaw16_FuelRuns.j0] at h
  | k + 1 => by
    have ih0 := mummerlaw16_FuelRuns.mono_l k
    · intro y0 y1 y2 y3
      unfold mummerlaw16_FuelRuns.j0
      repeat' first
      | (with_reducible exact ih0 _ _ _ _)
      | (with_reducible exact fuel_Least.mono _ _)
      | (with_reducible exact fuel_Run.mono _ _ _ _)
      | (with_reducible exact mummerlaw16_awake.mono _)
      | (with_reducible exact mummerref16_Least.mono _ _)
      | (with_reducible exact mummerref16_Run.mono _ _ _ _)
      | (with_reducible exact mummerref16_Same.mono _ _ _ _ _)
      | (with_reducible exact LeO.refl _)
      | (with_reducible exact LeO.none _)
      | (with_reducible refine LeO.ite ?_ ?_)
      | (with_reducible refine LeO.bind ?_ (fun _ => ?_))
      | exact ih0 _ _ _ _
      | exact fuel_Least.mono _ _
      | exact fuel_Run.mono _ _ _ _
      | exact mummerlaw16_awake.mono _
      | exact mummerref16_Least.mono _ _
      | exact mummerref16_Run.mono _ _ _ _
      | exact mummerref16_Same.mono _ _ _ _ _
      | exact LeO.none _
      | refine LeO.ite ?_ ?_
      | refine LeO.bind ?_ (fun _ => ?_)
theorem mummerlaw16_FuelRuns.mono : ∀ a0 a1 a2 k, LeO (mummerlaw16_FuelRuns.f k a0 a1 a2) (mummerlaw16_FuelRuns.f (k + 1) a0 a1 a2) := by
  intro a0 a1 a2 k
  have ih0 := mummerlaw16_FuelRuns.mono_l k
  unfold mummerlaw16_FuelRuns.f
  repeat' first
      | (with_reducible exact ih0 _ _ _ _)
      | (with_reducible exact fuel_Least.mono _ _)
      | (with_reducible exact fuel_Run.mono _ _ _ _)
      | (with_reducible exact mummerlaw16_awake.mono _)
      | (with_reducible exact mummerref16_Least.mono _ _)
      | (with_reducible exact mummerref16_Run.mono _ _ _ _)
      | (with_reducible exact mummerref16_Same.mono _ _ _ _ _)
      | (with_reducible exact LeO.refl _)
      | (with_reducible exact LeO.none _)
      | (with_reducible refine LeO.ite ?_ ?_)
      | (with_reducible refine LeO.bind ?_ (fun _ => ?_))
      | exact ih0 _ _ _ _
      | exact fuel_Least.mono _ _
      | exact fuel_Run.mono _ _ _ _
      | exact mummerlaw16_awake.mono _
      | exact mummerref16_Least.mono _ _
      | exact mummerref16_Run.mono _ _ _ _
      | exact mummerref16_Same.mono _ _ _ _ _
      | exact LeO.none _
      | refine LeO.ite ?_ ?_
      | refine LeO.bind ?_ (fun _ => ?_)
set_option maxHeartbeats 8000000 in
set_option maxRecDepth 100000 in
theorem mummerlaw16_FuelRuns.calls (k : Nat) (a0_0 : Int) (A0_1 : Option Addr) (c0_1 : Nat) (l0_1 : List Int) (A1 : Option Addr) (c1 : Nat) (l1 : List (S46)) (r : Bool) (w : World) (hr0_1 : Kd.C (Kd.int .i64) w A0_1 l0_1.length l0_1) (hc0_1 : l0_1.length ≤ c0_1) (hr1 : Kd.C k46 w A1 l1.length l1) (hc1 : l1.length ≤ c1) (hrt : Aside0 (r = true)) (h : mummerlaw16_FuelRuns.f k a0_0 l0_1 l1 = some r) :
    Calls Try.prog 3 #[.agg #[.int .i64 a0_0, .slice A0_1 l0_1.length c0_1], .slice A1 l1.length c1] w fun e w' => e = .returned (.bool r) ∧ Below w.heap.size w w' := by
  have hu24 := Try.underlying24
  have HR0_1 := ak hr0_1
  have HC0_1 := ak hc0_1
  clear hr0_1 hc0_1
  have HR1 := ak hr1
  have HC1 := ak hc1
  clear hr1 hc1
  have HB := ak (Below.refl w.heap.size w)
  have H : (if (l0_1.length : Int) > 300 then (mummerlaw16_FuelRuns.j0 k l1 true a0_0 l0_1) else (mummerlaw16_FuelRuns.j0 k l1 (decide ((l1.length : Int) > 300)) a0_0 l0_1)) = some r := h
  clear h
  have HC3 := ak H
  clear H
  go_enter Try.func3, Try.ntmps3
  go_upto_region 1 with (first | ((with_reducible refine gate_dst (N := 2) rfl ?_); (try (refine gate_guard (by rfl) ?_; dsimp only)); refine box_event ?hg (N := 2) ?hd (cs := #[.int .i64 a0_0, .slice A0_1 l0_1.length c0_1]) (t := 24) ?hr ?_; (case hd => rfl); (case hg => rfl); (case hr => first | (go_simp; done) | (go_simp; rfl)); intro gb375 hg w4 hbox hb; have n0_ := ak (below_step (by repeat (first | (with_reducible first | exact HB.out | apply wA | apply wN | apply wD) | exact HB.out)) hb); have n1_ := ak (hbox); have n2_ := ak ((by rw [hg]; exact (below_size (by repeat (first | (with_reducible first | exact HB.out | apply wA | apply wN | apply wD) | exact HB.out))) : w.heap.size ≤ gb375)); have n3_ := ak ((by rw [hg]; exact (below_size (by repeat (first | (with_reducible first | exact HB.out | apply wA | apply wN | apply wD) | exact HB.out))) : w.heap.size ≤ gb375)); clear HB; have HB := n0_; have BK375 := n1_; have GW375 := n2_; have GE375 := n3_; clear n0_ n1_ n2_ n3_; clear hb hbox hg))
  (try simp only [Act.put, List.setIfInBounds_toArray, List.set_cons_zero, List.set_cons_succ])
  go_cut [25] (fun v25 wc => ∃ (kq : Nat) (x25_2 : Bool), v25 = .bool x25_2 ∧ Aside0 (mummerlaw16_FuelRuns.j0 kq l1 x25_2 a0_0 l0_1 = some r) ∧ Aside0 (kq ≤ k) ∧ Aside0 (wc.heap[gb375]? = some (.cells #[.int .i64 a0_0, (.slice A0_1 l0_1.length c0_1)] 24 (0, 0))) ∧ Aside0 (Below w.heap.size w wc))
  case first =>
    have H := HC3.out
    clear HC3
    by_cases c5 : (l0_1.length : Int) > 300
    · rw [if_pos c5] at H
      have c5b0 : decide (300 < (l0_1.length : Int)) = true := decide_eq_true c5
      have c5b1 : decide (300 < l0_1.length) = true := decide_eq_true (by omega)
      clear c5
      (first | rw [c5b0] | (simp only [i64_w, i32_w]; rw [c5b0]) | skip)
      have H' := ak H
      clear H
      have hcz6_0 : w4.cell? ⟨gb375, 0, none⟩ = some (.int .i64 a0_0) := (blk_cell BK375.out 0).trans rfl
      have hcz6_1 : w4.cell? ⟨gb375, 1, none⟩ = some (.slice A0_1 l0_1.length c0_1) := (blk_cell BK375.out 1).trans rfl
      have hfz6_0 := blk_frozen BK375.out 0
      have hfz6_1 := blk_frozen BK375.out 1
      go_wp2
      go_meet
      case rel => exact ⟨_, (true), (by first | rfl | (simp; done) | (simp [*]; done)), H', ⟨by first | omega | exact Nat.le_refl _⟩, ⟨by (with_reducible repeat (first | refine bN ?_ _ | refine bD ?_ | refine bA ?_ _)); exact BK375.out⟩, ⟨by repeat (first | (with_reducible first | exact HB.out | apply wA | apply wN | apply wD | refine below_set ?_ GE375.out) | exact HB.out)⟩⟩
    · rw [if_neg c5] at H
      have c5b0 : decide (300 < (l0_1.length : Int)) = false := decide_eq_false c5
      have c5b1 : decide (300 < l0_1.length) = false := decide_eq_false (by omega)
      clear c5
      (first | rw [c5b0] | (simp only [i64_w, i32_w]; rw [c5b0]) | skip)
      have H' := ak H
      clear H
      have hcz7_0 : w4.cell? ⟨gb375, 0, none⟩ = some (.int .i64 a0_0) := (blk_cell BK375.out 0).trans rfl
      have hcz7_1 : w4.cell? ⟨gb375, 1, none⟩ = some (.slice A0_1 l0_1.length c0_1) := (blk_cell BK375.out 1).trans rfl
      have hfz7_0 := blk_frozen BK375.out 0
      have hfz7_1 := blk_frozen BK375.out 1
      go_wp2
      go_meet
      case rel => exact ⟨_, (decide ((l1.length : Int) > 300)), (by first | rfl | (simp; done) | (simp [*]; done)), H', ⟨by first | omega | exact Nat.le_refl _⟩, ⟨by (with_reducible repeat (first | refine bN ?_ _ | refine bD ?_ | refine bA ?_ _)); exact BK375.out⟩, ⟨by repeat (first | (with_reducible first | exact HB.out | apply wA | apply wN | apply wD | refine below_set ?_ GE375.out) | exact HB.out)⟩⟩
  case rest =>
    clear HC3
    try clear c1
    try clear p2
    try clear c3
    try clear c5
    try clear c5b0
    try clear c5b1
    try clear hcz6_0
    try clear hcz6_1
    try clear hcz7_0
    try clear hcz7_1
    try clear hfz6_0
    try clear hfz6_1
    try clear hfz7_0
    try clear hfz7_1
    obtain ⟨kq, x25_2, rfl, HA, HJ2, BK375, HB⟩ := hcut
    cases kq with
    | zero => exact absurd HA.out (by simp [mummerlaw16_FuelRuns.j0])
    | succ kj2 =>
      have H := HA.out
      clear HA
      simp only [mummerlaw16_FuelRuns.j0] at H
      by_cases c8 : x25_2 = true
      · subst c8
        have H1 : ((mummerlaw16_awake.f kj2).bind fun t376 => (some t376)) = some r := by rw [if_pos rfl] at H; exact H
        clear H
        have H := H1
        clear H1
        replace H := Option.bind_eq_some_iff.mp H
        obtain ⟨t376, A90, H⟩ := H
        replace H : (some t376) = some r := H
        have A9 := ak A90
        clear A90
        obtain rfl := Option.some.inj H
        go_wp2_with (first | ((with_reducible refine gate_callee (f := 9) rfl ?_); refine goesL_ (some 26) rfl rfl Try.func9 (by kernel_rfl) rfl #[] rfl (by (try simp only [List.map_toArray, List.map_cons, List.map_nil]); first | done | rfl | (simp only [List.length_drop, List.length_take]; rfl)) ?_; (with_reducible refine (mummerlaw16_awake.calls kj2  t376 _ hrt A9.out).mono ?_); rintro e w10 ⟨rfl, hb⟩; refine ⟨_, rfl, ?_⟩; have n0_ := ak (blk_below (g := gb375) (o := .cells #[.int .i64 a0_0, .slice A0_1 l0_1.length c0_1] 24 (0, 0)) (by (with_reducible repeat (first | refine bN ?_ _ | refine bD ?_ | refine bA ?_ _)); exact BK375.out) hb); have n1_ := ak (below_step (by repeat (first | (with_reducible first | exact HB.out | apply wA | apply wN | apply wD | refine below_set ?_ GE375.out) | exact HB.out)) hb); clear BK375; clear HB; have BK375 := n0_; have HB := n1_; clear n0_ n1_; (try clear hb); (try clear hb2); (try clear hk); (try clear hi)))
        go_ret
        exact ⟨by first | rfl | (simp [errW_none, errW_some] <;> rfl) | (simp [*, errW_none, errW_some] <;> rfl), by repeat (first | (with_reducible first | exact HB.out | apply wA | apply wN | apply wD | refine below_set ?_ GE375.out) | exact HB.out)⟩
      · replace c8 := Bool.eq_false_iff.mpr c8
        subst c8
        have H1 : ((fuel_Run.f kj2 a0_0 l0_1 l1).bind fun bt377 => ((mummerref16_Run.f kj2 a0_0 l0_1 l1).bind fun bt384 => ((fuel_Least.f kj2 l1).bind fun bt391 => ((mummerref16_Least.f kj2 l1).bind fun bt394 => ((mummerref16_Same.f kj2 bt377.1 bt377.2.1 bt384.1 bt384.2.1).bind fun t397 => (if t397 = true then (if bt377.2.2.1 = bt384.2.2.1 then (if bt377.2.2.2 = bt384.2.2.2 then (if bt391.1 = bt394.1 then (if bt391.2.1 = bt394.2.1 then (if bt391.2.2 = bt394.2.2 then ((mummerlaw16_awake.f kj2).bind fun t398 => (some t398)) else (some false)) else (some false)) else (some false)) else (some false)) else (some false)) else (some false))))))) = some r := by rw [if_neg (show ¬ (false = true) by decide)] at H; exact H
        clear H
        have H := H1
        clear H1
        replace H := Option.bind_eq_some_iff.mp H
        obtain ⟨⟨t377, t378, t381, t382⟩, A110, H⟩ := H
        replace H : ((mummerref16_Run.f kj2 a0_0 l0_1 l1).bind fun bt384 => ((fuel_Least.f kj2 l1).bind fun bt391 => ((mummerref16_Least.f kj2 l1).bind fun bt394 => ((mummerref16_Same.f kj2 t377 t378 bt384.1 bt384.2.1).bind fun t397 => (if t397 = true then (if t381 = bt384.2.2.1 then (if t382 = bt384.2.2.2 then (if bt391.1 = bt394.1 then (if bt391.2.1 = bt394.2.1 then (if bt391.2.2 = bt394.2.2 then ((mummerlaw16_awake.f kj2).bind fun t398 => (some t398)) else (some false)) else (some false)) else (some false)) else (some false)) else (some false)) else (some false)))))) = some r := H
        have A11 := ak A110
        clear A110
        replace H := Option.bind_eq_some_iff.mp H
        obtain ⟨⟨t384, t385, t388, t389⟩, A120, H⟩ := H
        replace H : ((fuel_Least.f kj2 l1).bind fun bt391 => ((mummerref16_Least.f kj2 l1).bind fun bt394 => ((mummerref16_Same.f kj2 t377 t378 t384 t385).bind fun t397 => (if t397 = true then (if t381 = t388 then (if t382 = t389 then (if bt391.1 = bt394.1 then (if bt391.2.1 = bt394.2.1 then (if bt391.2.2 = bt394.2.2 then ((mummerlaw16_awake.f kj2).bind fun t398 => (some t398)) else (some false)) else (some false)) else (some false)) else (some false)) else (some false)) else (some false))))) = some r := H
        have A12 := ak A120
        clear A120
        replace H := Option.bind_eq_some_iff.mp H
        obtain ⟨⟨t391, t392, t393⟩, A130, H⟩ := H
        replace H : ((mummerref16_Least.f kj2 l1).bind fun bt394 => ((mummerref16_Same.f kj2 t377 t378 t384 t385).bind fun t397 => (if t397 = true then (if t381 = t388 then (if t382 = t389 then (if t391 = bt394.1 then (if t392 = bt394.2.1 then (if t393 = bt394.2.2 then ((mummerlaw16_awake.f kj2).bind fun t398 => (some t398)) else (some false)) else (some false)) else (some false)) else (some false)) else (some false)) else (some false)))) = some r := H
        have A13 := ak A130
        clear A130
        replace H := Option.bind_eq_some_iff.mp H
        obtain ⟨⟨t394, t395, t396⟩, A140, H⟩ := H
        replace H : ((mummerref16_Same.f kj2 t377 t378 t384 t385).bind fun t397 => (if t397 = true then (if t381 = t388 then (if t382 = t389 then (if t391 = t394 then (if t392 = t395 then (if t393 = t396 then ((mummerlaw16_awake.f kj2).bind fun t398 => (some t398)) else (some false)) else (some false)) else (some false)) else (some false)) else (some false)) else (some false))) = some r := H
        have A14 := ak A140
        clear A140
        replace H := Option.bind_eq_some_iff.mp H
        obtain ⟨t397, A150, H⟩ := H
        replace H : (if t397 = true then (if t381 = t388 then (if t382 = t389 then (if t391 = t394 then (if t392 = t395 then (if t393 = t396 then ((mummerlaw16_awake.f kj2).bind fun t398 => (some t398)) else (some false)) else (some false)) else (some false)) else (some false)) else (some false)) else (some false)) = some r := H
        have A15 := ak A150
        clear A150
        by_cases c16 : t397 = true
        · subst c16
          have H1 : (if t381 = t388 then (if t382 = t389 then (if t391 = t394 then (if t392 = t395 then (if t393 = t396 then ((mummerlaw16_awake.f kj2).bind fun t398 => (some t398)) else (some false)) else (some false)) else (some false)) else (some false)) else (some false)) = some r := by rw [if_pos rfl] at H; exact H
          clear H
          have H := H1
          clear H1
          by_cases c17 : t381 = t388
          · rw [if_pos c17] at H
            have c17b0 : (t381 == t388) = true := beq_iff_eq.mpr c17
            have c17b1 : (t381 != t388) = false := bne_eq_false_iff_eq.mpr c17
            clear c17
            by_cases c18 : t382 = t389
            · rw [if_pos c18] at H
              have c18b0 : (t382 == t389) = true := beq_iff_eq.mpr c18
              have c18b1 : (t382 != t389) = false := bne_eq_false_iff_eq.mpr c18
              clear c18
              by_cases c19 : t391 = t394
              · rw [if_pos c19] at H
                have c19b0 : (t391 == t394) = true := beq_iff_eq.mpr c19
                have c19b1 : (t391 != t394) = false := bne_eq_false_iff_eq.mpr c19
                clear c19
                by_cases c20 : t392 = t395
                · rw [if_pos c20] at H
                  have c20b0 : (t392 == t395) = true := beq_iff_eq.mpr c20
                  have c20b1 : (t392 != t395) = false := bne_eq_false_iff_eq.mpr c20
                  clear c20
                  by_cases c21 : t393 = t396
                  · rw [if_pos c21] at H
                    have c21b0 : (t393 == t396) = true := beq_iff_eq.mpr c21
                    have c21b1 : (t393 != t396) = false := bne_eq_false_iff_eq.mpr c21
                    clear c21
                    replace H := Option.bind_eq_some_iff.mp H
                    obtain ⟨t398, A220, H⟩ := H
                    replace H : (some t398) = some r := H
                    have A22 := ak A220
                    clear A220
                    obtain rfl := Option.some.inj H
                    have hcz23_0 : wc.cell? ⟨gb375, 0, none⟩ = some (.int .i64 a0_0) := (blk_cell BK375.out 0).trans rfl
                    have hcz23_1 : wc.cell? ⟨gb375, 1, none⟩ = some (.slice A0_1 l0_1.length c0_1) := (blk_cell BK375.out 1).trans rfl
                    have hfz23_0 := blk_frozen BK375.out 0
                    have hfz23_1 := blk_frozen BK375.out 1
                    go_wp2_with (first | ((with_reducible refine gate_callee (f := 10) rfl ?_); refine goesL_ (some 30) rfl rfl Try.func10 (by kernel_rfl) rfl #[.agg #[.int .i64 a0_0, .slice A0_1 l0_1.length c0_1], .slice A1 l1.length c1] rfl (by (try simp only [List.map_toArray, List.map_cons, List.map_nil]); first | done | rfl | (simp only [List.length_drop, List.length_take]; rfl)) ?_; (with_reducible refine (fuel_Run.calls kj2 a0_0 (fun k_ => k_ < w.heap.size) _ _ l0_1 _ _ l1 t377 t378 t381 t382 _ ?side1 ?side2 ?side3 A11.out).mono ?_); (case side1 => exact Kd.V_mk HC0_1.out (Kd.F_below (Kd.C_F (Kd.heap_int .i64) HR0_1.out) (by repeat (first | (with_reducible first | exact HB.out | apply wA | apply wN | apply wD | refine below_set ?_ GE375.out) | exact HB.out)))); (case side2 => repeat (first | exact (Kd.C_below HR1.out HB.out) | (with_reducible refine Kd.C_alloc ?_ _) | (with_reducible refine Kd.C_drewN ?_ _) | (with_reducible refine Kd.C_drew ?_))); (case side3 => exact HC1.out); rintro e w24 ⟨v379, rfl, ho0, hb⟩; refine ⟨_, rfl, ?_⟩; have n0_ := ak (Kd.V_lower (Kd.V_mono (ok' := fun k_ => k_ ≠ gb375) ho0 (fun k_ hk_ => Or.elim hk_ (fun hs_ => fun e_ => Nat.not_le.2 hs_ (by rw [e_]; exact GW375.out)) (fun hn_ => (Kd.freshB (g := gb375) (o := .cells #[.int .i64 a0_0, .slice A0_1 l0_1.length c0_1] 24 (0, 0)) (by (with_reducible repeat (first | refine bN ?_ _ | refine bD ?_ | refine bA ?_ _)); exact BK375.out) k_ hn_)))) (below_size (by repeat (first | (with_reducible first | exact HB.out | apply wA | apply wN | apply wD | refine below_set ?_ GE375.out) | exact HB.out)))); have n1_ := ak (blk_below (g := gb375) (o := .cells #[.int .i64 a0_0, .slice A0_1 l0_1.length c0_1] 24 (0, 0)) (by (with_reducible repeat (first | refine bN ?_ _ | refine bD ?_ | refine bA ?_ _)); exact BK375.out) hb); have n2_ := ak (below_step (by repeat (first | (with_reducible first | exact HB.out | apply wA | apply wN | apply wD | refine below_set ?_ GE375.out) | exact HB.out)) hb); clear BK375; clear HB; have HO380 := n0_; have BK375 := n1_; have HB := n2_; clear n0_ n1_ n2_; (try clear hb); (try clear hb2); (try clear hk); (try clear hi); (try clear ho0)) | ((with_reducible refine gate_dst (N := 5) rfl ?_); (try (refine gate_guard (by rfl) ?_; dsimp only)); refine box_event ?hg (N := 5) ?hd (cs := #[.int .i64 0, .slice none 0 0]) (t := 24) ?hr ?_; (case hd => rfl); (case hg => rfl); (case hr => first | (go_simp; done) | (go_simp; rfl)); intro gb383 hg w25 hbox hb; have n0_ := ak (Kd.V_below (Kd.V_elderB (by (with_reducible repeat (first | apply vA | apply vN | apply vD)); exact HO380.out) gb383 (Nat.le_of_eq hg.symm)) hb); have n1_ := ak (blk_below (g := gb375) (o := .cells #[.int .i64 a0_0, .slice A0_1 l0_1.length c0_1] 24 (0, 0)) (by (with_reducible repeat (first | refine bN ?_ _ | refine bD ?_ | refine bA ?_ _)); exact BK375.out) hb); have n2_ := ak (below_step (by repeat (first | (with_reducible first | exact HB.out | apply wA | apply wN | apply wD | refine below_set ?_ GE375.out) | exact HB.out)) hb); have n3_ := ak (hbox); have n4_ := ak ((by rw [hg]; exact (below_size (by repeat (first | (with_reducible first | exact HB.out | apply wA | apply wN | apply wD | refine below_set ?_ GE375.out) | exact HB.out))) : w.heap.size ≤ gb383)); have n5_ := ak ((by rw [hg]; exact (below_size (by repeat (first | (with_reducible first | exact HB.out | apply wA | apply wN | apply wD | refine below_set ?_ GE375.out) | exact HB.out))) : w.heap.size ≤ gb383)); have n6_ := ak ((by rw [hg]; exact Nat.ne_of_lt (blk_lt (g := gb375) (o := .cells #[.int .i64 a0_0, .slice A0_1 l0_1.length c0_1] 24 (0, 0)) (by (with_reducible repeat (first | refine bN ?_ _ | refine bD ?_ | refine bA ?_ _)); exact BK375.out)) : gb375 ≠ gb383)); have n7_ := ak ((by rw [hg]; exact Nat.ne_of_gt (blk_lt (g := gb375) (o := .cells #[.int .i64 a0_0, .slice A0_1 l0_1.length c0_1] 24 (0, 0)) (by (with_reducible repeat (first | refine bN ?_ _ | refine bD ?_ | refine bA ?_ _)); exact BK375.out)) : gb383 ≠ gb375)); clear HO380; clear BK375; clear HB; have HO380 := n0_; have BK375 := n1_; have HB := n2_; have BK383 := n3_; have GW383 := n4_; have GE383 := n5_; have NB375_383 := n6_; have NB383_375 := n7_; clear n0_ n1_ n2_ n3_ n4_ n5_ n6_ n7_; clear hb hbox hg; have hnb26 := NB383_375.out; have hnc26 := NB375_383.out; have hcz27_0 : w25.cell? ⟨gb383, 0, none⟩ = some (.int .i64 0) := (blk_cell BK383.out 0).trans rfl; have hcz27_1 : w25.cell? ⟨gb383, 1, none⟩ = some (.slice none 0 0) := (blk_cell BK383.out 1).trans rfl; have hfz27_0 := blk_frozen BK383.out 0; have hfz27_1 := blk_frozen BK383.out 1; obtain ⟨Ao28, co28, eo28⟩ := Kd.V_slice HO380.out; subst eo28) | ((with_reducible refine gate_store (t := 24) (p := 5) rfl ?_); refine store_event (t := 24) (p := 5) (v := ?vo_w29) (w1 := ((w25.setCell ⟨gb383, 0, none⟩ (.int .i64 t377)).setCell ⟨gb383, 1, none⟩ (.slice Ao28 t378.length co28))) ?hg ?ho ?hn ?hr ?_; (case ho => rfl); (case hg => rfl); (case hn => rfl); (case hr => first | (go_simp; done) | (go_simp; rfl)); intro w29 hw; have n0_ : Aside0 (Kd.V (Kd.int .i64) 2 w29 w.heap.size (fun k_ => k_ ≠ gb375 ∧ k_ ≠ gb383) (.slice Ao28 t378.length co28) t378) := ⟨(by rw [hw]; exact (by (with_reducible repeat (first | apply vA | apply vN | apply vD)); exact Kd.V_mono (Kd.V_far (p := ⟨gb383, 1, none⟩) (Kd.V_far (p := ⟨gb383, 0, none⟩) (Kd.V_mono HO380.out (fun k_ hk => (⟨hk, by first | exact hk.2 | exact hk.2.2 | exact hk.2.1 | omega⟩ : _ ∧ k_ ≠ gb383))) (fun _ hk => hk.2) (.int .i64 t377)) (fun _ hk => hk.2) (.slice Ao28 t378.length co28)) (fun _ hk => by first | exact ⟨hk.1.1, hk.1.2⟩ | (simp only [ne_eq] at hk ⊢; simp [hk]))))⟩; have n1_ : Aside0 (w29.heap[gb375]? = some (.cells #[.int .i64 a0_0, .slice A0_1 l0_1.length c0_1] 24 (0, 0))) := ⟨(by rw [hw]; exact (by (with_reducible repeat (first | refine bN ?_ _ | refine bD ?_ | refine bA ?_ _)); refine blk_far ?_ NB375_383.out _; (with_reducible repeat (first | refine bN ?_ _ | refine bD ?_ | refine bA ?_ _)); refine blk_far ?_ NB375_383.out _; (with_reducible repeat (first | refine bN ?_ _ | refine bD ?_ | refine bA ?_ _)); exact BK375.out))⟩; have n2_ : Aside0 (w29.heap[gb383]? = some (.cells #[.int .i64 t377, .slice Ao28 t378.length co28] 24 (0, 0))) := ⟨(by rw [hw]; exact (by (with_reducible repeat (first | refine bN ?_ _ | refine bD ?_ | refine bA ?_ _)); refine blk_put (cs := #[.int .i64 t377, .slice none 0 0]) ?_ 1 _ rfl; (with_reducible repeat (first | refine bN ?_ _ | refine bD ?_ | refine bA ?_ _)); refine blk_put (cs := #[.int .i64 0, .slice none 0 0]) ?_ 0 _ rfl; (with_reducible repeat (first | refine bN ?_ _ | refine bD ?_ | refine bA ?_ _)); exact BK383.out))⟩; have n3_ : Aside0 (Below w.heap.size w w29) := ⟨(by rw [hw]; exact (by repeat (first | (with_reducible first | exact HB.out | apply wA | apply wN | apply wD | refine below_set ?_ GE375.out | refine below_set ?_ GE383.out) | exact HB.out)))⟩; clear hw; clear HO380; clear BK375; clear BK383; clear HB; have HO380 := n0_; have BK375 := n1_; have BK383 := n2_; have HB := n3_; clear n0_ n1_ n2_ n3_; have hcz30_0 : w29.cell? ⟨gb375, 0, none⟩ = some (.int .i64 a0_0) := (blk_cell BK375.out 0).trans rfl; have hcz30_1 : w29.cell? ⟨gb375, 1, none⟩ = some (.slice A0_1 l0_1.length c0_1) := (blk_cell BK375.out 1).trans rfl; have hfz30_0 := blk_frozen BK375.out 0; have hfz30_1 := blk_frozen BK375.out 1) | ((with_reducible refine gate_callee (f := 11) rfl ?_); refine goesL_ (some 37) rfl rfl Try.func11 (by kernel_rfl) rfl #[.agg #[.int .i64 a0_0, .slice A0_1 l0_1.length c0_1], .slice A1 l1.length c1] rfl (by (try simp only [List.map_toArray, List.map_cons, List.map_nil]); first | done | rfl | (simp only [List.length_drop, List.length_take]; rfl)) ?_; (with_reducible refine (mummerref16_Run.calls kj2 a0_0 (fun k_ => k_ < w.heap.size) _ _ l0_1 _ _ l1 t384 t385 t388 t389 _ ?side1 ?side2 ?side3 A12.out).mono ?_); (case side1 => exact Kd.V_mk HC0_1.out (Kd.F_below (Kd.C_F (Kd.heap_int .i64) HR0_1.out) (by repeat (first | (with_reducible first | exact HB.out | apply wA | apply wN | apply wD | refine below_set ?_ GE375.out | refine below_set ?_ GE383.out) | exact HB.out)))); (case side2 => repeat (first | exact (Kd.C_below HR1.out HB.out) | (with_reducible refine Kd.C_alloc ?_ _) | (with_reducible refine Kd.C_drewN ?_ _) | (with_reducible refine Kd.C_drew ?_))); (case side3 => exact HC1.out); rintro e w31 ⟨v386, rfl, ho0, hb⟩; refine ⟨_, rfl, ?_⟩; have n0_ := ak (Kd.V_below (by (with_reducible repeat (first | apply vA | apply vN | apply vD)); exact HO380.out) hb); have n1_ := ak (Kd.V_lower (Kd.V_mono (ok' := fun k_ => k_ ≠ gb375 ∧ k_ ≠ gb383) ho0 (fun k_ hk_ => ⟨Or.elim hk_ (fun hs_ => fun e_ => Nat.not_le.2 hs_ (by rw [e_]; exact GW375.out)) (fun hn_ => (Kd.freshB (g := gb375) (o := .cells #[.int .i64 a0_0, .slice A0_1 l0_1.length c0_1] 24 (0, 0)) (by (with_reducible repeat (first | refine bN ?_ _ | refine bD ?_ | refine bA ?_ _)); exact BK375.out) k_ hn_)), Or.elim hk_ (fun hs_ => fun e_ => Nat.not_le.2 hs_ (by rw [e_]; exact GW383.out)) (fun hn_ => (Kd.freshB (g := gb383) (o := .cells #[.int .i64 t377, .slice Ao28 t378.length co28] 24 (0, 0)) (by (with_reducible repeat (first | refine bN ?_ _ | refine bD ?_ | refine bA ?_ _)); exact BK383.out) k_ hn_))⟩)) (below_size (by repeat (first | (with_reducible first | exact HB.out | apply wA | apply wN | apply wD | refine below_set ?_ GE375.out | refine below_set ?_ GE383.out) | exact HB.out)))); have n2_ := ak (blk_below (g := gb375) (o := .cells #[.int .i64 a0_0, .slice A0_1 l0_1.length c0_1] 24 (0, 0)) (by (with_reducible repeat (first | refine bN ?_ _ | refine bD ?_ | refine bA ?_ _)); exact BK375.out) hb); have n3_ := ak (blk_below (g := gb383) (o := .cells #[.int .i64 t377, .slice Ao28 t378.length co28] 24 (0, 0)) (by (with_reducible repeat (first | refine bN ?_ _ | refine bD ?_ | refine bA ?_ _)); exact BK383.out) hb); have n4_ := ak (below_step (by repeat (first | (with_reducible first | exact HB.out | apply wA | apply wN | apply wD | refine below_set ?_ GE375.out | refine below_set ?_ GE383.out) | exact HB.out)) hb); clear HO380; clear BK375; clear BK383; clear HB; have HO380 := n0_; have HO387 := n1_; have BK375 := n2_; have BK383 := n3_; have HB := n4_; clear n0_ n1_ n2_ n3_ n4_; (try clear hb); (try clear hb2); (try clear hk); (try clear hi); (try clear ho0)) | ((with_reducible refine gate_dst (N := 8) rfl ?_); (try (refine gate_guard (by rfl) ?_; dsimp only)); refine box_event ?hg (N := 8) ?hd (cs := #[.int .i64 0, .slice none 0 0]) (t := 24) ?hr ?_; (case hd => rfl); (case hg => rfl); (case hr => first | (go_simp; done) | (go_simp; rfl)); intro gb390 hg w32 hbox hb; have n0_ := ak (Kd.V_below (Kd.V_elderB (by (with_reducible repeat (first | apply vA | apply vN | apply vD)); exact HO380.out) gb390 (Nat.le_of_eq hg.symm)) hb); have n1_ := ak (Kd.V_below (Kd.V_elderB (by (with_reducible repeat (first | apply vA | apply vN | apply vD)); exact HO387.out) gb390 (Nat.le_of_eq hg.symm)) hb); have n2_ := ak (blk_below (g := gb375) (o := .cells #[.int .i64 a0_0, .slice A0_1 l0_1.length c0_1] 24 (0, 0)) (by (with_reducible repeat (first | refine bN ?_ _ | refine bD ?_ | refine bA ?_ _)); exact BK375.out) hb); have n3_ := ak (blk_below (g := gb383) (o := .cells #[.int .i64 t377, .slice Ao28 t378.length co28] 24 (0, 0)) (by (with_reducible repeat (first | refine bN ?_ _ | refine bD ?_ | refine bA ?_ _)); exact BK383.out) hb); have n4_ := ak (below_step (by repeat (first | (with_reducible first | exact HB.out | apply wA | apply wN | apply wD | refine below_set ?_ GE375.out | refine below_set ?_ GE383.out) | exact HB.out)) hb); have n5_ := ak (hbox); have n6_ := ak ((by rw [hg]; exact (below_size (by repeat (first | (with_reducible first | exact HB.out | apply wA | apply wN | apply wD | refine below_set ?_ GE375.out | refine below_set ?_ GE383.out) | exact HB.out))) : w.heap.size ≤ gb390)); have n7_ := ak ((by rw [hg]; exact (below_size (by repeat (first | (with_reducible first | exact HB.out | apply wA | apply wN | apply wD | refine below_set ?_ GE375.out | refine below_set ?_ GE383.out) | exact HB.out))) : w.heap.size ≤ gb390)); have n8_ := ak ((by rw [hg]; exact Nat.ne_of_lt (blk_lt (g := gb375) (o := .cells #[.int .i64 a0_0, .slice A0_1 l0_1.length c0_1] 24 (0, 0)) (by (with_reducible repeat (first | refine bN ?_ _ | refine bD ?_ | refine bA ?_ _)); exact BK375.out)) : gb375 ≠ gb390)); have n9_ := ak ((by rw [hg]; exact Nat.ne_of_gt (blk_lt (g := gb375) (o := .cells #[.int .i64 a0_0, .slice A0_1 l0_1.length c0_1] 24 (0, 0)) (by (with_reducible repeat (first | refine bN ?_ _ | refine bD ?_ | refine bA ?_ _)); exact BK375.out)) : gb390 ≠ gb375)); have n10_ := ak ((by rw [hg]; exact Nat.ne_of_lt (blk_lt (g := gb383) (o := .cells #[.int .i64 t377, .slice Ao28 t378.length co28] 24 (0, 0)) (by (with_reducible repeat (first | refine bN ?_ _ | refine bD ?_ | refine bA ?_ _)); exact BK383.out)) : gb383 ≠ gb390)); have n11_ := ak ((by rw [hg]; exact Nat.ne_of_gt (blk_lt (g := gb383) (o := .cells #[.int .i64 t377, .slice Ao28 t378.length co28] 24 (0, 0)) (by (with_reducible repeat (first | refine bN ?_ _ | refine bD ?_ | refine bA ?_ _)); exact BK383.out)) : gb390 ≠ gb383)); clear HO380; clear HO387; clear BK375; clear BK383; clear HB; have HO380 := n0_; have HO387 := n1_; have BK375 := n2_; have BK383 := n3_; have HB := n4_; have BK390 := n5_; have GW390 := n6_; have GE390 := n7_; have NB375_390 := n8_; have NB390_375 := n9_; have NB383_390 := n10_; have NB390_383 := n11_; clear n0_ n1_ n2_ n3_ n4_ n5_ n6_ n7_ n8_ n9_ n10_ n11_; clear hb hbox hg; have hnb33 := NB390_375.out; have hnc33 := NB375_390.out; have hnb34 := NB390_383.out; have hnc34 := NB383_390.out; have hcz35_0 : w32.cell? ⟨gb390, 0, none⟩ = some (.int .i64 0) := (blk_cell BK390.out 0).trans rfl; have hcz35_1 : w32.cell? ⟨gb390, 1, none⟩ = some (.slice none 0 0) := (blk_cell BK390.out 1).trans rfl; have hfz35_0 := blk_frozen BK390.out 0; have hfz35_1 := blk_frozen BK390.out 1; obtain ⟨Ao36, co36, eo36⟩ := Kd.V_slice HO387.out; subst eo36) | ((with_reducible refine gate_callee (f := 12) rfl ?_); refine goesL_ (some 43) rfl rfl Try.func12 (by kernel_rfl) rfl #[.slice A1 l1.length c1] rfl (by (try simp only [List.map_toArray, List.map_cons, List.map_nil]); first | done | rfl | (simp only [List.length_drop, List.length_take]; rfl)) ?_; (with_reducible refine (fuel_Least.calls kj2 _ _ l1 t391 t392 t393 _ ?side1 ?side2 A13.out).mono ?_); (case side1 => exact Kd.C_below HR1.out (by repeat (first | (with_reducible first | exact HB.out | apply wA | apply wN | apply wD | refine below_set ?_ GE375.out | refine below_set ?_ GE383.out | refine below_set ?_ GE390.out) | exact HB.out))); (case side2 => exact HC1.out); rintro e w37 ⟨rfl, hb⟩; refine ⟨_, rfl, ?_⟩; have n0_ := ak (Kd.V_below (by (with_reducible repeat (first | apply vA | apply vN | apply vD)); exact (Kd.V_mono (Kd.V_far (p := ⟨gb390, 1, none⟩) (Kd.V_far (p := ⟨gb390, 0, none⟩) (Kd.V_mono HO380.out (fun k_ hk => (⟨hk, by first | exact hk.2 | exact hk.2.2 | exact hk.2.1 | omega⟩ : _ ∧ k_ ≠ gb390))) (fun _ hk => hk.2) (.int .i64 t384)) (fun _ hk => hk.2) (.slice Ao36 t385.length co36)) (fun _ h_ => h_.1))) hb); have n1_ := ak (Kd.V_below (by (with_reducible repeat (first | apply vA | apply vN | apply vD)); exact (Kd.V_mono (Kd.V_far (p := ⟨gb390, 1, none⟩) (Kd.V_far (p := ⟨gb390, 0, none⟩) (Kd.V_mono HO387.out (fun k_ hk => (⟨hk, by first | exact hk.2 | exact hk.2.2 | exact hk.2.1 | omega⟩ : _ ∧ k_ ≠ gb390))) (fun _ hk => hk.2) (.int .i64 t384)) (fun _ hk => hk.2) (.slice Ao36 t385.length co36)) (fun _ h_ => h_.1))) hb); have n2_ := ak (blk_below (g := gb375) (o := .cells #[.int .i64 a0_0, .slice A0_1 l0_1.length c0_1] 24 (0, 0)) (by (with_reducible repeat (first | refine bN ?_ _ | refine bD ?_ | refine bA ?_ _)); refine blk_far ?_ NB375_390.out _; (with_reducible repeat (first | refine bN ?_ _ | refine bD ?_ | refine bA ?_ _)); refine blk_far ?_ NB375_390.out _; (with_reducible repeat (first | refine bN ?_ _ | refine bD ?_ | refine bA ?_ _)); exact BK375.out) hb); have n3_ := ak (blk_below (g := gb383) (o := .cells #[.int .i64 t377, .slice Ao28 t378.length co28] 24 (0, 0)) (by (with_reducible repeat (first | refine bN ?_ _ | refine bD ?_ | refine bA ?_ _)); refine blk_far ?_ NB383_390.out _; (with_reducible repeat (first | refine bN ?_ _ | refine bD ?_ | refine bA ?_ _)); refine blk_far ?_ NB383_390.out _; (with_reducible repeat (first | refine bN ?_ _ | refine bD ?_ | refine bA ?_ _)); exact BK383.out) hb); have n4_ := ak (blk_below (g := gb390) (o := .cells #[.int .i64 t384, .slice Ao36 t385.length co36] 24 (0, 0)) (by (with_reducible repeat (first | refine bN ?_ _ | refine bD ?_ | refine bA ?_ _)); refine blk_put (cs := #[.int .i64 t384, .slice none 0 0]) ?_ 1 _ rfl; (with_reducible repeat (first | refine bN ?_ _ | refine bD ?_ | refine bA ?_ _)); refine blk_put (cs := #[.int .i64 0, .slice none 0 0]) ?_ 0 _ rfl; (with_reducible repeat (first | refine bN ?_ _ | refine bD ?_ | refine bA ?_ _)); exact BK390.out) hb); have n5_ := ak (below_step (by repeat (first | (with_reducible first | exact HB.out | apply wA | apply wN | apply wD | refine below_set ?_ GE375.out | refine below_set ?_ GE383.out | refine below_set ?_ GE390.out) | exact HB.out)) hb); clear HO380; clear HO387; clear BK375; clear BK383; clear BK390; clear HB; have HO380 := n0_; have HO387 := n1_; have BK375 := n2_; have BK383 := n3_; have BK390 := n4_; have HB := n5_; clear n0_ n1_ n2_ n3_ n4_ n5_; (try clear hb); (try clear hb2); (try clear hk); (try clear hi)) | ((with_reducible refine gate_callee (f := 13) rfl ?_); refine goesL_ (some 49) rfl rfl Try.func13 (by kernel_rfl) rfl #[.slice A1 l1.length c1] rfl (by (try simp only [List.map_toArray, List.map_cons, List.map_nil]); first | done | rfl | (simp only [List.length_drop, List.length_take]; rfl)) ?_; (with_reducible refine (mummerref16_Least.calls kj2 _ _ l1 t394 t395 t396 _ ?side1 ?side2 A14.out).mono ?_); (case side1 => repeat (first | exact (Kd.C_below HR1.out HB.out) | (with_reducible refine Kd.C_alloc ?_ _) | (with_reducible refine Kd.C_drewN ?_ _) | (with_reducible refine Kd.C_drew ?_))); (case side2 => exact HC1.out); rintro e w38 ⟨rfl, hb⟩; refine ⟨_, rfl, ?_⟩; have n0_ := ak (Kd.V_below (by (with_reducible repeat (first | apply vA | apply vN | apply vD)); exact HO380.out) hb); have n1_ := ak (Kd.V_below (by (with_reducible repeat (first | apply vA | apply vN | apply vD)); exact HO387.out) hb); have n2_ := ak (blk_below (g := gb375) (o := .cells #[.int .i64 a0_0, .slice A0_1 l0_1.length c0_1] 24 (0, 0)) (by (with_reducible repeat (first | refine bN ?_ _ | refine bD ?_ | refine bA ?_ _)); exact BK375.out) hb); have n3_ := ak (blk_below (g := gb383) (o := .cells #[.int .i64 t377, .slice Ao28 t378.length co28] 24 (0, 0)) (by (with_reducible repeat (first | refine bN ?_ _ | refine bD ?_ | refine bA ?_ _)); exact BK383.out) hb); have n4_ := ak (blk_below (g := gb390) (o := .cells #[.int .i64 t384, .slice Ao36 t385.length co36] 24 (0, 0)) (by (with_reducible repeat (first | refine bN ?_ _ | refine bD ?_ | refine bA ?_ _)); exact BK390.out) hb); have n5_ := ak (below_step (by repeat (first | (with_reducible first | exact HB.out | apply wA | apply wN | apply wD | refine below_set ?_ GE375.out | refine below_set ?_ GE383.out | refine below_set ?_ GE390.out) | exact HB.out)) hb); clear HO380; clear HO387; clear BK375; clear BK383; clear BK390; clear HB; have HO380 := n0_; have HO387 := n1_; have BK375 := n2_; have BK383 := n3_; have BK390 := n4_; have HB := n5_; clear n0_ n1_ n2_ n3_ n4_ n5_; (try clear hb); (try clear hb2); (try clear hk); (try clear hi); have hcz39_0 : w38.cell? ⟨gb383, 0, none⟩ = some (.int .i64 t377) := (blk_cell BK383.out 0).trans rfl; have hcz39_1 : w38.cell? ⟨gb383, 1, none⟩ = some (.slice Ao28 t378.length co28) := (blk_cell BK383.out 1).trans rfl; have hfz39_0 := blk_frozen BK383.out 0; have hfz39_1 := blk_frozen BK383.out 1; have hcz40_0 : w38.cell? ⟨gb390, 0, none⟩ = some (.int .i64 t384) := (blk_cell BK390.out 0).trans rfl; have hcz40_1 : w38.cell? ⟨gb390, 1, none⟩ = some (.slice Ao36 t385.length co36) := (blk_cell BK390.out 1).trans rfl; have hfz40_0 := blk_frozen BK390.out 0; have hfz40_1 := blk_frozen BK390.out 1) | ((with_reducible refine gate_callee (f := 14) rfl ?_); refine goesL_ (some 55) rfl rfl Try.func14 (by kernel_rfl) rfl #[.agg #[.int .i64 t377, .slice Ao28 t378.length co28], .agg #[.int .i64 t384, .slice Ao36 t385.length co36]] rfl (by (try simp only [List.map_toArray, List.map_cons, List.map_nil]); first | done | rfl | (simp only [List.length_drop, List.length_take]; rfl)) ?_; (with_reducible refine (mummerref16_Same.calls kj2 t377 _ _ t378 t384 _ _ t385 true _ ?side1 ?side2 ?side3 ?side4 A15.out).mono ?_); (case side1 => repeat (first | exact (Kd.V_reads' HO380.out).2.2 | (with_reducible refine Kd.C_alloc ?_ _) | (with_reducible refine Kd.C_drewN ?_ _) | (with_reducible refine Kd.C_drew ?_))); (case side2 => exact (Kd.V_reads' HO380.out).2.1); (case side3 => repeat (first | exact (Kd.V_reads' HO387.out).2.2 | (with_reducible refine Kd.C_alloc ?_ _) | (with_reducible refine Kd.C_drewN ?_ _) | (with_reducible refine Kd.C_drew ?_))); (case side4 => exact (Kd.V_reads' HO387.out).2.1); rintro e w41 ⟨rfl, hb⟩; refine ⟨_, rfl, ?_⟩; have n0_ := ak (Kd.V_below (by (with_reducible repeat (first | apply vA | apply vN | apply vD)); exact HO380.out) hb); have n1_ := ak (Kd.V_below (by (with_reducible repeat (first | apply vA | apply vN | apply vD)); exact HO387.out) hb); have n2_ := ak (blk_below (g := gb375) (o := .cells #[.int .i64 a0_0, .slice A0_1 l0_1.length c0_1] 24 (0, 0)) (by (with_reducible repeat (first | refine bN ?_ _ | refine bD ?_ | refine bA ?_ _)); exact BK375.out) hb); have n3_ := ak (blk_below (g := gb383) (o := .cells #[.int .i64 t377, .slice Ao28 t378.length co28] 24 (0, 0)) (by (with_reducible repeat (first | refine bN ?_ _ | refine bD ?_ | refine bA ?_ _)); exact BK383.out) hb); have n4_ := ak (blk_below (g := gb390) (o := .cells #[.int .i64 t384, .slice Ao36 t385.length co36] 24 (0, 0)) (by (with_reducible repeat (first | refine bN ?_ _ | refine bD ?_ | refine bA ?_ _)); exact BK390.out) hb); have n5_ := ak (below_step (by repeat (first | (with_reducible first | exact HB.out | apply wA | apply wN | apply wD | refine below_set ?_ GE375.out | refine below_set ?_ GE383.out | refine below_set ?_ GE390.out) | exact HB.out)) hb); clear HO380; clear HO387; clear BK375; clear BK383; clear BK390; clear HB; have HO380 := n0_; have HO387 := n1_; have BK375 := n2_; have BK383 := n3_; have BK390 := n4_; have HB := n5_; clear n0_ n1_ n2_ n3_ n4_ n5_; (try clear hb); (try clear hb2); (try clear hk); (try clear hi)) | (go_at_call 9; (with_reducible refine (mummerlaw16_awake.calls kj2  t398 _ hrt A22.out).mono ?_); rintro e w42 ⟨rfl, hb⟩; have n0_ := ak (Kd.V_below (by (with_reducible repeat (first | apply vA | apply vN | apply vD)); exact HO380.out) hb); have n1_ := ak (Kd.V_below (by (with_reducible repeat (first | apply vA | apply vN | apply vD)); exact HO387.out) hb); have n2_ := ak (blk_below (g := gb375) (o := .cells #[.int .i64 a0_0, .slice A0_1 l0_1.length c0_1] 24 (0, 0)) (by (with_reducible repeat (first | refine bN ?_ _ | refine bD ?_ | refine bA ?_ _)); exact BK375.out) hb); have n3_ := ak (blk_below (g := gb383) (o := .cells #[.int .i64 t377, .slice Ao28 t378.length co28] 24 (0, 0)) (by (with_reducible repeat (first | refine bN ?_ _ | refine bD ?_ | refine bA ?_ _)); exact BK383.out) hb); have n4_ := ak (blk_below (g := gb390) (o := .cells #[.int .i64 t384, .slice Ao36 t385.length co36] 24 (0, 0)) (by (with_reducible repeat (first | refine bN ?_ _ | refine bD ?_ | refine bA ?_ _)); exact BK390.out) hb); have n5_ := ak (below_step (by repeat (first | (with_reducible first | exact HB.out | apply wA | apply wN | apply wD | refine below_set ?_ GE375.out | refine below_set ?_ GE383.out | refine below_set ?_ GE390.out) | exact HB.out)) hb); clear HO380; clear HO387; clear BK375; clear BK383; clear BK390; clear HB; have HO380 := n0_; have HO387 := n1_; have BK375 := n2_; have BK383 := n3_; have BK390 := n4_; have HB := n5_; clear n0_ n1_ n2_ n3_ n4_ n5_; (try clear hb); (try clear hb2); (try clear hk); (try clear hi)))
                    go_ret
                    exact ⟨by first | rfl | (simp [errW_none, errW_some] <;> rfl) | (simp [*, errW_none, errW_some] <;> rfl), by repeat (first | (with_reducible first | exact HB.out | apply wA | apply wN | apply wD | refine below_set ?_ GE375.out | refine below_set ?_ GE383.out | refine below_set ?_ GE390.out) | exact HB.out)⟩
                  · rw [if_neg c21] at H
                    have c21b0 : (t393 == t396) = false := beq_eq_false_iff_ne.mpr c21
                    have c21b1 : (t393 != t396) = true := bne_iff_ne.mpr c21
                    exact absurd ((Option.some.inj H).trans hrt.out) (by decide)
                · rw [if_neg c20] at H
                  have c20b0 : (t392 == t395) = false := beq_eq_false_iff_ne.mpr c20
                  have c20b1 : (t392 != t395) = true := bne_iff_ne.mpr c20
                  exact absurd ((Option.some.inj H).trans hrt.out) (by decide)
              · rw [if_neg c19] at H
                have c19b0 : (t391 == t394) = false := beq_eq_false_iff_ne.mpr c19
                have c19b1 : (t391 != t394) = true := bne_iff_ne.mpr c19
                exact absurd ((Option.some.inj H).trans hrt.out) (by decide)
            · rw [if_neg c18] at H
              have c18b0 : (t382 == t389) = false := beq_eq_false_iff_ne.mpr c18
              have c18b1 : (t382 != t389) = true := bne_iff_ne.mpr c18
              exact absurd ((Option.some.inj H).trans hrt.out) (by decide)
          · rw [if_neg c17] at H
            have c17b0 : (t381 == t388) = false := beq_eq_false_iff_ne.mpr c17
            have c17b1 : (t381 != t388) = true := bne_iff_ne.mpr c17
            exact absurd ((Option.some.inj H).trans hrt.out) (by decide)
        · replace c16 := Bool.eq_false_iff.mpr c16
          subst c16
          have H1 : (some false) = some r := by rw [if_neg (show ¬ (false = true) by decide)] at H; exact H
          clear H
          have H := H1
          clear H1
          exact absurd ((Option.some.inj H).trans hrt.out) (by decide)

end Go.Proofs.Ytpophcogdekgkaa.P
