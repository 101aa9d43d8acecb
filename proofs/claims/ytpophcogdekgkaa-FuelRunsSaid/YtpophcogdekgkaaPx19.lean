-- Written by wip/tools/myprint.py of this session over the kit's print; Lean checks it.
import Derived.Test.YtpophcogdekgkaaPx0
import Derived.Test.YtpophcogdekgkaaPx13
import Derived.Test.YtpophcogdekgkaaPx18
namespace Go.Proofs.Ytpophcogdekgkaa.P
open Go.RowKit Go.Proofs.YtpophcogdekgkaaW.PrintWords Go.Proofs.YtpophcogdekgkaaW.PrintLast Go.Proofs.YtpophcogdekgkaaW.PrintMore
attribute [local go_sem] max2_int min2_int max_two min_two max_three min_three max_four min_four   -- for this text's walks alone
set_option linter.unusedVariables false
set_option linter.unusedSimpArgs false

/-! ### mummerref16_Run: function 11 -/
def mummerref16_Run.l0 : Nat → List (S46) → Int → Int → List Int → Option (Int × List Int × Int × Int)
  | 0, _, _, _, _ => none
  | k + 1, x1, x8, x331000, x331001 => if x8 < (x1.length : Int) then (if 0 ≤ x8 then ((mummerref16_Step.f k x331000 x331001 ((rd_T46 x1 x8).f0) ((rd_T46 x1 x8).f1)).bind fun bt334 => (if bt334.2.2 = 0 then (mummerref16_Run.l0 k x1 (wrap64 (x8 + 1)) bt334.1 bt334.2.1) else (some (x331000, x331001, x8, bt334.2.2)))) else (none)) else (some (x331000, x331001, (x1.length : Int), 0))
def mummerref16_Run.f (k : Nat) (a0_0 : Int) (l0_1 : List Int) (l1 : List (S46)) : Option (Int × List Int × Int × Int) := (mummerref16_Check.f k a0_0 l0_1).bind fun t332 => (if t332 = 0 then (mummerref16_Run.l0 k l1 0 a0_0 l0_1) else (some (a0_0, l0_1, 0, t332)))
theorem mummerref16_Run.mono_l : ∀ k, (∀ y0 y1 y2 y3, LeO (mummerref16_Run.l0 k y0 y1 y2 y3) (mummerref16_Run.l0 (k + 1) y0 y1 y2 y3))
  | 0 => fun _ _ _ _ r h => by simp [mummerref16_Run.l0] at h
  | k + 1 => by
    have ih0 := mummerref16_Run.mono_l k
    · intro y0 y1 y2 y3
      unfold mummerref16_Run.l0
      repeat' first
      | (with_reducible exact ih0 _ _ _ _)
      | (with_reducible exact mummerref16_Check.mono _ _ _)
      | (with_reducible exact mummerref16_Step.mono _ _ _ _ _)
      | (with_reducible exact LeO.refl _)
      | (with_reducible exact LeO.none _)
      | (with_reducible refine LeO.ite ?_ ?_)
      | (with_reducible refine LeO.bind ?_ (fun _ => ?_))
      | exact ih0 _ _ _ _
      | exact mummerref16_Check.mono _ _ _
      | exact mummerref16_Step.mono _ _ _ _ _
      | exact LeO.none _
      | refine LeO.ite ?_ ?_
      | refine LeO.bind ?_ (fun _ => ?_)
theorem mummerref16_Run.mono : ∀ a0 a1 a2 k, LeO (mummerref16_Run.f k a0 a1 a2) (mummerref16_Run.f (k + 1) a0 a1 a2) := by
  intro a0 a1 a2 k
  have ih0 := mummerref16_Run.mono_l k
  unfold mummerref16_Run.f
  repeat' first
      | (with_reducible exact ih0 _ _ _ _)
      | (with_reducible exact mummerref16_Check.mono _ _ _)
      | (with_reducible exact mummerref16_Step.mono _ _ _ _ _)
      | (with_reducible exact LeO.refl _)
      | (with_reducible exact LeO.none _)
      | (with_reducible refine LeO.ite ?_ ?_)
      | (with_reducible refine LeO.bind ?_ (fun _ => ?_))
      | exact ih0 _ _ _ _
      | exact mummerref16_Check.mono _ _ _
      | exact mummerref16_Step.mono _ _ _ _ _
      | exact LeO.none _
      | refine LeO.ite ?_ ?_
      | refine LeO.bind ?_ (fun _ => ?_)
def mummerref16_Run.T7 : Bool × List (List Nat × List Nat) := (true, [([], []), ([], []), ([], []), ([1, 2], [1, 2]), ([3], [3]), ([0, 4], [0, 4]), ([5], [5]), ([6], [6]), ([6], [6]), ([], []), ([9, 7, 5, 0, 1, 2, 3, 4, 5, 6, 7, 9], [7, 9]), ([8, 10, 0, 1, 2, 3, 4, 5, 6, 7, 8, 9, 10], [8])])
def mummerref16_Run.B7 : List Nat := [0, 0, 0, 6, 14, 31, 63, 127, 127, 0, 767, 2047]
theorem mummerref16_Run.tab7 : rtab .any (opsOf Try.f11 7) = mummerref16_Run.T7 := by kernel_rfl
theorem mummerref16_Run.bits7 : waitsOk mummerref16_Run.T7.2 mummerref16_Run.B7 = true := by kernel_rfl
set_option maxHeartbeats 8000000 in
set_option maxRecDepth 100000 in
theorem mummerref16_Run.calls (k : Nat) (a0_0 : Int) (P0_1_ : Nat → Prop) (A0_1 : Option Addr) (c0_1 : Nat) (l0_1 : List Int) (A1 : Option Addr) (c1 : Nat) (l1 : List (S46)) (r1 : Int) (r2 : List Int) (r3 : Int) (r4 : Int) (w : World) (hs0_1 : Kd.V (Kd.int .i64) 2 w w.heap.size (fun k_ => P0_1_ k_) (.slice A0_1 l0_1.length c0_1) l0_1) (hr1 : Kd.C k46 w A1 l1.length l1) (hc1 : l1.length ≤ c1) (h : mummerref16_Run.f k a0_0 l0_1 l1 = some (r1, r2, r3, r4)) :
    Calls Try.prog 11 #[.agg #[.int .i64 a0_0, .slice A0_1 l0_1.length c0_1], .slice A1 l1.length c1] w fun e w' => ∃ v1_ : Value, e = .returned (.tuple #[.agg #[.int .i64 r1, v1_], .int .i64 r3, .int .i64 r4]) ∧ Kd.V (Kd.int .i64) 2 w' w.heap.size (fun k_ => (P0_1_ k_ ∨ w.heap.size ≤ k_)) v1_ r2 ∧ Below w.heap.size w w' := by
  have hu24 := Try.underlying24
  have hu46 := Try.underlying46
  have HO0_1 := ak (show Kd.V (Kd.int .i64) 2 w w.heap.size (fun k_ => (P0_1_ k_ ∨ w.heap.size ≤ k_)) (.slice A0_1 l0_1.length c0_1) l0_1 from Kd.V_mono hs0_1 (fun k_ hk => .inl hk))
  have HR1 := ak hr1
  have HC1 := ak hc1
  clear hr1 hc1
  have HB := ak (Below.refl w.heap.size w)
  have H : ((mummerref16_Check.f k a0_0 l0_1).bind fun t332 => (if t332 = 0 then (mummerref16_Run.l0 k l1 0 a0_0 l0_1) else (some (a0_0, l0_1, 0, t332)))) = some (r1, r2, r3, r4) := h
  clear h
  replace H := Option.bind_eq_some_iff.mp H
  obtain ⟨t332, A30, H⟩ := H
  replace H : (if t332 = 0 then (mummerref16_Run.l0 k l1 0 a0_0 l0_1) else (some (a0_0, l0_1, 0, t332))) = some (r1, r2, r3, r4) := H
  have A3 := ak A30
  clear A30
  by_cases c4 : t332 = 0
  · rw [if_pos c4] at H
    have c4b0 : (t332 == 0) = true := beq_iff_eq.mpr c4
    have c4b1 : (t332 != 0) = false := bne_eq_false_iff_eq.mpr c4
    clear c4
    have H' := ak H
    clear H
    go_enter Try.func11, Try.ntmps11
    go_wp2_with (first | ((with_reducible refine gate_dst (N := 2) rfl ?_); refine box_event ?hg (N := 2) ?hd (cs := #[.int .i64 a0_0, .slice A0_1 l0_1.length c0_1]) (t := 24) ?hr ?_; (case hd => rfl); (case hg => rfl); (case hr => first | (go_simp; done) | (go_simp; rfl)); intro gb330 hg w5 hbox hb; have n0_ := ak (Kd.V_below (Kd.V_elderB (by (with_reducible repeat (first | apply vA | apply vN | apply vD)); exact HO0_1.out) gb330 (Nat.le_of_eq hg.symm)) hb); have n1_ := ak (below_step (by repeat (first | (with_reducible first | exact HB.out | apply wA | apply wN | apply wD) | exact HB.out)) hb); have n2_ := ak (hbox); have n3_ := ak ((by rw [hg]; exact (below_size (by repeat (first | (with_reducible first | exact HB.out | apply wA | apply wN | apply wD) | exact HB.out))) : w.heap.size ≤ gb330)); have n4_ := ak ((by rw [hg]; exact (below_size (by repeat (first | (with_reducible first | exact HB.out | apply wA | apply wN | apply wD) | exact HB.out))) : w.heap.size ≤ gb330)); clear HO0_1; clear HB; have HO0_1 := n0_; have HB := n1_; have BK330 := n2_; have GW330 := n3_; have GE330 := n4_; clear n0_ n1_ n2_ n3_ n4_; clear hb hbox hg) | ((with_reducible refine gate_dst (N := 4) rfl ?_); refine box_event ?hg (N := 4) ?hd (cs := #[.int .i64 0, .slice none 0 0]) (t := 24) ?hr ?_; (case hd => rfl); (case hg => rfl); (case hr => first | (go_simp; done) | (go_simp; rfl)); intro gb331 hg w6 hbox hb; have n0_ := ak (Kd.V_below (Kd.V_elderB (by (with_reducible repeat (first | apply vA | apply vN | apply vD)); exact HO0_1.out) gb331 (Nat.le_of_eq hg.symm)) hb); have n1_ := ak (blk_below (g := gb330) (o := .cells #[.int .i64 a0_0, .slice A0_1 l0_1.length c0_1] 24 (0, 0)) (by (with_reducible repeat (first | refine bN ?_ _ | refine bD ?_ | refine bA ?_ _)); exact BK330.out) hb); have n2_ := ak (below_step (by repeat (first | (with_reducible first | exact HB.out | apply wA | apply wN | apply wD | refine below_set ?_ GE330.out) | exact HB.out)) hb); have n3_ := ak (hbox); have n4_ := ak ((by rw [hg]; exact (below_size (by repeat (first | (with_reducible first | exact HB.out | apply wA | apply wN | apply wD | refine below_set ?_ GE330.out) | exact HB.out))) : w.heap.size ≤ gb331)); have n5_ := ak ((by rw [hg]; exact (below_size (by repeat (first | (with_reducible first | exact HB.out | apply wA | apply wN | apply wD | refine below_set ?_ GE330.out) | exact HB.out))) : w.heap.size ≤ gb331)); have n6_ := ak ((by rw [hg]; exact Nat.ne_of_lt (blk_lt (g := gb330) (o := .cells #[.int .i64 a0_0, .slice A0_1 l0_1.length c0_1] 24 (0, 0)) (by (with_reducible repeat (first | refine bN ?_ _ | refine bD ?_ | refine bA ?_ _)); exact BK330.out)) : gb330 ≠ gb331)); have n7_ := ak ((by rw [hg]; exact Nat.ne_of_gt (blk_lt (g := gb330) (o := .cells #[.int .i64 a0_0, .slice A0_1 l0_1.length c0_1] 24 (0, 0)) (by (with_reducible repeat (first | refine bN ?_ _ | refine bD ?_ | refine bA ?_ _)); exact BK330.out)) : gb331 ≠ gb330)); clear HO0_1; clear BK330; clear HB; have HO0_1 := n0_; have BK330 := n1_; have HB := n2_; have BK331 := n3_; have GW331 := n4_; have GE331 := n5_; have NB330_331 := n6_; have NB331_330 := n7_; clear n0_ n1_ n2_ n3_ n4_ n5_ n6_ n7_; clear hb hbox hg; have hnb7 := NB330_331.out; have hnc7 := NB331_330.out; have hcz8_0 : w6.cell? ⟨gb330, 0, none⟩ = some (.int .i64 a0_0) := (blk_cell BK330.out 0).trans rfl; have hcz8_1 : w6.cell? ⟨gb330, 1, none⟩ = some (.slice A0_1 l0_1.length c0_1) := (blk_cell BK330.out 1).trans rfl; have hfz8_0 := blk_frozen BK330.out 0; have hfz8_1 := blk_frozen BK330.out 1) | ((with_reducible refine gate_callee (f := 22) rfl ?_); refine goesL_ (some 12) rfl rfl Try.func22 (by kernel_rfl) rfl #[.agg #[.int .i64 a0_0, .slice A0_1 l0_1.length c0_1]] rfl (by (try simp only [List.map_toArray, List.map_cons, List.map_nil]); first | done | rfl | (simp only [List.length_drop, List.length_take]; rfl)) ?_; (with_reducible refine (mummerref16_Check.calls k a0_0 _ _ l0_1 t332 _ ?side1 ?side2 A3.out).mono ?_); (case side1 => repeat (first | exact (Kd.V_reads' HO0_1.out).2.2 | (with_reducible refine Kd.C_alloc ?_ _) | (with_reducible refine Kd.C_drewN ?_ _) | (with_reducible refine Kd.C_drew ?_))); (case side2 => exact (Kd.V_reads' HO0_1.out).2.1); rintro e w9 ⟨rfl, hb⟩; refine ⟨_, rfl, ?_⟩; have n0_ := ak (Kd.V_below (by (with_reducible repeat (first | apply vA | apply vN | apply vD)); exact HO0_1.out) hb); have n1_ := ak (blk_below (g := gb330) (o := .cells #[.int .i64 a0_0, .slice A0_1 l0_1.length c0_1] 24 (0, 0)) (by (with_reducible repeat (first | refine bN ?_ _ | refine bD ?_ | refine bA ?_ _)); exact BK330.out) hb); have n2_ := ak (blk_below (g := gb331) (o := .cells #[.int .i64 0, .slice none 0 0] 24 (0, 0)) (by (with_reducible repeat (first | refine bN ?_ _ | refine bD ?_ | refine bA ?_ _)); exact BK331.out) hb); have n3_ := ak (below_step (by repeat (first | (with_reducible first | exact HB.out | apply wA | apply wN | apply wD | refine below_set ?_ GE330.out | refine below_set ?_ GE331.out) | exact HB.out)) hb); clear HO0_1; clear BK330; clear BK331; clear HB; have HO0_1 := n0_; have BK330 := n1_; have BK331 := n2_; have HB := n3_; clear n0_ n1_ n2_ n3_; (try clear hb); (try clear hb2); (try clear hk); (try clear hi)))
    go_loopg [8] k (fun kq v8 w' => ∃ (x8_1 : Int) (x331000_1 : Int) (x331001_1 : List Int) (x332000_1 : Int) (u331001 : Value), v8 = .int .i64 x8_1 ∧ Aside0 (mummerref16_Run.l0 kq l1 x8_1 x331000_1 x331001_1 = some (r1, r2, r3, r4)) ∧ Aside0 (kq ≤ k) ∧ Aside0 (Kd.V (Kd.int .i64) 2 w' w.heap.size (fun k_ => (P0_1_ k_ ∨ w.heap.size ≤ k_) ∧ k_ ≠ gb330 ∧ k_ ≠ gb331) u331001 x331001_1) ∧ Aside0 (w'.heap[gb330]? = some (.cells #[.int .i64 x331000_1, u331001] 24 (0, 0))) ∧ Aside0 (w'.heap[gb331]? = some (.cells #[.int .i64 x332000_1, (.slice none 0 0)] 24 (0, 0))) ∧ Aside0 (Below w.heap.size w w'))
    case atStart => exact ⟨(0), (a0_0), (l0_1), (0), (.slice A0_1 l0_1.length c0_1), (by first | rfl | (simp; done) | (simp [*]; done)), H', ⟨Nat.le_refl _⟩, ⟨by (with_reducible repeat (first | apply vA | apply vN | apply vD)); exact Kd.V_mono HO0_1.out (fun _ hk => by first | exact ⟨hk.1.1, ⟨hk.1.2, hk.2⟩⟩ | (simp only [ne_eq] at hk ⊢; simp [hk]))⟩, ⟨by (with_reducible repeat (first | refine bN ?_ _ | refine bD ?_ | refine bA ?_ _)); exact BK330.out⟩, ⟨by (with_reducible repeat (first | refine bN ?_ _ | refine bD ?_ | refine bA ?_ _)); exact BK331.out⟩, ⟨by repeat (first | (with_reducible first | exact HB.out | apply wA | apply wN | apply wD | refine below_set ?_ GE330.out | refine below_set ?_ GE331.out) | exact HB.out)⟩⟩
    case round =>
      clear H'
      try clear c1
      try clear c2
      try clear p2
      try clear c4
      try clear c4b0
      try clear c4b1
      try clear c7
      try clear hcz8_0
      try clear hcz8_1
      try clear hfz8_0
      try clear hfz8_1
      obtain ⟨x8_1, x331000_1, x331001_1, x332000_1, u331001, rfl, HA, HK1, HO_331001, BK330, BK331, HB⟩ := hrel
      cases gk with
      | zero => exact absurd HA.out (by simp [mummerref16_Run.l0])
      | succ k1 =>
        have H := HA.out
        clear HA
        simp only [mummerref16_Run.l0] at H
        by_cases c10 : x8_1 < (l1.length : Int)
        · rw [if_pos c10] at H
          have c10b0 : decide (x8_1 < (l1.length : Int)) = true := decide_eq_true c10
          clear c10
          by_cases c11 : 0 ≤ x8_1
          · rw [if_pos c11] at H
            have c11b0 : decide (0 ≤ x8_1) = true := decide_eq_true c11
            clear c11
            replace H := Option.bind_eq_some_iff.mp H
            obtain ⟨⟨t334, t335, t338⟩, A120, H⟩ := H
            replace H : (if t338 = 0 then (mummerref16_Run.l0 k1 l1 (wrap64 (x8_1 + 1)) t334 t335) else (some (x331000_1, x331001_1, x8_1, t338))) = some (r1, r2, r3, r4) := H
            have A12 := ak A120
            clear A120
            by_cases c13 : t338 = 0
            · rw [if_pos c13] at H
              have c13b0 : (t338 == 0) = true := beq_iff_eq.mpr c13
              have c13b1 : (t338 != 0) = false := bne_eq_false_iff_eq.mpr c13
              clear c13
              have H' := ak H
              clear H
              obtain ⟨Ao14, co14, eo14⟩ := Kd.V_slice HO_331001.out
              subst eo14
              try go_wp2
              have n0_ := ak (vD HO_331001.out)
              have n1_ := ak (bD BK330.out)
              have n2_ := ak (bD BK331.out)
              have n3_ := ak (wD HB.out)
              clear HO_331001 BK330 BK331 HB
              have HO_331001 := n0_
              have BK330 := n1_
              have BK331 := n2_
              have HB := n3_
              clear n0_ n1_ n2_ n3_
              have p333 : 0 ≤ (x8_1 : Int) := of_decide_eq_true (by first | (with_reducible assumption) | assumption)
              have q333 : x8_1 < (l1.length : Int) := of_decide_eq_true (by first | (with_reducible assumption) | assumption)
              obtain ⟨ad333, e333, hx333_0, hx333_1⟩ := at_T46 HR1.out x8_1 p333 q333
              have hw333_1 := hx333_1
              have hw333_0 := hx333_0
              cases e333
              replace hx333_0 := (HB.out.cell (World.block_lt_of_cell? w _ hx333_0)).trans hx333_0
              replace hx333_1 := (HB.out.cell (World.block_lt_of_cell? w _ hx333_1)).trans hx333_1
              replace p333 := eq_true p333
              replace q333 := eq_true q333
              refine start_ (n := 12) (S := fun w' => w'.cell? ⟨gb330, 0, none⟩ = some (.int .i64 x331000_1) ∧ w'.cell? ⟨gb330, 1, none⟩ = some (.slice Ao14 x331001_1.length co14) ∧ w'.cell? (ad333.add ((x8_1).toNat * 2)) = some (.int .i64 ((rd_T46 l1 x8_1).f0)) ∧ w'.cell? ⟨(ad333.add ((x8_1).toNat * 2)).block, (ad333.add ((x8_1).toNat * 2)).off + 1, none⟩ = some (.int .i64 ((rd_T46 l1 x8_1).f1))) (ds := []) #[false, false, false, false, false, false, false, false, false, false, false, false] (by kernel_rfl) rfl rfl ⟨(blk_cell BK330.out 0).trans rfl, (blk_cell BK330.out 1).trans rfl, ((HB.out.cell (World.block_lt_of_cell? w _ hw333_0)).trans hw333_0), ((HB.out.cell (World.block_lt_of_cell? w _ hw333_1)).trans hw333_1)⟩ (fun hHeld => ?_); refine with_tabW mummerref16_Run.tab7 mummerref16_Run.bits7 (fun HT_ HW_ => ?_)
              generalize wr.drew = w15 at HO_331001 BK330 BK331 HB hx333_0 hx333_1 hHeld ⊢
              refine pure_ (i := 1) (N := some 25) (v := ?_) (a' := ?_) #[false, true, false, false, false, false, false, false, false, false, false, false] rfl rfl (any_of HT_.out (by kernel_rfl)) (fun _ _ _ h => h) (Or.inl ⟨by rfl, ?_⟩) ?_ ?_
              rotate_left
              · intro w'
                go_simp
                with_reducible rfl
              rotate_left
              · simp only [Act.put, List.setIfInBounds_toArray, List.set_cons_zero, List.set_cons_succ, i64_w, i32_w]
                rfl
              refine pure_ (i := 2) (N := some 26) (v := ?_) (a' := ?_) #[false, true, true, false, false, false, false, false, false, false, false, false] rfl rfl (any_of HT_.out (by kernel_rfl)) (fun _ _ _ h => h) (Or.inl ⟨by rfl, ?_⟩) ?_ ?_
              rotate_left
              · intro w'
                go_simp
                with_reducible rfl
              rotate_left
              · simp only [Act.put, List.setIfInBounds_toArray, List.set_cons_zero, List.set_cons_succ, i64_w, i32_w]
                rfl
              refine pure_ (i := 3) (N := some 27) (v := ?_) (a' := ?_) #[false, true, true, true, false, false, false, false, false, false, false, false] rfl rfl (any_of HT_.out (by kernel_rfl)) (fun _ _ _ h => h) (Or.inl ⟨by rfl, ?_⟩) ?_ ?_
              rotate_left
              · intro w'
                go_simp
                with_reducible rfl
              rotate_left
              · simp only [Act.put, List.setIfInBounds_toArray, List.set_cons_zero, List.set_cons_succ, i64_w, i32_w]
                rfl
              refine take_ (i := 0) (N := some 24) (v := ?_) (a' := ?_) #[true, true, true, true, false, false, false, false, false, false, false, false] rfl rfl (take_ofW HT_.out HW_.out (by kernel_rfl)) (fun _ _ _ h => h) (Or.inl ⟨by rfl, ?_⟩) hHeld ?_ ?_
              rotate_left
              · rintro w' ⟨s0, s1, s2, s3⟩
                go_simp
                with_reducible rfl
              rotate_left
              · simp only [Act.put, List.setIfInBounds_toArray, List.set_cons_zero, List.set_cons_succ, i64_w, i32_w]
                rfl
              refine take_ (i := 4) (N := some 28) (v := ?_) (a' := ?_) #[true, true, true, true, true, false, false, false, false, false, false, false] rfl rfl (take_ofW HT_.out HW_.out (by kernel_rfl)) (fun _ _ _ h => h) (Or.inl ⟨by rfl, ?_⟩) hHeld ?_ ?_
              rotate_left
              · rintro w' ⟨s0, s1, s2, s3⟩
                go_simp
                with_reducible rfl
              rotate_left
              · simp only [Act.put, List.setIfInBounds_toArray, List.set_cons_zero, List.set_cons_succ, i64_w, i32_w]
                rfl
              refine join_ (σ := Value × Nat) 2 #[true, true, true, true, true, true, true, true, true, true, false, false] (fun s_ => [(29, .tuple #[.agg #[.int .i64 t334, s_.1], .int .i64 t338]), (9, .pointer (some ⟨s_.2, 0, none⟩)), (23, .tuple #[.agg #[.int .i64 t334, s_.1], .int .i64 t338]), (30, .agg #[.int .i64 t334, s_.1]), (31, .int .i64 t338)]) (fun s_ w' => (w'.cell? ⟨gb330, 0, none⟩ = some (.int .i64 x331000_1) ∧ w'.cell? ⟨gb330, 1, none⟩ = some (.slice Ao14 x331001_1.length co14) ∧ w'.cell? (ad333.add ((x8_1).toNat * 2)) = some (.int .i64 ((rd_T46 l1 x8_1).f0)) ∧ w'.cell? ⟨(ad333.add ((x8_1).toNat * 2)).block, (ad333.add ((x8_1).toNat * 2)).off + 1, none⟩ = some (.int .i64 ((rd_T46 l1 x8_1).f1))) ∧ (Kd.V (Kd.int .i64) 2 w' w.heap.size (fun k_ => (P0_1_ k_ ∨ w.heap.size ≤ k_) ∧ k_ ≠ gb330 ∧ k_ ≠ gb331 ∧ k_ ≠ s_.2) s_.1 t335) ∧ (Kd.V (Kd.int .i64) 2 w' w.heap.size (fun k_ => (P0_1_ k_ ∨ w.heap.size ≤ k_) ∧ k_ ≠ gb330 ∧ k_ ≠ gb331 ∧ k_ ≠ s_.2) (.slice Ao14 x331001_1.length co14) x331001_1) ∧ (w'.heap[gb330]? = some (.cells #[.int .i64 x331000_1, .slice Ao14 x331001_1.length co14] 24 (0, 0))) ∧ (w'.heap[gb331]? = some (.cells #[.int .i64 x332000_1, .slice none 0 0] 24 (0, 0))) ∧ (w'.heap[s_.2]? = some (.cells #[.int .i64 0, .slice none 0 0] 24 (0, 0))) ∧ (w.heap.size ≤ s_.2) ∧ (w.heap.size ≤ s_.2) ∧ (gb330 ≠ s_.2) ∧ (s_.2 ≠ gb330) ∧ (gb331 ≠ s_.2) ∧ (s_.2 ≠ gb331) ∧ (Below w.heap.size w w')) ?_ ?_
              rotate_left
              · intro hCont
                refine two_ (i := 5) (j := 9) (Ni := some 29) (Nj := some 9) #[true, true, true, true, true, true, false, false, false, false, false, false] #[true, true, true, true, true, false, false, false, false, true, false, false] rfl rfl rfl rfl (two_of HT_.out (by kernel_rfl)) (by decide) (by decide) (fun K hK => ?_) (fun K hK => ?_)
                · skip
                  refine goes_ Try.func23 (by kernel_rfl) rfl #[.agg #[.int .i64 x331000_1, .slice Ao14 x331001_1.length co14], .agg #[.int .i64 ((rd_T46 l1 x8_1).f0), .int .i64 ((rd_T46 l1 x8_1).f1)]] (by rfl) rfl rfl (by (try simp only [List.map_toArray, List.map_cons, List.map_nil]); first | done | rfl | (simp only [List.length_drop, List.length_take]; rfl)) ?_
                  with_reducible refine (mummerref16_Step.calls k1 x331000_1 (fun k_ => ((P0_1_ k_ ∨ w.heap.size ≤ k_) ∧ (k_ ≠ gb330 ∧ k_ ≠ gb331))) _ _ x331001_1 ((rd_T46 l1 x8_1).f0) ((rd_T46 l1 x8_1).f1) t334 t335 t338 _ ?side1 A12.out).mono ?_
                  (case side1 => exact HO_331001.out)
                  rintro e w16 ⟨v336, rfl, ho0, hb⟩
                  refine ⟨_, rfl, ?_⟩
                  have n0_ := ak (Kd.V_below (by (with_reducible repeat (first | apply vA | apply vN | apply vD)); exact HO_331001.out) hb)
                  have n1_ := ak (Kd.V_lower (Kd.V_mono (ok' := fun k_ => (P0_1_ k_ ∨ w.heap.size ≤ k_) ∧ k_ ≠ gb330 ∧ k_ ≠ gb331) ho0 (fun k_ hk_ => ⟨Or.elim hk_ (fun hs_ => hs_.1) (fun hn_ => (.inr (Nat.le_trans (below_size (by repeat (first | (with_reducible first | exact HB.out | apply wA | apply wN | apply wD | refine below_set ?_ GE330.out | refine below_set ?_ GE331.out) | exact HB.out))) hn_))), Or.elim hk_ (fun hs_ => hs_.2.1) (fun hn_ => (Kd.freshB (g := gb330) (o := .cells #[.int .i64 x331000_1, .slice Ao14 x331001_1.length co14] 24 (0, 0)) (by (with_reducible repeat (first | refine bN ?_ _ | refine bD ?_ | refine bA ?_ _)); exact BK330.out) k_ hn_)), Or.elim hk_ (fun hs_ => hs_.2.2) (fun hn_ => (Kd.freshB (g := gb331) (o := .cells #[.int .i64 x332000_1, .slice none 0 0] 24 (0, 0)) (by (with_reducible repeat (first | refine bN ?_ _ | refine bD ?_ | refine bA ?_ _)); exact BK331.out) k_ hn_))⟩)) (below_size (by repeat (first | (with_reducible first | exact HB.out | apply wA | apply wN | apply wD | refine below_set ?_ GE330.out | refine below_set ?_ GE331.out) | exact HB.out))))
                  have n2_ := ak (blk_below (g := gb330) (o := .cells #[.int .i64 x331000_1, .slice Ao14 x331001_1.length co14] 24 (0, 0)) (by (with_reducible repeat (first | refine bN ?_ _ | refine bD ?_ | refine bA ?_ _)); exact BK330.out) hb)
                  have n3_ := ak (blk_below (g := gb331) (o := .cells #[.int .i64 x332000_1, .slice none 0 0] 24 (0, 0)) (by (with_reducible repeat (first | refine bN ?_ _ | refine bD ?_ | refine bA ?_ _)); exact BK331.out) hb)
                  have n4_ := ak (below_step (by repeat (first | (with_reducible first | exact HB.out | apply wA | apply wN | apply wD | refine below_set ?_ GE330.out | refine below_set ?_ GE331.out) | exact HB.out)) hb)
                  clear HO_331001 BK330 BK331 HB
                  have HO_331001 := n0_
                  have HO337 := n1_
                  have BK330 := n2_
                  have BK331 := n3_
                  have HB := n4_
                  clear n0_ n1_ n2_ n3_ n4_
                  (try clear hb)
                  (try clear hb2)
                  (try clear hk)
                  (try clear hi)
                  (try clear ho0)
                  refine hK.out _ _ ⟨(blk_cell BK330.out 0).trans rfl, (blk_cell BK330.out 1).trans rfl, ((HB.out.cell (World.block_lt_of_cell? w _ hw333_0)).trans hw333_0), ((HB.out.cell (World.block_lt_of_cell? w _ hw333_1)).trans hw333_1)⟩ (fun hHeld => ?_)
                  clear hK K
                  refine norm_ (a' := ?_) ?_ ?_
                  rotate_left
                  · show Act.put _ (some 29) _ = _
                    simp only [Act.put, List.setIfInBounds_toArray, List.set_cons_zero, List.set_cons_succ, i64_w, i32_w]
                    rfl
                  refine pure_ (i := 6) (N := some 23) (v := ?_) (a' := ?_) #[true, true, true, true, true, true, true, false, false, false, false, false] rfl rfl (any_of HT_.out (by kernel_rfl)) (fun _ _ _ h => h) (Or.inl ⟨by rfl, ?_⟩) ?_ ?_
                  rotate_left
                  · intro w'
                    go_simp
                    with_reducible rfl
                  rotate_left
                  · simp only [Act.put, List.setIfInBounds_toArray, List.set_cons_zero, List.set_cons_succ, i64_w, i32_w]
                    rfl
                  refine pure_ (i := 7) (N := some 30) (v := ?_) (a' := ?_) #[true, true, true, true, true, true, true, true, false, false, false, false] rfl rfl (any_of HT_.out (by kernel_rfl)) (fun _ _ _ h => h) (Or.inl ⟨by rfl, ?_⟩) ?_ ?_
                  rotate_left
                  · intro w'
                    go_simp
                    with_reducible rfl
                  rotate_left
                  · simp only [Act.put, List.setIfInBounds_toArray, List.set_cons_zero, List.set_cons_succ, i64_w, i32_w]
                    rfl
                  refine pure_ (i := 8) (N := some 31) (v := ?_) (a' := ?_) #[true, true, true, true, true, true, true, true, true, false, false, false] rfl rfl (any_of HT_.out (by kernel_rfl)) (fun _ _ _ h => h) (Or.inl ⟨by rfl, ?_⟩) ?_ ?_
                  rotate_left
                  · intro w'
                    go_simp
                    with_reducible rfl
                  rotate_left
                  · simp only [Act.put, List.setIfInBounds_toArray, List.set_cons_zero, List.set_cons_succ, i64_w, i32_w]
                    rfl
                  refine one_ (i := 9) (N := some 9) #[true, true, true, true, true, true, true, true, true, true, false, false] rfl rfl (one_of HT_.out (by kernel_rfl)) (by decide) (fun K hK => ?_)
                  refine box_step ?hg (N := 9) ?hd (cs := #[.int .i64 0, .slice none 0 0]) (t := 24) ?hr ?_; (case hd => rfl); (case hg => rfl); (case hr => first | (go_simp; done) | (go_simp; rfl))
                  intro gb339 hg w17 hbox hb
                  have n0_ := ak (Kd.V_below (Kd.V_elderB (by (with_reducible repeat (first | apply vA | apply vN | apply vD)); exact HO_331001.out) gb339 (Nat.le_of_eq hg.symm)) hb)
                  have n1_ := ak (Kd.V_below (Kd.V_elderB (by (with_reducible repeat (first | apply vA | apply vN | apply vD)); exact HO337.out) gb339 (Nat.le_of_eq hg.symm)) hb)
                  have n2_ := ak (blk_below (g := gb330) (o := .cells #[.int .i64 x331000_1, .slice Ao14 x331001_1.length co14] 24 (0, 0)) (by (with_reducible repeat (first | refine bN ?_ _ | refine bD ?_ | refine bA ?_ _)); exact BK330.out) hb)
                  have n3_ := ak (blk_below (g := gb331) (o := .cells #[.int .i64 x332000_1, .slice none 0 0] 24 (0, 0)) (by (with_reducible repeat (first | refine bN ?_ _ | refine bD ?_ | refine bA ?_ _)); exact BK331.out) hb)
                  have n4_ := ak (below_step (by repeat (first | (with_reducible first | exact HB.out | apply wA | apply wN | apply wD | refine below_set ?_ GE330.out | refine below_set ?_ GE331.out) | exact HB.out)) hb)
                  have n5_ := ak (hbox)
                  have n6_ := ak ((by rw [hg]; exact (below_size (by repeat (first | (with_reducible first | exact HB.out | apply wA | apply wN | apply wD | refine below_set ?_ GE330.out | refine below_set ?_ GE331.out) | exact HB.out))) : w.heap.size ≤ gb339))
                  have n7_ := ak ((by rw [hg]; exact (below_size (by repeat (first | (with_reducible first | exact HB.out | apply wA | apply wN | apply wD | refine below_set ?_ GE330.out | refine below_set ?_ GE331.out) | exact HB.out))) : w.heap.size ≤ gb339))
                  have n8_ := ak ((by rw [hg]; exact Nat.ne_of_lt (blk_lt (g := gb330) (o := .cells #[.int .i64 x331000_1, .slice Ao14 x331001_1.length co14] 24 (0, 0)) (by (with_reducible repeat (first | refine bN ?_ _ | refine bD ?_ | refine bA ?_ _)); exact BK330.out)) : gb330 ≠ gb339))
                  have n9_ := ak ((by rw [hg]; exact Nat.ne_of_gt (blk_lt (g := gb330) (o := .cells #[.int .i64 x331000_1, .slice Ao14 x331001_1.length co14] 24 (0, 0)) (by (with_reducible repeat (first | refine bN ?_ _ | refine bD ?_ | refine bA ?_ _)); exact BK330.out)) : gb339 ≠ gb330))
                  have n10_ := ak ((by rw [hg]; exact Nat.ne_of_lt (blk_lt (g := gb331) (o := .cells #[.int .i64 x332000_1, .slice none 0 0] 24 (0, 0)) (by (with_reducible repeat (first | refine bN ?_ _ | refine bD ?_ | refine bA ?_ _)); exact BK331.out)) : gb331 ≠ gb339))
                  have n11_ := ak ((by rw [hg]; exact Nat.ne_of_gt (blk_lt (g := gb331) (o := .cells #[.int .i64 x332000_1, .slice none 0 0] 24 (0, 0)) (by (with_reducible repeat (first | refine bN ?_ _ | refine bD ?_ | refine bA ?_ _)); exact BK331.out)) : gb339 ≠ gb331))
                  clear HO_331001 HO337 BK330 BK331 HB
                  have HO_331001 := n0_
                  have HO337 := n1_
                  have BK330 := n2_
                  have BK331 := n3_
                  have HB := n4_
                  have BK339 := n5_
                  have GW339 := n6_
                  have GE339 := n7_
                  have NB330_339 := n8_
                  have NB339_330 := n9_
                  have NB331_339 := n10_
                  have NB339_331 := n11_
                  clear n0_ n1_ n2_ n3_ n4_ n5_ n6_ n7_ n8_ n9_ n10_ n11_ hb hbox hg
                  refine hK.out _ _ ⟨(blk_cell BK330.out 0).trans rfl, (blk_cell BK330.out 1).trans rfl, ((HB.out.cell (World.block_lt_of_cell? w _ hw333_0)).trans hw333_0), ((HB.out.cell (World.block_lt_of_cell? w _ hw333_1)).trans hw333_1)⟩ (fun hHeld => ?_)
                  clear hK K
                  refine norm_ (a' := ?_) ?_ ?_
                  rotate_left
                  · show Act.put _ (some 9) _ = _
                    simp only [Act.put, List.setIfInBounds_toArray, List.set_cons_zero, List.set_cons_succ, i64_w, i32_w]
                    rfl
                  exact norm_ (by simp only [putAll, Act.put, List.setIfInBounds_toArray, List.set_cons_zero, List.set_cons_succ]) (hCont (v336, gb339) _ ⟨hHeld, (by (with_reducible repeat (first | apply vA | apply vN | apply vD)); exact Kd.V_mono HO337.out (fun _ hk => by first | exact ⟨hk.1.1, ⟨hk.1.2.1, ⟨hk.1.2.2, hk.2⟩⟩⟩ | (simp only [ne_eq] at hk ⊢; simp [hk]))), (by (with_reducible repeat (first | apply vA | apply vN | apply vD)); exact Kd.V_mono HO_331001.out (fun _ hk => by first | exact ⟨hk.1.1, ⟨hk.1.2.1, ⟨hk.1.2.2, hk.2⟩⟩⟩ | (simp only [ne_eq] at hk ⊢; simp [hk]))), (by (with_reducible repeat (first | refine bN ?_ _ | refine bD ?_ | refine bA ?_ _)); exact BK330.out), (by (with_reducible repeat (first | refine bN ?_ _ | refine bD ?_ | refine bA ?_ _)); exact BK331.out), (by (with_reducible repeat (first | refine bN ?_ _ | refine bD ?_ | refine bA ?_ _)); exact BK339.out), GW339.out, GE339.out, NB330_339.out, NB339_330.out, NB331_339.out, NB339_331.out, (by repeat (first | (with_reducible first | exact HB.out | apply wA | apply wN | apply wD | refine below_set ?_ GE330.out | refine below_set ?_ GE331.out | refine below_set ?_ GE339.out) | exact HB.out))⟩)
                · skip
                  refine box_step ?hg (N := 9) ?hd (cs := #[.int .i64 0, .slice none 0 0]) (t := 24) ?hr ?_; (case hd => rfl); (case hg => rfl); (case hr => first | (go_simp; done) | (go_simp; rfl))
                  intro gb339 hg w16 hbox hb
                  have n0_ := ak (Kd.V_below (Kd.V_elderB (by (with_reducible repeat (first | apply vA | apply vN | apply vD)); exact HO_331001.out) gb339 (Nat.le_of_eq hg.symm)) hb)
                  have n1_ := ak (blk_below (g := gb330) (o := .cells #[.int .i64 x331000_1, .slice Ao14 x331001_1.length co14] 24 (0, 0)) (by (with_reducible repeat (first | refine bN ?_ _ | refine bD ?_ | refine bA ?_ _)); exact BK330.out) hb)
                  have n2_ := ak (blk_below (g := gb331) (o := .cells #[.int .i64 x332000_1, .slice none 0 0] 24 (0, 0)) (by (with_reducible repeat (first | refine bN ?_ _ | refine bD ?_ | refine bA ?_ _)); exact BK331.out) hb)
                  have n3_ := ak (below_step (by repeat (first | (with_reducible first | exact HB.out | apply wA | apply wN | apply wD | refine below_set ?_ GE330.out | refine below_set ?_ GE331.out) | exact HB.out)) hb)
                  have n4_ := ak (hbox)
                  have n5_ := ak ((by rw [hg]; exact (below_size (by repeat (first | (with_reducible first | exact HB.out | apply wA | apply wN | apply wD | refine below_set ?_ GE330.out | refine below_set ?_ GE331.out) | exact HB.out))) : w.heap.size ≤ gb339))
                  have n6_ := ak ((by rw [hg]; exact (below_size (by repeat (first | (with_reducible first | exact HB.out | apply wA | apply wN | apply wD | refine below_set ?_ GE330.out | refine below_set ?_ GE331.out) | exact HB.out))) : w.heap.size ≤ gb339))
                  have n7_ := ak ((by rw [hg]; exact Nat.ne_of_lt (blk_lt (g := gb330) (o := .cells #[.int .i64 x331000_1, .slice Ao14 x331001_1.length co14] 24 (0, 0)) (by (with_reducible repeat (first | refine bN ?_ _ | refine bD ?_ | refine bA ?_ _)); exact BK330.out)) : gb330 ≠ gb339))
                  have n8_ := ak ((by rw [hg]; exact Nat.ne_of_gt (blk_lt (g := gb330) (o := .cells #[.int .i64 x331000_1, .slice Ao14 x331001_1.length co14] 24 (0, 0)) (by (with_reducible repeat (first | refine bN ?_ _ | refine bD ?_ | refine bA ?_ _)); exact BK330.out)) : gb339 ≠ gb330))
                  have n9_ := ak ((by rw [hg]; exact Nat.ne_of_lt (blk_lt (g := gb331) (o := .cells #[.int .i64 x332000_1, .slice none 0 0] 24 (0, 0)) (by (with_reducible repeat (first | refine bN ?_ _ | refine bD ?_ | refine bA ?_ _)); exact BK331.out)) : gb331 ≠ gb339))
                  have n10_ := ak ((by rw [hg]; exact Nat.ne_of_gt (blk_lt (g := gb331) (o := .cells #[.int .i64 x332000_1, .slice none 0 0] 24 (0, 0)) (by (with_reducible repeat (first | refine bN ?_ _ | refine bD ?_ | refine bA ?_ _)); exact BK331.out)) : gb339 ≠ gb331))
                  clear HO_331001 BK330 BK331 HB
                  have HO_331001 := n0_
                  have BK330 := n1_
                  have BK331 := n2_
                  have HB := n3_
                  have BK339 := n4_
                  have GW339 := n5_
                  have GE339 := n6_
                  have NB330_339 := n7_
                  have NB339_330 := n8_
                  have NB331_339 := n9_
                  have NB339_331 := n10_
                  clear n0_ n1_ n2_ n3_ n4_ n5_ n6_ n7_ n8_ n9_ n10_ hb hbox hg
                  refine hK.out _ _ ⟨(blk_cell BK330.out 0).trans rfl, (blk_cell BK330.out 1).trans rfl, ((HB.out.cell (World.block_lt_of_cell? w _ hw333_0)).trans hw333_0), ((HB.out.cell (World.block_lt_of_cell? w _ hw333_1)).trans hw333_1)⟩ (fun hHeld => ?_)
                  clear hK K
                  refine norm_ (a' := ?_) ?_ ?_
                  rotate_left
                  · show Act.put _ (some 9) _ = _
                    simp only [Act.put, List.setIfInBounds_toArray, List.set_cons_zero, List.set_cons_succ, i64_w, i32_w]
                    rfl
                  refine one_ (i := 5) (N := some 29) #[true, true, true, true, true, true, false, false, false, true, false, false] rfl rfl (one_of HT_.out (by kernel_rfl)) (by decide) (fun K hK => ?_)
                  refine goes_ Try.func23 (by kernel_rfl) rfl #[.agg #[.int .i64 x331000_1, .slice Ao14 x331001_1.length co14], .agg #[.int .i64 ((rd_T46 l1 x8_1).f0), .int .i64 ((rd_T46 l1 x8_1).f1)]] (by rfl) rfl rfl (by (try simp only [List.map_toArray, List.map_cons, List.map_nil]); first | done | rfl | (simp only [List.length_drop, List.length_take]; rfl)) ?_
                  with_reducible refine (mummerref16_Step.calls k1 x331000_1 (fun k_ => (((P0_1_ k_ ∨ w.heap.size ≤ k_) ∧ (k_ ≠ gb330 ∧ k_ ≠ gb331)) ∧ k_ ≠ gb339)) _ _ x331001_1 ((rd_T46 l1 x8_1).f0) ((rd_T46 l1 x8_1).f1) t334 t335 t338 _ ?side1 A12.out).mono ?_
                  (case side1 => exact HO_331001.out)
                  rintro e w17 ⟨v336, rfl, ho0, hb⟩
                  refine ⟨_, rfl, ?_⟩
                  have n0_ := ak (Kd.V_below (by (with_reducible repeat (first | apply vA | apply vN | apply vD)); exact HO_331001.out) hb)
                  have n1_ := ak (Kd.V_lower (Kd.V_mono (ok' := fun k_ => (P0_1_ k_ ∨ w.heap.size ≤ k_) ∧ k_ ≠ gb330 ∧ k_ ≠ gb331 ∧ k_ ≠ gb339) ho0 (fun k_ hk_ => ⟨Or.elim hk_ (fun hs_ => hs_.1.1) (fun hn_ => (.inr (Nat.le_trans (below_size (by repeat (first | (with_reducible first | exact HB.out | apply wA | apply wN | apply wD | refine below_set ?_ GE330.out | refine below_set ?_ GE331.out | refine below_set ?_ GE339.out) | exact HB.out))) hn_))), Or.elim hk_ (fun hs_ => hs_.1.2.1) (fun hn_ => (Kd.freshB (g := gb330) (o := .cells #[.int .i64 x331000_1, .slice Ao14 x331001_1.length co14] 24 (0, 0)) (by (with_reducible repeat (first | refine bN ?_ _ | refine bD ?_ | refine bA ?_ _)); exact BK330.out) k_ hn_)), Or.elim hk_ (fun hs_ => hs_.1.2.2) (fun hn_ => (Kd.freshB (g := gb331) (o := .cells #[.int .i64 x332000_1, .slice none 0 0] 24 (0, 0)) (by (with_reducible repeat (first | refine bN ?_ _ | refine bD ?_ | refine bA ?_ _)); exact BK331.out) k_ hn_)), Or.elim hk_ (fun hs_ => hs_.2) (fun hn_ => (Kd.freshB (g := gb339) (o := .cells #[.int .i64 0, .slice none 0 0] 24 (0, 0)) (by (with_reducible repeat (first | refine bN ?_ _ | refine bD ?_ | refine bA ?_ _)); exact BK339.out) k_ hn_))⟩)) (below_size (by repeat (first | (with_reducible first | exact HB.out | apply wA | apply wN | apply wD | refine below_set ?_ GE330.out | refine below_set ?_ GE331.out | refine below_set ?_ GE339.out) | exact HB.out))))
                  have n2_ := ak (blk_below (g := gb330) (o := .cells #[.int .i64 x331000_1, .slice Ao14 x331001_1.length co14] 24 (0, 0)) (by (with_reducible repeat (first | refine bN ?_ _ | refine bD ?_ | refine bA ?_ _)); exact BK330.out) hb)
                  have n3_ := ak (blk_below (g := gb331) (o := .cells #[.int .i64 x332000_1, .slice none 0 0] 24 (0, 0)) (by (with_reducible repeat (first | refine bN ?_ _ | refine bD ?_ | refine bA ?_ _)); exact BK331.out) hb)
                  have n4_ := ak (blk_below (g := gb339) (o := .cells #[.int .i64 0, .slice none 0 0] 24 (0, 0)) (by (with_reducible repeat (first | refine bN ?_ _ | refine bD ?_ | refine bA ?_ _)); exact BK339.out) hb)
                  have n5_ := ak (below_step (by repeat (first | (with_reducible first | exact HB.out | apply wA | apply wN | apply wD | refine below_set ?_ GE330.out | refine below_set ?_ GE331.out | refine below_set ?_ GE339.out) | exact HB.out)) hb)
                  clear HO_331001 BK330 BK331 BK339 HB
                  have HO_331001 := n0_
                  have HO337 := n1_
                  have BK330 := n2_
                  have BK331 := n3_
                  have BK339 := n4_
                  have HB := n5_
                  clear n0_ n1_ n2_ n3_ n4_ n5_
                  (try clear hb)
                  (try clear hb2)
                  (try clear hk)
                  (try clear hi)
                  (try clear ho0)
                  refine hK.out _ _ ⟨(blk_cell BK330.out 0).trans rfl, (blk_cell BK330.out 1).trans rfl, ((HB.out.cell (World.block_lt_of_cell? w _ hw333_0)).trans hw333_0), ((HB.out.cell (World.block_lt_of_cell? w _ hw333_1)).trans hw333_1)⟩ (fun hHeld => ?_)
                  clear hK K
                  refine norm_ (a' := ?_) ?_ ?_
                  rotate_left
                  · show Act.put _ (some 29) _ = _
                    simp only [Act.put, List.setIfInBounds_toArray, List.set_cons_zero, List.set_cons_succ, i64_w, i32_w]
                    rfl
                  refine pure_ (i := 6) (N := some 23) (v := ?_) (a' := ?_) #[true, true, true, true, true, true, true, false, false, true, false, false] rfl rfl (any_of HT_.out (by kernel_rfl)) (fun _ _ _ h => h) (Or.inl ⟨by rfl, ?_⟩) ?_ ?_
                  rotate_left
                  · intro w'
                    go_simp
                    with_reducible rfl
                  rotate_left
                  · simp only [Act.put, List.setIfInBounds_toArray, List.set_cons_zero, List.set_cons_succ, i64_w, i32_w]
                    rfl
                  refine pure_ (i := 7) (N := some 30) (v := ?_) (a' := ?_) #[true, true, true, true, true, true, true, true, false, true, false, false] rfl rfl (any_of HT_.out (by kernel_rfl)) (fun _ _ _ h => h) (Or.inl ⟨by rfl, ?_⟩) ?_ ?_
                  rotate_left
                  · intro w'
                    go_simp
                    with_reducible rfl
                  rotate_left
                  · simp only [Act.put, List.setIfInBounds_toArray, List.set_cons_zero, List.set_cons_succ, i64_w, i32_w]
                    rfl
                  refine pure_ (i := 8) (N := some 31) (v := ?_) (a' := ?_) #[true, true, true, true, true, true, true, true, true, true, false, false] rfl rfl (any_of HT_.out (by kernel_rfl)) (fun _ _ _ h => h) (Or.inl ⟨by rfl, ?_⟩) ?_ ?_
                  rotate_left
                  · intro w'
                    go_simp
                    with_reducible rfl
                  rotate_left
                  · simp only [Act.put, List.setIfInBounds_toArray, List.set_cons_zero, List.set_cons_succ, i64_w, i32_w]
                    rfl
                  exact norm_ (by simp only [putAll, Act.put, List.setIfInBounds_toArray, List.set_cons_zero, List.set_cons_succ]) (hCont (v336, gb339) _ ⟨hHeld, (by (with_reducible repeat (first | apply vA | apply vN | apply vD)); exact HO337.out), (by (with_reducible repeat (first | apply vA | apply vN | apply vD)); exact Kd.V_mono HO_331001.out (fun _ hk => by first | exact ⟨hk.1.1, ⟨hk.1.2.1, ⟨hk.1.2.2, hk.2⟩⟩⟩ | (simp only [ne_eq] at hk ⊢; simp [hk]))), (by (with_reducible repeat (first | refine bN ?_ _ | refine bD ?_ | refine bA ?_ _)); exact BK330.out), (by (with_reducible repeat (first | refine bN ?_ _ | refine bD ?_ | refine bA ?_ _)); exact BK331.out), (by (with_reducible repeat (first | refine bN ?_ _ | refine bD ?_ | refine bA ?_ _)); exact BK339.out), GW339.out, GE339.out, NB330_339.out, NB339_330.out, NB331_339.out, NB339_331.out, (by repeat (first | (with_reducible first | exact HB.out | apply wA | apply wN | apply wD | refine below_set ?_ GE330.out | refine below_set ?_ GE331.out | refine below_set ?_ GE339.out) | exact HB.out))⟩)
              rintro ⟨v336, gb339⟩ w18 ⟨hS_, h0_, h1_, h2_, h3_, h4_, h5_, h6_, h7_, h8_, h9_, h10_, h11_⟩
              have n0_ : Aside0 (Kd.V (Kd.int .i64) 2 w18 w.heap.size (fun k_ => (P0_1_ k_ ∨ w.heap.size ≤ k_) ∧ k_ ≠ gb330 ∧ k_ ≠ gb331 ∧ k_ ≠ gb339) v336 t335) := ⟨h0_⟩
              have n1_ : Aside0 (Kd.V (Kd.int .i64) 2 w18 w.heap.size (fun k_ => (P0_1_ k_ ∨ w.heap.size ≤ k_) ∧ k_ ≠ gb330 ∧ k_ ≠ gb331 ∧ k_ ≠ gb339) (.slice Ao14 x331001_1.length co14) x331001_1) := ⟨h1_⟩
              have n2_ : Aside0 (w18.heap[gb330]? = some (.cells #[.int .i64 x331000_1, .slice Ao14 x331001_1.length co14] 24 (0, 0))) := ⟨h2_⟩
              have n3_ : Aside0 (w18.heap[gb331]? = some (.cells #[.int .i64 x332000_1, .slice none 0 0] 24 (0, 0))) := ⟨h3_⟩
              have n4_ : Aside0 (w18.heap[gb339]? = some (.cells #[.int .i64 0, .slice none 0 0] 24 (0, 0))) := ⟨h4_⟩
              have n5_ : Aside0 (w.heap.size ≤ gb339) := ⟨h5_⟩
              have n6_ : Aside0 (w.heap.size ≤ gb339) := ⟨h6_⟩
              have n7_ : Aside0 (gb330 ≠ gb339) := ⟨h7_⟩
              have n8_ : Aside0 (gb339 ≠ gb330) := ⟨h8_⟩
              have n9_ : Aside0 (gb331 ≠ gb339) := ⟨h9_⟩
              have n10_ : Aside0 (gb339 ≠ gb331) := ⟨h10_⟩
              have n11_ : Aside0 (Below w.heap.size w w18) := ⟨h11_⟩
              clear HO_331001 BK330 BK331 HB h0_ h1_ h2_ h3_ h4_ h5_ h6_ h7_ h8_ h9_ h10_ h11_
              have HO337 := n0_
              have HO_331001 := n1_
              have BK330 := n2_
              have BK331 := n3_
              have BK339 := n4_
              have GW339 := n5_
              have GE339 := n6_
              have NB330_339 := n7_
              have NB339_330 := n8_
              have NB331_339 := n9_
              have NB339_331 := n10_
              have HB := n11_
              clear n0_ n1_ n2_ n3_ n4_ n5_ n6_ n7_ n8_ n9_ n10_ n11_
              have hHeld : w18.cell? ⟨gb330, 0, none⟩ = some (.int .i64 x331000_1) ∧ w18.cell? ⟨gb330, 1, none⟩ = some (.slice Ao14 x331001_1.length co14) ∧ w18.cell? (ad333.add ((x8_1).toNat * 2)) = some (.int .i64 ((rd_T46 l1 x8_1).f0)) ∧ w18.cell? ⟨(ad333.add ((x8_1).toNat * 2)).block, (ad333.add ((x8_1).toNat * 2)).off + 1, none⟩ = some (.int .i64 ((rd_T46 l1 x8_1).f1)) := hS_
              obtain ⟨Ao20, co20, eo20⟩ := Kd.V_slice HO337.out
              (first | subst eo20 | (injection eo20 with f1_ f2_ f3_; have f4_ := f1_.symm; have f5_ := f3_.symm; clear f1_ f2_ f3_; subst f4_; subst f5_))
              refine norm_ (a' := ?_) ?_ ?_
              rotate_left
              · simp only [putAll, Act.put, List.setIfInBounds_toArray, List.set_cons_zero, List.set_cons_succ]
                rfl
              refine one_ (i := 10) (N := none) #[true, true, true, true, true, true, true, true, true, true, true, false] rfl rfl (one_of HT_.out (by kernel_rfl)) (by decide) (fun K hK => ?_)
              have hs19 : w18.cell? ⟨gb339, 0, none⟩ = some (.int .i64 0) := (blk_cell BK339.out 0).trans rfl
              have hfs19 := blk_frozen BK339.out 0
              have hns19_0 := NB330_339.out
              have hns19_1 := NB331_339.out
              have hms19_0 := NB339_330.out
              have hms19_1 := NB339_331.out
              have hs21 : w18.cell? ⟨gb339, 1, none⟩ = some (.slice none 0 0) := (blk_cell BK339.out 1).trans rfl
              have hfs21 := blk_frozen BK339.out 1
              have hns21_0 := NB330_339.out
              have hns21_1 := NB331_339.out
              have hms21_0 := NB339_330.out
              have hms21_1 := NB339_331.out
              refine skip_ (w1 := ?_) (by rfl) rfl ?_ ?_
              rotate_left
              · go_simp
                rfl
              refine hK.out _ _ ⟨((cell_far (p := ⟨gb339, _, none⟩) NB330_339.out _).trans (((cell_far (p := ⟨gb339, _, none⟩) NB330_339.out _).trans (hHeld.1)))), ((cell_far (p := ⟨gb339, _, none⟩) NB330_339.out _).trans (((cell_far (p := ⟨gb339, _, none⟩) NB330_339.out _).trans (hHeld.2.1)))), ((cell_far (p := ⟨gb339, _, none⟩) (by first | exact Nat.ne_of_lt (Nat.lt_of_lt_of_le (by have := World.block_lt_of_cell? _ _ hw333_0; first | rwa [add_block] at this | exact this) GW339.out) | (rw [add_block]; exact Nat.ne_of_lt (Nat.lt_of_lt_of_le (by have := World.block_lt_of_cell? _ _ hw333_0; first | rwa [add_block] at this | exact this) GW339.out)) | (show (Addr.add _ _).block ≠ _; rw [add_block]; exact Nat.ne_of_lt (Nat.lt_of_lt_of_le (by have := World.block_lt_of_cell? _ _ hw333_0; first | rwa [add_block] at this | exact this) GW339.out)) | (dsimp only; exact Nat.ne_of_lt (Nat.lt_of_lt_of_le (by have := World.block_lt_of_cell? _ _ hw333_0; first | rwa [add_block] at this | exact this) GW339.out))) _).trans (((cell_far (p := ⟨gb339, _, none⟩) (by first | exact Nat.ne_of_lt (Nat.lt_of_lt_of_le (by have := World.block_lt_of_cell? _ _ hw333_0; first | rwa [add_block] at this | exact this) GW339.out) | (rw [add_block]; exact Nat.ne_of_lt (Nat.lt_of_lt_of_le (by have := World.block_lt_of_cell? _ _ hw333_0; first | rwa [add_block] at this | exact this) GW339.out)) | (show (Addr.add _ _).block ≠ _; rw [add_block]; exact Nat.ne_of_lt (Nat.lt_of_lt_of_le (by have := World.block_lt_of_cell? _ _ hw333_0; first | rwa [add_block] at this | exact this) GW339.out)) | (dsimp only; exact Nat.ne_of_lt (Nat.lt_of_lt_of_le (by have := World.block_lt_of_cell? _ _ hw333_0; first | rwa [add_block] at this | exact this) GW339.out))) _).trans (hHeld.2.2.1)))), ((cell_far (p := ⟨gb339, _, none⟩) (by first | exact Nat.ne_of_lt (Nat.lt_of_lt_of_le (by have := World.block_lt_of_cell? _ _ hw333_1; first | rwa [add_block] at this | exact this) GW339.out) | (rw [add_block]; exact Nat.ne_of_lt (Nat.lt_of_lt_of_le (by have := World.block_lt_of_cell? _ _ hw333_1; first | rwa [add_block] at this | exact this) GW339.out)) | (show (Addr.add _ _).block ≠ _; rw [add_block]; exact Nat.ne_of_lt (Nat.lt_of_lt_of_le (by have := World.block_lt_of_cell? _ _ hw333_1; first | rwa [add_block] at this | exact this) GW339.out)) | (dsimp only; exact Nat.ne_of_lt (Nat.lt_of_lt_of_le (by have := World.block_lt_of_cell? _ _ hw333_1; first | rwa [add_block] at this | exact this) GW339.out))) _).trans (((cell_far (p := ⟨gb339, _, none⟩) (by first | exact Nat.ne_of_lt (Nat.lt_of_lt_of_le (by have := World.block_lt_of_cell? _ _ hw333_1; first | rwa [add_block] at this | exact this) GW339.out) | (rw [add_block]; exact Nat.ne_of_lt (Nat.lt_of_lt_of_le (by have := World.block_lt_of_cell? _ _ hw333_1; first | rwa [add_block] at this | exact this) GW339.out)) | (show (Addr.add _ _).block ≠ _; rw [add_block]; exact Nat.ne_of_lt (Nat.lt_of_lt_of_le (by have := World.block_lt_of_cell? _ _ hw333_1; first | rwa [add_block] at this | exact this) GW339.out)) | (dsimp only; exact Nat.ne_of_lt (Nat.lt_of_lt_of_le (by have := World.block_lt_of_cell? _ _ hw333_1; first | rwa [add_block] at this | exact this) GW339.out))) _).trans (hHeld.2.2.2))))⟩ (fun hHeld => ?_)
              clear hK K
              refine pure_ (i := 11) (N := some 10) (v := ?_) (a' := ?_) #[true, true, true, true, true, true, true, true, true, true, true, true] rfl rfl (any_of HT_.out (by kernel_rfl)) (fun _ _ _ h => h) (Or.inl ⟨by rfl, ?_⟩) ?_ ?_
              rotate_left
              · intro w'
                go_simp
                with_reducible rfl
              rotate_left
              · simp only [Act.put, List.setIfInBounds_toArray, List.set_cons_zero, List.set_cons_succ, i64_w, i32_w]
                rfl
              refine done_ (done_of HT_.out (by kernel_rfl)) ?_
              have hnb22 := NB339_330.out
              have hnc22 := NB330_339.out
              have hnb23 := NB339_331.out
              have hnc23 := NB331_339.out
              have hcz24_0 : w18.cell? ⟨gb339, 0, none⟩ = some (.int .i64 0) := (blk_cell BK339.out 0).trans rfl
              have hcz24_1 : w18.cell? ⟨gb339, 1, none⟩ = some (.slice none 0 0) := (blk_cell BK339.out 1).trans rfl
              have hfz24_0 := blk_frozen BK339.out 0
              have hfz24_1 := blk_frozen BK339.out 1
              have hnb25 := NB330_331.out
              have hnc25 := NB331_330.out
              have hcz26_0 : w18.cell? ⟨gb330, 0, none⟩ = some (.int .i64 x331000_1) := (blk_cell BK330.out 0).trans rfl
              have hcz26_1 : w18.cell? ⟨gb330, 1, none⟩ = some (.slice Ao14 x331001_1.length co14) := (blk_cell BK330.out 1).trans rfl
              have hfz26_0 := blk_frozen BK330.out 0
              have hfz26_1 := blk_frozen BK330.out 1
              try go_wp2
              go_roundg k1
              case measure => have := HK1.out; omega
              case rel => exact ⟨(wrap64 (x8_1 + 1)), (t334), (t335), (x332000_1), (.slice Ao20 t335.length co20), (by first | rfl | (simp; done) | (simp [*]; done)), H', ⟨by have := HK1.out; omega⟩, ⟨by (with_reducible repeat (first | apply vA | apply vN | apply vD)); exact Kd.V_mono (Kd.V_far (p := ⟨gb330, 1, none⟩) (Kd.V_far (p := ⟨gb330, 0, none⟩) (Kd.V_far (p := ⟨gb339, 1, none⟩) (Kd.V_far (p := ⟨gb339, 0, none⟩) (Kd.V_mono (Kd.V_mono HO337.out (fun k_ hk => (⟨hk, by first | exact hk.2.2.2 | exact hk.2.2 | exact hk.2.1 | omega⟩ : _ ∧ k_ ≠ gb339))) (fun k_ hk => (⟨hk, by first | exact hk.1.2.1 | exact hk.2.2 | exact hk.2.1 | omega⟩ : _ ∧ k_ ≠ gb330))) (fun _ hk => hk.1.2) (.int .i64 t334)) (fun _ hk => hk.1.2) (.slice Ao20 t335.length co20)) (fun _ hk => hk.2) (.int .i64 t334)) (fun _ hk => hk.2) (.slice Ao20 t335.length co20)) (fun _ hk => by first | exact ⟨hk.1.1.1, ⟨hk.1.1.2.1, hk.1.1.2.2.1⟩⟩ | (simp only [ne_eq] at hk ⊢; simp [hk]))⟩, ⟨by (with_reducible repeat (first | refine bN ?_ _ | refine bD ?_ | refine bA ?_ _)); refine blk_put (cs := #[.int .i64 t334, .slice Ao14 x331001_1.length co14]) ?_ 1 _ rfl; (with_reducible repeat (first | refine bN ?_ _ | refine bD ?_ | refine bA ?_ _)); refine blk_put (cs := #[.int .i64 x331000_1, .slice Ao14 x331001_1.length co14]) ?_ 0 _ rfl; (with_reducible repeat (first | refine bN ?_ _ | refine bD ?_ | refine bA ?_ _)); refine blk_far ?_ NB330_339.out _; (with_reducible repeat (first | refine bN ?_ _ | refine bD ?_ | refine bA ?_ _)); refine blk_far ?_ NB330_339.out _; (with_reducible repeat (first | refine bN ?_ _ | refine bD ?_ | refine bA ?_ _)); exact BK330.out⟩, ⟨by (with_reducible repeat (first | refine bN ?_ _ | refine bD ?_ | refine bA ?_ _)); refine blk_far ?_ NB331_330.out _; (with_reducible repeat (first | refine bN ?_ _ | refine bD ?_ | refine bA ?_ _)); refine blk_far ?_ NB331_330.out _; (with_reducible repeat (first | refine bN ?_ _ | refine bD ?_ | refine bA ?_ _)); refine blk_far ?_ NB331_339.out _; (with_reducible repeat (first | refine bN ?_ _ | refine bD ?_ | refine bA ?_ _)); refine blk_far ?_ NB331_339.out _; (with_reducible repeat (first | refine bN ?_ _ | refine bD ?_ | refine bA ?_ _)); exact BK331.out⟩, ⟨by repeat (first | (with_reducible first | exact HB.out | apply wA | apply wN | apply wD | refine below_set ?_ GE330.out | refine below_set ?_ GE331.out | refine below_set ?_ GE339.out) | exact HB.out)⟩⟩
            · rw [if_neg c13] at H
              have c13b0 : (t338 == 0) = false := beq_eq_false_iff_ne.mpr c13
              have c13b1 : (t338 != 0) = true := bne_iff_ne.mpr c13
              simp only [Option.some.injEq, Prod.mk.injEq] at H
              obtain ⟨rfl, rfl, rfl, rfl⟩ := H
              obtain ⟨Ao27, co27, eo27⟩ := Kd.V_slice HO_331001.out
              subst eo27
              try go_wp2
              have n0_ := ak (vD HO_331001.out)
              have n1_ := ak (bD BK330.out)
              have n2_ := ak (bD BK331.out)
              have n3_ := ak (wD HB.out)
              clear HO_331001 BK330 BK331 HB
              have HO_331001 := n0_
              have BK330 := n1_
              have BK331 := n2_
              have HB := n3_
              clear n0_ n1_ n2_ n3_
              have p333 : 0 ≤ (x8_1 : Int) := of_decide_eq_true (by first | (with_reducible assumption) | assumption)
              have q333 : x8_1 < (l1.length : Int) := of_decide_eq_true (by first | (with_reducible assumption) | assumption)
              obtain ⟨ad333, e333, hx333_0, hx333_1⟩ := at_T46 HR1.out x8_1 p333 q333
              have hw333_1 := hx333_1
              have hw333_0 := hx333_0
              cases e333
              replace hx333_0 := (HB.out.cell (World.block_lt_of_cell? w _ hx333_0)).trans hx333_0
              replace hx333_1 := (HB.out.cell (World.block_lt_of_cell? w _ hx333_1)).trans hx333_1
              replace p333 := eq_true p333
              replace q333 := eq_true q333
              refine start_ (n := 12) (S := fun w' => w'.cell? ⟨gb330, 0, none⟩ = some (.int .i64 x331000_1) ∧ w'.cell? ⟨gb330, 1, none⟩ = some (.slice Ao27 x331001_1.length co27) ∧ w'.cell? (ad333.add ((x8_1).toNat * 2)) = some (.int .i64 ((rd_T46 l1 x8_1).f0)) ∧ w'.cell? ⟨(ad333.add ((x8_1).toNat * 2)).block, (ad333.add ((x8_1).toNat * 2)).off + 1, none⟩ = some (.int .i64 ((rd_T46 l1 x8_1).f1))) (ds := []) #[false, false, false, false, false, false, false, false, false, false, false, false] (by kernel_rfl) rfl rfl ⟨(blk_cell BK330.out 0).trans rfl, (blk_cell BK330.out 1).trans rfl, ((HB.out.cell (World.block_lt_of_cell? w _ hw333_0)).trans hw333_0), ((HB.out.cell (World.block_lt_of_cell? w _ hw333_1)).trans hw333_1)⟩ (fun hHeld => ?_); refine with_tabW mummerref16_Run.tab7 mummerref16_Run.bits7 (fun HT_ HW_ => ?_)
              generalize wr.drew = w28 at HO_331001 BK330 BK331 HB hx333_0 hx333_1 hHeld ⊢
              refine pure_ (i := 1) (N := some 25) (v := ?_) (a' := ?_) #[false, true, false, false, false, false, false, false, false, false, false, false] rfl rfl (any_of HT_.out (by kernel_rfl)) (fun _ _ _ h => h) (Or.inl ⟨by rfl, ?_⟩) ?_ ?_
              rotate_left
              · intro w'
                go_simp
                with_reducible rfl
              rotate_left
              · simp only [Act.put, List.setIfInBounds_toArray, List.set_cons_zero, List.set_cons_succ, i64_w, i32_w]
                rfl
              refine pure_ (i := 2) (N := some 26) (v := ?_) (a' := ?_) #[false, true, true, false, false, false, false, false, false, false, false, false] rfl rfl (any_of HT_.out (by kernel_rfl)) (fun _ _ _ h => h) (Or.inl ⟨by rfl, ?_⟩) ?_ ?_
              rotate_left
              · intro w'
                go_simp
                with_reducible rfl
              rotate_left
              · simp only [Act.put, List.setIfInBounds_toArray, List.set_cons_zero, List.set_cons_succ, i64_w, i32_w]
                rfl
              refine pure_ (i := 3) (N := some 27) (v := ?_) (a' := ?_) #[false, true, true, true, false, false, false, false, false, false, false, false] rfl rfl (any_of HT_.out (by kernel_rfl)) (fun _ _ _ h => h) (Or.inl ⟨by rfl, ?_⟩) ?_ ?_
              rotate_left
              · intro w'
                go_simp
                with_reducible rfl
              rotate_left
              · simp only [Act.put, List.setIfInBounds_toArray, List.set_cons_zero, List.set_cons_succ, i64_w, i32_w]
                rfl
              refine take_ (i := 0) (N := some 24) (v := ?_) (a' := ?_) #[true, true, true, true, false, false, false, false, false, false, false, false] rfl rfl (take_ofW HT_.out HW_.out (by kernel_rfl)) (fun _ _ _ h => h) (Or.inl ⟨by rfl, ?_⟩) hHeld ?_ ?_
              rotate_left
              · rintro w' ⟨s0, s1, s2, s3⟩
                go_simp
                with_reducible rfl
              rotate_left
              · simp only [Act.put, List.setIfInBounds_toArray, List.set_cons_zero, List.set_cons_succ, i64_w, i32_w]
                rfl
              refine take_ (i := 4) (N := some 28) (v := ?_) (a' := ?_) #[true, true, true, true, true, false, false, false, false, false, false, false] rfl rfl (take_ofW HT_.out HW_.out (by kernel_rfl)) (fun _ _ _ h => h) (Or.inl ⟨by rfl, ?_⟩) hHeld ?_ ?_
              rotate_left
              · rintro w' ⟨s0, s1, s2, s3⟩
                go_simp
                with_reducible rfl
              rotate_left
              · simp only [Act.put, List.setIfInBounds_toArray, List.set_cons_zero, List.set_cons_succ, i64_w, i32_w]
                rfl
              refine join_ (σ := Value × Nat) 2 #[true, true, true, true, true, true, true, true, true, true, false, false] (fun s_ => [(29, .tuple #[.agg #[.int .i64 t334, s_.1], .int .i64 t338]), (9, .pointer (some ⟨s_.2, 0, none⟩)), (23, .tuple #[.agg #[.int .i64 t334, s_.1], .int .i64 t338]), (30, .agg #[.int .i64 t334, s_.1]), (31, .int .i64 t338)]) (fun s_ w' => (w'.cell? ⟨gb330, 0, none⟩ = some (.int .i64 x331000_1) ∧ w'.cell? ⟨gb330, 1, none⟩ = some (.slice Ao27 x331001_1.length co27) ∧ w'.cell? (ad333.add ((x8_1).toNat * 2)) = some (.int .i64 ((rd_T46 l1 x8_1).f0)) ∧ w'.cell? ⟨(ad333.add ((x8_1).toNat * 2)).block, (ad333.add ((x8_1).toNat * 2)).off + 1, none⟩ = some (.int .i64 ((rd_T46 l1 x8_1).f1))) ∧ (Kd.V (Kd.int .i64) 2 w' w.heap.size (fun k_ => (P0_1_ k_ ∨ w.heap.size ≤ k_) ∧ k_ ≠ gb330 ∧ k_ ≠ gb331 ∧ k_ ≠ s_.2) s_.1 t335) ∧ (Kd.V (Kd.int .i64) 2 w' w.heap.size (fun k_ => (P0_1_ k_ ∨ w.heap.size ≤ k_) ∧ k_ ≠ gb330 ∧ k_ ≠ gb331 ∧ k_ ≠ s_.2) (.slice Ao27 x331001_1.length co27) x331001_1) ∧ (w'.heap[gb330]? = some (.cells #[.int .i64 x331000_1, .slice Ao27 x331001_1.length co27] 24 (0, 0))) ∧ (w'.heap[gb331]? = some (.cells #[.int .i64 x332000_1, .slice none 0 0] 24 (0, 0))) ∧ (w'.heap[s_.2]? = some (.cells #[.int .i64 0, .slice none 0 0] 24 (0, 0))) ∧ (w.heap.size ≤ s_.2) ∧ (w.heap.size ≤ s_.2) ∧ (gb330 ≠ s_.2) ∧ (s_.2 ≠ gb330) ∧ (gb331 ≠ s_.2) ∧ (s_.2 ≠ gb331) ∧ (Below w.heap.size w w')) ?_ ?_
              rotate_left
              · intro hCont
                refine two_ (i := 5) (j := 9) (Ni := some 29) (Nj := some 9) #[true, true, true, true, true, true, false, false, false, false, false, false] #[true, true, true, true, true, false, false, false, false, true, false, false] rfl rfl rfl rfl (two_of HT_.out (by kernel_rfl)) (by decide) (by decide) (fun K hK => ?_) (fun K hK => ?_)
                · skip
                  refine goes_ Try.func23 (by kernel_rfl) rfl #[.agg #[.int .i64 x331000_1, .slice Ao27 x331001_1.length co27], .agg #[.int .i64 ((rd_T46 l1 x8_1).f0), .int .i64 ((rd_T46 l1 x8_1).f1)]] (by rfl) rfl rfl (by (try simp only [List.map_toArray, List.map_cons, List.map_nil]); first | done | rfl | (simp only [List.length_drop, List.length_take]; rfl)) ?_
                  with_reducible refine (mummerref16_Step.calls k1 x331000_1 (fun k_ => ((P0_1_ k_ ∨ w.heap.size ≤ k_) ∧ (k_ ≠ gb330 ∧ k_ ≠ gb331))) _ _ x331001_1 ((rd_T46 l1 x8_1).f0) ((rd_T46 l1 x8_1).f1) t334 t335 t338 _ ?side1 A12.out).mono ?_
                  (case side1 => exact HO_331001.out)
                  rintro e w29 ⟨v336, rfl, ho0, hb⟩
                  refine ⟨_, rfl, ?_⟩
                  have n0_ := ak (Kd.V_below (by (with_reducible repeat (first | apply vA | apply vN | apply vD)); exact HO_331001.out) hb)
                  have n1_ := ak (Kd.V_lower (Kd.V_mono (ok' := fun k_ => (P0_1_ k_ ∨ w.heap.size ≤ k_) ∧ k_ ≠ gb330 ∧ k_ ≠ gb331) ho0 (fun k_ hk_ => ⟨Or.elim hk_ (fun hs_ => hs_.1) (fun hn_ => (.inr (Nat.le_trans (below_size (by repeat (first | (with_reducible first | exact HB.out | apply wA | apply wN | apply wD | refine below_set ?_ GE330.out | refine below_set ?_ GE331.out) | exact HB.out))) hn_))), Or.elim hk_ (fun hs_ => hs_.2.1) (fun hn_ => (Kd.freshB (g := gb330) (o := .cells #[.int .i64 x331000_1, .slice Ao27 x331001_1.length co27] 24 (0, 0)) (by (with_reducible repeat (first | refine bN ?_ _ | refine bD ?_ | refine bA ?_ _)); exact BK330.out) k_ hn_)), Or.elim hk_ (fun hs_ => hs_.2.2) (fun hn_ => (Kd.freshB (g := gb331) (o := .cells #[.int .i64 x332000_1, .slice none 0 0] 24 (0, 0)) (by (with_reducible repeat (first | refine bN ?_ _ | refine bD ?_ | refine bA ?_ _)); exact BK331.out) k_ hn_))⟩)) (below_size (by repeat (first | (with_reducible first | exact HB.out | apply wA | apply wN | apply wD | refine below_set ?_ GE330.out | refine below_set ?_ GE331.out) | exact HB.out))))
                  have n2_ := ak (blk_below (g := gb330) (o := .cells #[.int .i64 x331000_1, .slice Ao27 x331001_1.length co27] 24 (0, 0)) (by (with_reducible repeat (first | refine bN ?_ _ | refine bD ?_ | refine bA ?_ _)); exact BK330.out) hb)
                  have n3_ := ak (blk_below (g := gb331) (o := .cells #[.int .i64 x332000_1, .slice none 0 0] 24 (0, 0)) (by (with_reducible repeat (first | refine bN ?_ _ | refine bD ?_ | refine bA ?_ _)); exact BK331.out) hb)
                  have n4_ := ak (below_step (by repeat (first | (with_reducible first | exact HB.out | apply wA | apply wN | apply wD | refine below_set ?_ GE330.out | refine below_set ?_ GE331.out) | exact HB.out)) hb)
                  clear HO_331001 BK330 BK331 HB
                  have HO_331001 := n0_
                  have HO337 := n1_
                  have BK330 := n2_
                  have BK331 := n3_
                  have HB := n4_
                  clear n0_ n1_ n2_ n3_ n4_
                  (try clear hb)
                  (try clear hb2)
                  (try clear hk)
                  (try clear hi)
                  (try clear ho0)
                  refine hK.out _ _ ⟨(blk_cell BK330.out 0).trans rfl, (blk_cell BK330.out 1).trans rfl, ((HB.out.cell (World.block_lt_of_cell? w _ hw333_0)).trans hw333_0), ((HB.out.cell (World.block_lt_of_cell? w _ hw333_1)).trans hw333_1)⟩ (fun hHeld => ?_)
                  clear hK K
                  refine norm_ (a' := ?_) ?_ ?_
                  rotate_left
                  · show Act.put _ (some 29) _ = _
                    simp only [Act.put, List.setIfInBounds_toArray, List.set_cons_zero, List.set_cons_succ, i64_w, i32_w]
                    rfl
                  refine pure_ (i := 6) (N := some 23) (v := ?_) (a' := ?_) #[true, true, true, true, true, true, true, false, false, false, false, false] rfl rfl (any_of HT_.out (by kernel_rfl)) (fun _ _ _ h => h) (Or.inl ⟨by rfl, ?_⟩) ?_ ?_
                  rotate_left
                  · intro w'
                    go_simp
                    with_reducible rfl
                  rotate_left
                  · simp only [Act.put, List.setIfInBounds_toArray, List.set_cons_zero, List.set_cons_succ, i64_w, i32_w]
                    rfl
                  refine pure_ (i := 7) (N := some 30) (v := ?_) (a' := ?_) #[true, true, true, true, true, true, true, true, false, false, false, false] rfl rfl (any_of HT_.out (by kernel_rfl)) (fun _ _ _ h => h) (Or.inl ⟨by rfl, ?_⟩) ?_ ?_
                  rotate_left
                  · intro w'
                    go_simp
                    with_reducible rfl
                  rotate_left
                  · simp only [Act.put, List.setIfInBounds_toArray, List.set_cons_zero, List.set_cons_succ, i64_w, i32_w]
                    rfl
                  refine pure_ (i := 8) (N := some 31) (v := ?_) (a' := ?_) #[true, true, true, true, true, true, true, true, true, false, false, false] rfl rfl (any_of HT_.out (by kernel_rfl)) (fun _ _ _ h => h) (Or.inl ⟨by rfl, ?_⟩) ?_ ?_
                  rotate_left
                  · intro w'
                    go_simp
                    with_reducible rfl
                  rotate_left
                  · simp only [Act.put, List.setIfInBounds_toArray, List.set_cons_zero, List.set_cons_succ, i64_w, i32_w]
                    rfl
                  refine one_ (i := 9) (N := some 9) #[true, true, true, true, true, true, true, true, true, true, false, false] rfl rfl (one_of HT_.out (by kernel_rfl)) (by decide) (fun K hK => ?_)
                  refine box_step ?hg (N := 9) ?hd (cs := #[.int .i64 0, .slice none 0 0]) (t := 24) ?hr ?_; (case hd => rfl); (case hg => rfl); (case hr => first | (go_simp; done) | (go_simp; rfl))
                  intro gb339 hg w30 hbox hb
                  have n0_ := ak (Kd.V_below (Kd.V_elderB (by (with_reducible repeat (first | apply vA | apply vN | apply vD)); exact HO_331001.out) gb339 (Nat.le_of_eq hg.symm)) hb)
                  have n1_ := ak (Kd.V_below (Kd.V_elderB (by (with_reducible repeat (first | apply vA | apply vN | apply vD)); exact HO337.out) gb339 (Nat.le_of_eq hg.symm)) hb)
                  have n2_ := ak (blk_below (g := gb330) (o := .cells #[.int .i64 x331000_1, .slice Ao27 x331001_1.length co27] 24 (0, 0)) (by (with_reducible repeat (first | refine bN ?_ _ | refine bD ?_ | refine bA ?_ _)); exact BK330.out) hb)
                  have n3_ := ak (blk_below (g := gb331) (o := .cells #[.int .i64 x332000_1, .slice none 0 0] 24 (0, 0)) (by (with_reducible repeat (first | refine bN ?_ _ | refine bD ?_ | refine bA ?_ _)); exact BK331.out) hb)
                  have n4_ := ak (below_step (by repeat (first | (with_reducible first | exact HB.out | apply wA | apply wN | apply wD | refine below_set ?_ GE330.out | refine below_set ?_ GE331.out) | exact HB.out)) hb)
                  have n5_ := ak (hbox)
                  have n6_ := ak ((by rw [hg]; exact (below_size (by repeat (first | (with_reducible first | exact HB.out | apply wA | apply wN | apply wD | refine below_set ?_ GE330.out | refine below_set ?_ GE331.out) | exact HB.out))) : w.heap.size ≤ gb339))
                  have n7_ := ak ((by rw [hg]; exact (below_size (by repeat (first | (with_reducible first | exact HB.out | apply wA | apply wN | apply wD | refine below_set ?_ GE330.out | refine below_set ?_ GE331.out) | exact HB.out))) : w.heap.size ≤ gb339))
                  have n8_ := ak ((by rw [hg]; exact Nat.ne_of_lt (blk_lt (g := gb330) (o := .cells #[.int .i64 x331000_1, .slice Ao27 x331001_1.length co27] 24 (0, 0)) (by (with_reducible repeat (first | refine bN ?_ _ | refine bD ?_ | refine bA ?_ _)); exact BK330.out)) : gb330 ≠ gb339))
                  have n9_ := ak ((by rw [hg]; exact Nat.ne_of_gt (blk_lt (g := gb330) (o := .cells #[.int .i64 x331000_1, .slice Ao27 x331001_1.length co27] 24 (0, 0)) (by (with_reducible repeat (first | refine bN ?_ _ | refine bD ?_ | refine bA ?_ _)); exact BK330.out)) : gb339 ≠ gb330))
                  have n10_ := ak ((by rw [hg]; exact Nat.ne_of_lt (blk_lt (g := gb331) (o := .cells #[.int .i64 x332000_1, .slice none 0 0] 24 (0, 0)) (by (with_reducible repeat (first | refine bN ?_ _ | refine bD ?_ | refine bA ?_ _)); exact BK331.out)) : gb331 ≠ gb339))
                  have n11_ := ak ((by rw [hg]; exact Nat.ne_of_gt (blk_lt (g := gb331) (o := .cells #[.int .i64 x332000_1, .slice none 0 0] 24 (0, 0)) (by (with_reducible repeat (first | refine bN ?_ _ | refine bD ?_ | refine bA ?_ _)); exact BK331.out)) : gb339 ≠ gb331))
                  clear HO_331001 HO337 BK330 BK331 HB
                  have HO_331001 := n0_
                  have HO337 := n1_
                  have BK330 := n2_
                  have BK331 := n3_
                  have HB := n4_
                  have BK339 := n5_
                  have GW339 := n6_
                  have GE339 := n7_
                  have NB330_339 := n8_
                  have NB339_330 := n9_
                  have NB331_339 := n10_
                  have NB339_331 := n11_
                  clear n0_ n1_ n2_ n3_ n4_ n5_ n6_ n7_ n8_ n9_ n10_ n11_ hb hbox hg
                  refine hK.out _ _ ⟨(blk_cell BK330.out 0).trans rfl, (blk_cell BK330.out 1).trans rfl, ((HB.out.cell (World.block_lt_of_cell? w _ hw333_0)).trans hw333_0), ((HB.out.cell (World.block_lt_of_cell? w _ hw333_1)).trans hw333_1)⟩ (fun hHeld => ?_)
                  clear hK K
                  refine norm_ (a' := ?_) ?_ ?_
                  rotate_left
                  · show Act.put _ (some 9) _ = _
                    simp only [Act.put, List.setIfInBounds_toArray, List.set_cons_zero, List.set_cons_succ, i64_w, i32_w]
                    rfl
                  exact norm_ (by simp only [putAll, Act.put, List.setIfInBounds_toArray, List.set_cons_zero, List.set_cons_succ]) (hCont (v336, gb339) _ ⟨hHeld, (by (with_reducible repeat (first | apply vA | apply vN | apply vD)); exact Kd.V_mono HO337.out (fun _ hk => by first | exact ⟨hk.1.1, ⟨hk.1.2.1, ⟨hk.1.2.2, hk.2⟩⟩⟩ | (simp only [ne_eq] at hk ⊢; simp [hk]))), (by (with_reducible repeat (first | apply vA | apply vN | apply vD)); exact Kd.V_mono HO_331001.out (fun _ hk => by first | exact ⟨hk.1.1, ⟨hk.1.2.1, ⟨hk.1.2.2, hk.2⟩⟩⟩ | (simp only [ne_eq] at hk ⊢; simp [hk]))), (by (with_reducible repeat (first | refine bN ?_ _ | refine bD ?_ | refine bA ?_ _)); exact BK330.out), (by (with_reducible repeat (first | refine bN ?_ _ | refine bD ?_ | refine bA ?_ _)); exact BK331.out), (by (with_reducible repeat (first | refine bN ?_ _ | refine bD ?_ | refine bA ?_ _)); exact BK339.out), GW339.out, GE339.out, NB330_339.out, NB339_330.out, NB331_339.out, NB339_331.out, (by repeat (first | (with_reducible first | exact HB.out | apply wA | apply wN | apply wD | refine below_set ?_ GE330.out | refine below_set ?_ GE331.out | refine below_set ?_ GE339.out) | exact HB.out))⟩)
                · skip
                  refine box_step ?hg (N := 9) ?hd (cs := #[.int .i64 0, .slice none 0 0]) (t := 24) ?hr ?_; (case hd => rfl); (case hg => rfl); (case hr => first | (go_simp; done) | (go_simp; rfl))
                  intro gb339 hg w29 hbox hb
                  have n0_ := ak (Kd.V_below (Kd.V_elderB (by (with_reducible repeat (first | apply vA | apply vN | apply vD)); exact HO_331001.out) gb339 (Nat.le_of_eq hg.symm)) hb)
                  have n1_ := ak (blk_below (g := gb330) (o := .cells #[.int .i64 x331000_1, .slice Ao27 x331001_1.length co27] 24 (0, 0)) (by (with_reducible repeat (first | refine bN ?_ _ | refine bD ?_ | refine bA ?_ _)); exact BK330.out) hb)
                  have n2_ := ak (blk_below (g := gb331) (o := .cells #[.int .i64 x332000_1, .slice none 0 0] 24 (0, 0)) (by (with_reducible repeat (first | refine bN ?_ _ | refine bD ?_ | refine bA ?_ _)); exact BK331.out) hb)
                  have n3_ := ak (below_step (by repeat (first | (with_reducible first | exact HB.out | apply wA | apply wN | apply wD | refine below_set ?_ GE330.out | refine below_set ?_ GE331.out) | exact HB.out)) hb)
                  have n4_ := ak (hbox)
                  have n5_ := ak ((by rw [hg]; exact (below_size (by repeat (first | (with_reducible first | exact HB.out | apply wA | apply wN | apply wD | refine below_set ?_ GE330.out | refine below_set ?_ GE331.out) | exact HB.out))) : w.heap.size ≤ gb339))
                  have n6_ := ak ((by rw [hg]; exact (below_size (by repeat (first | (with_reducible first | exact HB.out | apply wA | apply wN | apply wD | refine below_set ?_ GE330.out | refine below_set ?_ GE331.out) | exact HB.out))) : w.heap.size ≤ gb339))
                  have n7_ := ak ((by rw [hg]; exact Nat.ne_of_lt (blk_lt (g := gb330) (o := .cells #[.int .i64 x331000_1, .slice Ao27 x331001_1.length co27] 24 (0, 0)) (by (with_reducible repeat (first | refine bN ?_ _ | refine bD ?_ | refine bA ?_ _)); exact BK330.out)) : gb330 ≠ gb339))
                  have n8_ := ak ((by rw [hg]; exact Nat.ne_of_gt (blk_lt (g := gb330) (o := .cells #[.int .i64 x331000_1, .slice Ao27 x331001_1.length co27] 24 (0, 0)) (by (with_reducible repeat (first | refine bN ?_ _ | refine bD ?_ | refine bA ?_ _)); exact BK330.out)) : gb339 ≠ gb330))
                  have n9_ := ak ((by rw [hg]; exact Nat.ne_of_lt (blk_lt (g := gb331) (o := .cells #[.int .i64 x332000_1, .slice none 0 0] 24 (0, 0)) (by (with_reducible repeat (first | refine bN ?_ _ | refine bD ?_ | refine bA ?_ _)); exact BK331.out)) : gb331 ≠ gb339))
                  have n10_ := ak ((by rw [hg]; exact Nat.ne_of_gt (blk_lt (g := gb331) (o := .cells #[.int .i64 x332000_1, .slice none 0 0] 24 (0, 0)) (by (with_reducible repeat (first | refine bN ?_ _ | refine bD ?_ | refine bA ?_ _)); exact BK331.out)) : gb339 ≠ gb331))
                  clear HO_331001 BK330 BK331 HB
                  have HO_331001 := n0_
                  have BK330 := n1_
                  have BK331 := n2_
                  have HB := n3_
                  have BK339 := n4_
                  have GW339 := n5_
                  have GE339 := n6_
                  have NB330_339 := n7_
                  have NB339_330 := n8_
                  have NB331_339 := n9_
                  have NB339_331 := n10_
                  clear n0_ n1_ n2_ n3_ n4_ n5_ n6_ n7_ n8_ n9_ n10_ hb hbox hg
                  refine hK.out _ _ ⟨(blk_cell BK330.out 0).trans rfl, (blk_cell BK330.out 1).trans rfl, ((HB.out.cell (World.block_lt_of_cell? w _ hw333_0)).trans hw333_0), ((HB.out.cell (World.block_lt_of_cell? w _ hw333_1)).trans hw333_1)⟩ (fun hHeld => ?_)
                  clear hK K
                  refine norm_ (a' := ?_) ?_ ?_
                  rotate_left
                  · show Act.put _ (some 9) _ = _
                    simp only [Act.put, List.setIfInBounds_toArray, List.set_cons_zero, List.set_cons_succ, i64_w, i32_w]
                    rfl
                  refine one_ (i := 5) (N := some 29) #[true, true, true, true, true, true, false, false, false, true, false, false] rfl rfl (one_of HT_.out (by kernel_rfl)) (by decide) (fun K hK => ?_)
                  refine goes_ Try.func23 (by kernel_rfl) rfl #[.agg #[.int .i64 x331000_1, .slice Ao27 x331001_1.length co27], .agg #[.int .i64 ((rd_T46 l1 x8_1).f0), .int .i64 ((rd_T46 l1 x8_1).f1)]] (by rfl) rfl rfl (by (try simp only [List.map_toArray, List.map_cons, List.map_nil]); first | done | rfl | (simp only [List.length_drop, List.length_take]; rfl)) ?_
                  with_reducible refine (mummerref16_Step.calls k1 x331000_1 (fun k_ => (((P0_1_ k_ ∨ w.heap.size ≤ k_) ∧ (k_ ≠ gb330 ∧ k_ ≠ gb331)) ∧ k_ ≠ gb339)) _ _ x331001_1 ((rd_T46 l1 x8_1).f0) ((rd_T46 l1 x8_1).f1) t334 t335 t338 _ ?side1 A12.out).mono ?_
                  (case side1 => exact HO_331001.out)
                  rintro e w30 ⟨v336, rfl, ho0, hb⟩
                  refine ⟨_, rfl, ?_⟩
                  have n0_ := ak (Kd.V_below (by (with_reducible repeat (first | apply vA | apply vN | apply vD)); exact HO_331001.out) hb)
                  have n1_ := ak (Kd.V_lower (Kd.V_mono (ok' := fun k_ => (P0_1_ k_ ∨ w.heap.size ≤ k_) ∧ k_ ≠ gb330 ∧ k_ ≠ gb331 ∧ k_ ≠ gb339) ho0 (fun k_ hk_ => ⟨Or.elim hk_ (fun hs_ => hs_.1.1) (fun hn_ => (.inr (Nat.le_trans (below_size (by repeat (first | (with_reducible first | exact HB.out | apply wA | apply wN | apply wD | refine below_set ?_ GE330.out | refine below_set ?_ GE331.out | refine below_set ?_ GE339.out) | exact HB.out))) hn_))), Or.elim hk_ (fun hs_ => hs_.1.2.1) (fun hn_ => (Kd.freshB (g := gb330) (o := .cells #[.int .i64 x331000_1, .slice Ao27 x331001_1.length co27] 24 (0, 0)) (by (with_reducible repeat (first | refine bN ?_ _ | refine bD ?_ | refine bA ?_ _)); exact BK330.out) k_ hn_)), Or.elim hk_ (fun hs_ => hs_.1.2.2) (fun hn_ => (Kd.freshB (g := gb331) (o := .cells #[.int .i64 x332000_1, .slice none 0 0] 24 (0, 0)) (by (with_reducible repeat (first | refine bN ?_ _ | refine bD ?_ | refine bA ?_ _)); exact BK331.out) k_ hn_)), Or.elim hk_ (fun hs_ => hs_.2) (fun hn_ => (Kd.freshB (g := gb339) (o := .cells #[.int .i64 0, .slice none 0 0] 24 (0, 0)) (by (with_reducible repeat (first | refine bN ?_ _ | refine bD ?_ | refine bA ?_ _)); exact BK339.out) k_ hn_))⟩)) (below_size (by repeat (first | (with_reducible first | exact HB.out | apply wA | apply wN | apply wD | refine below_set ?_ GE330.out | refine below_set ?_ GE331.out | refine below_set ?_ GE339.out) | exact HB.out))))
                  have n2_ := ak (blk_below (g := gb330) (o := .cells #[.int .i64 x331000_1, .slice Ao27 x331001_1.length co27] 24 (0, 0)) (by (with_reducible repeat (first | refine bN ?_ _ | refine bD ?_ | refine bA ?_ _)); exact BK330.out) hb)
                  have n3_ := ak (blk_below (g := gb331) (o := .cells #[.int .i64 x332000_1, .slice none 0 0] 24 (0, 0)) (by (with_reducible repeat (first | refine bN ?_ _ | refine bD ?_ | refine bA ?_ _)); exact BK331.out) hb)
                  have n4_ := ak (blk_below (g := gb339) (o := .cells #[.int .i64 0, .slice none 0 0] 24 (0, 0)) (by (with_reducible repeat (first | refine bN ?_ _ | refine bD ?_ | refine bA ?_ _)); exact BK339.out) hb)
                  have n5_ := ak (below_step (by repeat (first | (with_reducible first | exact HB.out | apply wA | apply wN | apply wD | refine below_set ?_ GE330.out | refine below_set ?_ GE331.out | refine below_set ?_ GE339.out) | exact HB.out)) hb)
                  clear HO_331001 BK330 BK331 BK339 HB
                  have HO_331001 := n0_
                  have HO337 := n1_
                  have BK330 := n2_
                  have BK331 := n3_
                  have BK339 := n4_
                  have HB := n5_
                  clear n0_ n1_ n2_ n3_ n4_ n5_
                  (try clear hb)
                  (try clear hb2)
                  (try clear hk)
                  (try clear hi)
                  (try clear ho0)
                  refine hK.out _ _ ⟨(blk_cell BK330.out 0).trans rfl, (blk_cell BK330.out 1).trans rfl, ((HB.out.cell (World.block_lt_of_cell? w _ hw333_0)).trans hw333_0), ((HB.out.cell (World.block_lt_of_cell? w _ hw333_1)).trans hw333_1)⟩ (fun hHeld => ?_)
                  clear hK K
                  refine norm_ (a' := ?_) ?_ ?_
                  rotate_left
                  · show Act.put _ (some 29) _ = _
                    simp only [Act.put, List.setIfInBounds_toArray, List.set_cons_zero, List.set_cons_succ, i64_w, i32_w]
                    rfl
                  refine pure_ (i := 6) (N := some 23) (v := ?_) (a' := ?_) #[true, true, true, true, true, true, true, false, false, true, false, false] rfl rfl (any_of HT_.out (by kernel_rfl)) (fun _ _ _ h => h) (Or.inl ⟨by rfl, ?_⟩) ?_ ?_
                  rotate_left
                  · intro w'
                    go_simp
                    with_reducible rfl
                  rotate_left
                  · simp only [Act.put, List.setIfInBounds_toArray, List.set_cons_zero, List.set_cons_succ, i64_w, i32_w]
                    rfl
                  refine pure_ (i := 7) (N := some 30) (v := ?_) (a' := ?_) #[true, true, true, true, true, true, true, true, false, true, false, false] rfl rfl (any_of HT_.out (by kernel_rfl)) (fun _ _ _ h => h) (Or.inl ⟨by rfl, ?_⟩) ?_ ?_
                  rotate_left
                  · intro w'
                    go_simp
                    with_reducible rfl
                  rotate_left
                  · simp only [Act.put, List.setIfInBounds_toArray, List.set_cons_zero, List.set_cons_succ, i64_w, i32_w]
                    rfl
                  refine pure_ (i := 8) (N := some 31) (v := ?_) (a' := ?_) #[true, true, true, true, true, true, true, true, true, true, false, false] rfl rfl (any_of HT_.out (by kernel_rfl)) (fun _ _ _ h => h) (Or.inl ⟨by rfl, ?_⟩) ?_ ?_
                  rotate_left
                  · intro w'
                    go_simp
                    with_reducible rfl
                  rotate_left
                  · simp only [Act.put, List.setIfInBounds_toArray, List.set_cons_zero, List.set_cons_succ, i64_w, i32_w]
                    rfl
                  exact norm_ (by simp only [putAll, Act.put, List.setIfInBounds_toArray, List.set_cons_zero, List.set_cons_succ]) (hCont (v336, gb339) _ ⟨hHeld, (by (with_reducible repeat (first | apply vA | apply vN | apply vD)); exact HO337.out), (by (with_reducible repeat (first | apply vA | apply vN | apply vD)); exact Kd.V_mono HO_331001.out (fun _ hk => by first | exact ⟨hk.1.1, ⟨hk.1.2.1, ⟨hk.1.2.2, hk.2⟩⟩⟩ | (simp only [ne_eq] at hk ⊢; simp [hk]))), (by (with_reducible repeat (first | refine bN ?_ _ | refine bD ?_ | refine bA ?_ _)); exact BK330.out), (by (with_reducible repeat (first | refine bN ?_ _ | refine bD ?_ | refine bA ?_ _)); exact BK331.out), (by (with_reducible repeat (first | refine bN ?_ _ | refine bD ?_ | refine bA ?_ _)); exact BK339.out), GW339.out, GE339.out, NB330_339.out, NB339_330.out, NB331_339.out, NB339_331.out, (by repeat (first | (with_reducible first | exact HB.out | apply wA | apply wN | apply wD | refine below_set ?_ GE330.out | refine below_set ?_ GE331.out | refine below_set ?_ GE339.out) | exact HB.out))⟩)
              rintro ⟨v336, gb339⟩ w31 ⟨hS_, h0_, h1_, h2_, h3_, h4_, h5_, h6_, h7_, h8_, h9_, h10_, h11_⟩
              have n0_ : Aside0 (Kd.V (Kd.int .i64) 2 w31 w.heap.size (fun k_ => (P0_1_ k_ ∨ w.heap.size ≤ k_) ∧ k_ ≠ gb330 ∧ k_ ≠ gb331 ∧ k_ ≠ gb339) v336 t335) := ⟨h0_⟩
              have n1_ : Aside0 (Kd.V (Kd.int .i64) 2 w31 w.heap.size (fun k_ => (P0_1_ k_ ∨ w.heap.size ≤ k_) ∧ k_ ≠ gb330 ∧ k_ ≠ gb331 ∧ k_ ≠ gb339) (.slice Ao27 x331001_1.length co27) x331001_1) := ⟨h1_⟩
              have n2_ : Aside0 (w31.heap[gb330]? = some (.cells #[.int .i64 x331000_1, .slice Ao27 x331001_1.length co27] 24 (0, 0))) := ⟨h2_⟩
              have n3_ : Aside0 (w31.heap[gb331]? = some (.cells #[.int .i64 x332000_1, .slice none 0 0] 24 (0, 0))) := ⟨h3_⟩
              have n4_ : Aside0 (w31.heap[gb339]? = some (.cells #[.int .i64 0, .slice none 0 0] 24 (0, 0))) := ⟨h4_⟩
              have n5_ : Aside0 (w.heap.size ≤ gb339) := ⟨h5_⟩
              have n6_ : Aside0 (w.heap.size ≤ gb339) := ⟨h6_⟩
              have n7_ : Aside0 (gb330 ≠ gb339) := ⟨h7_⟩
              have n8_ : Aside0 (gb339 ≠ gb330) := ⟨h8_⟩
              have n9_ : Aside0 (gb331 ≠ gb339) := ⟨h9_⟩
              have n10_ : Aside0 (gb339 ≠ gb331) := ⟨h10_⟩
              have n11_ : Aside0 (Below w.heap.size w w31) := ⟨h11_⟩
              clear HO_331001 BK330 BK331 HB h0_ h1_ h2_ h3_ h4_ h5_ h6_ h7_ h8_ h9_ h10_ h11_
              have HO337 := n0_
              have HO_331001 := n1_
              have BK330 := n2_
              have BK331 := n3_
              have BK339 := n4_
              have GW339 := n5_
              have GE339 := n6_
              have NB330_339 := n7_
              have NB339_330 := n8_
              have NB331_339 := n9_
              have NB339_331 := n10_
              have HB := n11_
              clear n0_ n1_ n2_ n3_ n4_ n5_ n6_ n7_ n8_ n9_ n10_ n11_
              have hHeld : w31.cell? ⟨gb330, 0, none⟩ = some (.int .i64 x331000_1) ∧ w31.cell? ⟨gb330, 1, none⟩ = some (.slice Ao27 x331001_1.length co27) ∧ w31.cell? (ad333.add ((x8_1).toNat * 2)) = some (.int .i64 ((rd_T46 l1 x8_1).f0)) ∧ w31.cell? ⟨(ad333.add ((x8_1).toNat * 2)).block, (ad333.add ((x8_1).toNat * 2)).off + 1, none⟩ = some (.int .i64 ((rd_T46 l1 x8_1).f1)) := hS_
              obtain ⟨Ao33, co33, eo33⟩ := Kd.V_slice HO337.out
              (first | subst eo33 | (injection eo33 with f1_ f2_ f3_; have f4_ := f1_.symm; have f5_ := f3_.symm; clear f1_ f2_ f3_; subst f4_; subst f5_))
              refine norm_ (a' := ?_) ?_ ?_
              rotate_left
              · simp only [putAll, Act.put, List.setIfInBounds_toArray, List.set_cons_zero, List.set_cons_succ]
                rfl
              refine one_ (i := 10) (N := none) #[true, true, true, true, true, true, true, true, true, true, true, false] rfl rfl (one_of HT_.out (by kernel_rfl)) (by decide) (fun K hK => ?_)
              have hs32 : w31.cell? ⟨gb339, 0, none⟩ = some (.int .i64 0) := (blk_cell BK339.out 0).trans rfl
              have hfs32 := blk_frozen BK339.out 0
              have hns32_0 := NB330_339.out
              have hns32_1 := NB331_339.out
              have hms32_0 := NB339_330.out
              have hms32_1 := NB339_331.out
              have hs34 : w31.cell? ⟨gb339, 1, none⟩ = some (.slice none 0 0) := (blk_cell BK339.out 1).trans rfl
              have hfs34 := blk_frozen BK339.out 1
              have hns34_0 := NB330_339.out
              have hns34_1 := NB331_339.out
              have hms34_0 := NB339_330.out
              have hms34_1 := NB339_331.out
              refine skip_ (w1 := ?_) (by rfl) rfl ?_ ?_
              rotate_left
              · go_simp
                rfl
              refine hK.out _ _ ⟨((cell_far (p := ⟨gb339, _, none⟩) NB330_339.out _).trans (((cell_far (p := ⟨gb339, _, none⟩) NB330_339.out _).trans (hHeld.1)))), ((cell_far (p := ⟨gb339, _, none⟩) NB330_339.out _).trans (((cell_far (p := ⟨gb339, _, none⟩) NB330_339.out _).trans (hHeld.2.1)))), ((cell_far (p := ⟨gb339, _, none⟩) (by first | exact Nat.ne_of_lt (Nat.lt_of_lt_of_le (by have := World.block_lt_of_cell? _ _ hw333_0; first | rwa [add_block] at this | exact this) GW339.out) | (rw [add_block]; exact Nat.ne_of_lt (Nat.lt_of_lt_of_le (by have := World.block_lt_of_cell? _ _ hw333_0; first | rwa [add_block] at this | exact this) GW339.out)) | (show (Addr.add _ _).block ≠ _; rw [add_block]; exact Nat.ne_of_lt (Nat.lt_of_lt_of_le (by have := World.block_lt_of_cell? _ _ hw333_0; first | rwa [add_block] at this | exact this) GW339.out)) | (dsimp only; exact Nat.ne_of_lt (Nat.lt_of_lt_of_le (by have := World.block_lt_of_cell? _ _ hw333_0; first | rwa [add_block] at this | exact this) GW339.out))) _).trans (((cell_far (p := ⟨gb339, _, none⟩) (by first | exact Nat.ne_of_lt (Nat.lt_of_lt_of_le (by have := World.block_lt_of_cell? _ _ hw333_0; first | rwa [add_block] at this | exact this) GW339.out) | (rw [add_block]; exact Nat.ne_of_lt (Nat.lt_of_lt_of_le (by have := World.block_lt_of_cell? _ _ hw333_0; first | rwa [add_block] at this | exact this) GW339.out)) | (show (Addr.add _ _).block ≠ _; rw [add_block]; exact Nat.ne_of_lt (Nat.lt_of_lt_of_le (by have := World.block_lt_of_cell? _ _ hw333_0; first | rwa [add_block] at this | exact this) GW339.out)) | (dsimp only; exact Nat.ne_of_lt (Nat.lt_of_lt_of_le (by have := World.block_lt_of_cell? _ _ hw333_0; first | rwa [add_block] at this | exact this) GW339.out))) _).trans (hHeld.2.2.1)))), ((cell_far (p := ⟨gb339, _, none⟩) (by first | exact Nat.ne_of_lt (Nat.lt_of_lt_of_le (by have := World.block_lt_of_cell? _ _ hw333_1; first | rwa [add_block] at this | exact this) GW339.out) | (rw [add_block]; exact Nat.ne_of_lt (Nat.lt_of_lt_of_le (by have := World.block_lt_of_cell? _ _ hw333_1; first | rwa [add_block] at this | exact this) GW339.out)) | (show (Addr.add _ _).block ≠ _; rw [add_block]; exact Nat.ne_of_lt (Nat.lt_of_lt_of_le (by have := World.block_lt_of_cell? _ _ hw333_1; first | rwa [add_block] at this | exact this) GW339.out)) | (dsimp only; exact Nat.ne_of_lt (Nat.lt_of_lt_of_le (by have := World.block_lt_of_cell? _ _ hw333_1; first | rwa [add_block] at this | exact this) GW339.out))) _).trans (((cell_far (p := ⟨gb339, _, none⟩) (by first | exact Nat.ne_of_lt (Nat.lt_of_lt_of_le (by have := World.block_lt_of_cell? _ _ hw333_1; first | rwa [add_block] at this | exact this) GW339.out) | (rw [add_block]; exact Nat.ne_of_lt (Nat.lt_of_lt_of_le (by have := World.block_lt_of_cell? _ _ hw333_1; first | rwa [add_block] at this | exact this) GW339.out)) | (show (Addr.add _ _).block ≠ _; rw [add_block]; exact Nat.ne_of_lt (Nat.lt_of_lt_of_le (by have := World.block_lt_of_cell? _ _ hw333_1; first | rwa [add_block] at this | exact this) GW339.out)) | (dsimp only; exact Nat.ne_of_lt (Nat.lt_of_lt_of_le (by have := World.block_lt_of_cell? _ _ hw333_1; first | rwa [add_block] at this | exact this) GW339.out))) _).trans (hHeld.2.2.2))))⟩ (fun hHeld => ?_)
              clear hK K
              refine pure_ (i := 11) (N := some 10) (v := ?_) (a' := ?_) #[true, true, true, true, true, true, true, true, true, true, true, true] rfl rfl (any_of HT_.out (by kernel_rfl)) (fun _ _ _ h => h) (Or.inl ⟨by rfl, ?_⟩) ?_ ?_
              rotate_left
              · intro w'
                go_simp
                with_reducible rfl
              rotate_left
              · simp only [Act.put, List.setIfInBounds_toArray, List.set_cons_zero, List.set_cons_succ, i64_w, i32_w]
                rfl
              refine done_ (done_of HT_.out (by kernel_rfl)) ?_
              have hnb35 := NB330_331.out
              have hnc35 := NB331_330.out
              have hnb36 := NB330_339.out
              have hnc36 := NB339_330.out
              have hcz37_0 : w31.cell? ⟨gb330, 0, none⟩ = some (.int .i64 x331000_1) := (blk_cell BK330.out 0).trans rfl
              have hcz37_1 : w31.cell? ⟨gb330, 1, none⟩ = some (.slice Ao27 x331001_1.length co27) := (blk_cell BK330.out 1).trans rfl
              have hfz37_0 := blk_frozen BK330.out 0
              have hfz37_1 := blk_frozen BK330.out 1
              have hnb38 := NB331_339.out
              have hnc38 := NB339_331.out
              have hcz39_0 : w31.cell? ⟨gb331, 0, none⟩ = some (.int .i64 x332000_1) := (blk_cell BK331.out 0).trans rfl
              have hcz39_1 : w31.cell? ⟨gb331, 1, none⟩ = some (.slice none 0 0) := (blk_cell BK331.out 1).trans rfl
              have hfz39_0 := blk_frozen BK331.out 0
              have hfz39_1 := blk_frozen BK331.out 1
              try go_wp2
              refine bodyPost_ret (results_ctt rfl _ _ gb331 24 #[.int .i64 x331000_1, .slice Ao27 x331001_1.length co27] (0, 0) _ rfl (by (with_reducible repeat (first | refine bN ?_ _ | refine bD ?_ | refine bA ?_ _)); refine blk_put (cs := #[.int .i64 x331000_1, .slice none 0 0]) ?_ 1 _ rfl; (with_reducible repeat (first | refine bN ?_ _ | refine bD ?_ | refine bA ?_ _)); refine blk_put (cs := #[.int .i64 x332000_1, .slice none 0 0]) ?_ 0 _ rfl; (with_reducible repeat (first | refine bN ?_ _ | refine bD ?_ | refine bA ?_ _)); refine blk_far ?_ NB331_339.out _; (with_reducible repeat (first | refine bN ?_ _ | refine bD ?_ | refine bA ?_ _)); refine blk_far ?_ NB331_339.out _; (with_reducible repeat (first | refine bN ?_ _ | refine bD ?_ | refine bA ?_ _)); exact BK331.out) Try.underlying24 rfl (by kernel_rfl)) rfl ?_
              exact ⟨_, by first | rfl | (simp [errW_none, errW_some] <;> rfl) | (simp [*, errW_none, errW_some] <;> rfl), by (with_reducible repeat (first | apply vA | apply vN | apply vD)); exact Kd.V_mono (Kd.V_far (p := ⟨gb331, 1, none⟩) (Kd.V_far (p := ⟨gb331, 0, none⟩) (Kd.V_far (p := ⟨gb339, 1, none⟩) (Kd.V_far (p := ⟨gb339, 0, none⟩) (Kd.V_mono (Kd.V_mono HO_331001.out (fun k_ hk => (⟨hk, by first | exact hk.2.2.2 | exact hk.2.2 | exact hk.2.1 | omega⟩ : _ ∧ k_ ≠ gb339))) (fun k_ hk => (⟨hk, by first | exact hk.1.2.2.1 | exact hk.2.2 | exact hk.2.1 | omega⟩ : _ ∧ k_ ≠ gb331))) (fun _ hk => hk.1.2) (.int .i64 t334)) (fun _ hk => hk.1.2) (.slice Ao33 t335.length co33)) (fun _ hk => hk.2) (.int .i64 x331000_1)) (fun _ hk => hk.2) (.slice Ao27 x331001_1.length co27)) (fun _ hk => by first | exact hk.1.1.1 | exact hk.1.1 | exact hk.1 | exact hk), by repeat (first | (with_reducible first | exact HB.out | apply wA | apply wN | apply wD | refine below_set ?_ GE330.out | refine below_set ?_ GE331.out | refine below_set ?_ GE339.out) | exact HB.out)⟩
          · rw [if_neg c11] at H
            exact absurd H (by simp)
        · rw [if_neg c10] at H
          have c10b0 : decide (x8_1 < (l1.length : Int)) = false := decide_eq_false c10
          clear c10
          simp only [Option.some.injEq, Prod.mk.injEq] at H
          obtain ⟨rfl, rfl, rfl, rfl⟩ := H
          have hnb40 := NB330_331.out
          have hnc40 := NB331_330.out
          have hcz41_0 : wr.cell? ⟨gb330, 0, none⟩ = some (.int .i64 x331000_1) := (blk_cell BK330.out 0).trans rfl
          have hcz41_1 : wr.cell? ⟨gb330, 1, none⟩ = some (u331001) := (blk_cell BK330.out 1).trans rfl
          have hfz41_0 := blk_frozen BK330.out 0
          have hfz41_1 := blk_frozen BK330.out 1
          have hcz42_0 : wr.cell? ⟨gb331, 0, none⟩ = some (.int .i64 x332000_1) := (blk_cell BK331.out 0).trans rfl
          have hcz42_1 : wr.cell? ⟨gb331, 1, none⟩ = some (.slice none 0 0) := (blk_cell BK331.out 1).trans rfl
          have hfz42_0 := blk_frozen BK331.out 0
          have hfz42_1 := blk_frozen BK331.out 1
          obtain ⟨Ao43, co43, eo43⟩ := Kd.V_slice HO_331001.out
          subst eo43
          go_wp2
          refine bodyPost_ret (results_ctt rfl _ _ gb331 24 #[.int .i64 x331000_1, .slice Ao43 x331001_1.length co43] (0, 0) _ rfl (by (with_reducible repeat (first | refine bN ?_ _ | refine bD ?_ | refine bA ?_ _)); refine blk_put (cs := #[.int .i64 x331000_1, .slice none 0 0]) ?_ 1 _ rfl; (with_reducible repeat (first | refine bN ?_ _ | refine bD ?_ | refine bA ?_ _)); refine blk_put (cs := #[.int .i64 x332000_1, .slice none 0 0]) ?_ 0 _ rfl; (with_reducible repeat (first | refine bN ?_ _ | refine bD ?_ | refine bA ?_ _)); exact BK331.out) Try.underlying24 rfl (by kernel_rfl)) rfl ?_
          exact ⟨_, by first | rfl | (simp [errW_none, errW_some] <;> rfl) | (simp [*, errW_none, errW_some] <;> rfl), by (with_reducible repeat (first | apply vA | apply vN | apply vD)); exact Kd.V_mono (Kd.V_far (p := ⟨gb331, 1, none⟩) (Kd.V_far (p := ⟨gb331, 0, none⟩) (Kd.V_mono HO_331001.out (fun k_ hk => (⟨hk, by first | exact hk.2.2 | exact hk.2.2 | exact hk.2.1 | omega⟩ : _ ∧ k_ ≠ gb331))) (fun _ hk => hk.2) (.int .i64 x331000_1)) (fun _ hk => hk.2) (.slice Ao43 x331001_1.length co43)) (fun _ hk => by first | exact hk.1.1 | exact hk.1 | exact hk), by repeat (first | (with_reducible first | exact HB.out | apply wA | apply wN | apply wD | refine below_set ?_ GE330.out | refine below_set ?_ GE331.out) | exact HB.out)⟩
  · rw [if_neg c4] at H
    have c4b0 : (t332 == 0) = false := beq_eq_false_iff_ne.mpr c4
    have c4b1 : (t332 != 0) = true := bne_iff_ne.mpr c4
    simp only [Option.some.injEq, Prod.mk.injEq] at H
    obtain ⟨rfl, rfl, rfl, rfl⟩ := H
    go_enter Try.func11, Try.ntmps11
    go_wp2_with (first | ((with_reducible refine gate_dst (N := 2) rfl ?_); refine box_event ?hg (N := 2) ?hd (cs := #[.int .i64 a0_0, .slice A0_1 l0_1.length c0_1]) (t := 24) ?hr ?_; (case hd => rfl); (case hg => rfl); (case hr => first | (go_simp; done) | (go_simp; rfl)); intro gb330 hg w44 hbox hb; have n0_ := ak (Kd.V_below (Kd.V_elderB (by (with_reducible repeat (first | apply vA | apply vN | apply vD)); exact HO0_1.out) gb330 (Nat.le_of_eq hg.symm)) hb); have n1_ := ak (below_step (by repeat (first | (with_reducible first | exact HB.out | apply wA | apply wN | apply wD) | exact HB.out)) hb); have n2_ := ak (hbox); have n3_ := ak ((by rw [hg]; exact (below_size (by repeat (first | (with_reducible first | exact HB.out | apply wA | apply wN | apply wD) | exact HB.out))) : w.heap.size ≤ gb330)); have n4_ := ak ((by rw [hg]; exact (below_size (by repeat (first | (with_reducible first | exact HB.out | apply wA | apply wN | apply wD) | exact HB.out))) : w.heap.size ≤ gb330)); clear HO0_1; clear HB; have HO0_1 := n0_; have HB := n1_; have BK330 := n2_; have GW330 := n3_; have GE330 := n4_; clear n0_ n1_ n2_ n3_ n4_; clear hb hbox hg) | ((with_reducible refine gate_dst (N := 4) rfl ?_); refine box_event ?hg (N := 4) ?hd (cs := #[.int .i64 0, .slice none 0 0]) (t := 24) ?hr ?_; (case hd => rfl); (case hg => rfl); (case hr => first | (go_simp; done) | (go_simp; rfl)); intro gb331 hg w45 hbox hb; have n0_ := ak (Kd.V_below (Kd.V_elderB (by (with_reducible repeat (first | apply vA | apply vN | apply vD)); exact HO0_1.out) gb331 (Nat.le_of_eq hg.symm)) hb); have n1_ := ak (blk_below (g := gb330) (o := .cells #[.int .i64 a0_0, .slice A0_1 l0_1.length c0_1] 24 (0, 0)) (by (with_reducible repeat (first | refine bN ?_ _ | refine bD ?_ | refine bA ?_ _)); exact BK330.out) hb); have n2_ := ak (below_step (by repeat (first | (with_reducible first | exact HB.out | apply wA | apply wN | apply wD | refine below_set ?_ GE330.out) | exact HB.out)) hb); have n3_ := ak (hbox); have n4_ := ak ((by rw [hg]; exact (below_size (by repeat (first | (with_reducible first | exact HB.out | apply wA | apply wN | apply wD | refine below_set ?_ GE330.out) | exact HB.out))) : w.heap.size ≤ gb331)); have n5_ := ak ((by rw [hg]; exact (below_size (by repeat (first | (with_reducible first | exact HB.out | apply wA | apply wN | apply wD | refine below_set ?_ GE330.out) | exact HB.out))) : w.heap.size ≤ gb331)); have n6_ := ak ((by rw [hg]; exact Nat.ne_of_lt (blk_lt (g := gb330) (o := .cells #[.int .i64 a0_0, .slice A0_1 l0_1.length c0_1] 24 (0, 0)) (by (with_reducible repeat (first | refine bN ?_ _ | refine bD ?_ | refine bA ?_ _)); exact BK330.out)) : gb330 ≠ gb331)); have n7_ := ak ((by rw [hg]; exact Nat.ne_of_gt (blk_lt (g := gb330) (o := .cells #[.int .i64 a0_0, .slice A0_1 l0_1.length c0_1] 24 (0, 0)) (by (with_reducible repeat (first | refine bN ?_ _ | refine bD ?_ | refine bA ?_ _)); exact BK330.out)) : gb331 ≠ gb330)); clear HO0_1; clear BK330; clear HB; have HO0_1 := n0_; have BK330 := n1_; have HB := n2_; have BK331 := n3_; have GW331 := n4_; have GE331 := n5_; have NB330_331 := n6_; have NB331_330 := n7_; clear n0_ n1_ n2_ n3_ n4_ n5_ n6_ n7_; clear hb hbox hg; have hnb46 := NB330_331.out; have hnc46 := NB331_330.out; have hcz47_0 : w45.cell? ⟨gb330, 0, none⟩ = some (.int .i64 a0_0) := (blk_cell BK330.out 0).trans rfl; have hcz47_1 : w45.cell? ⟨gb330, 1, none⟩ = some (.slice A0_1 l0_1.length c0_1) := (blk_cell BK330.out 1).trans rfl; have hfz47_0 := blk_frozen BK330.out 0; have hfz47_1 := blk_frozen BK330.out 1) | ((with_reducible refine gate_callee (f := 22) rfl ?_); refine goesL_ (some 12) rfl rfl Try.func22 (by kernel_rfl) rfl #[.agg #[.int .i64 a0_0, .slice A0_1 l0_1.length c0_1]] rfl (by (try simp only [List.map_toArray, List.map_cons, List.map_nil]); first | done | rfl | (simp only [List.length_drop, List.length_take]; rfl)) ?_; (with_reducible refine (mummerref16_Check.calls k a0_0 _ _ l0_1 t332 _ ?side1 ?side2 A3.out).mono ?_); (case side1 => repeat (first | exact (Kd.V_reads' HO0_1.out).2.2 | (with_reducible refine Kd.C_alloc ?_ _) | (with_reducible refine Kd.C_drewN ?_ _) | (with_reducible refine Kd.C_drew ?_))); (case side2 => exact (Kd.V_reads' HO0_1.out).2.1); rintro e w48 ⟨rfl, hb⟩; refine ⟨_, rfl, ?_⟩; have n0_ := ak (Kd.V_below (by (with_reducible repeat (first | apply vA | apply vN | apply vD)); exact HO0_1.out) hb); have n1_ := ak (blk_below (g := gb330) (o := .cells #[.int .i64 a0_0, .slice A0_1 l0_1.length c0_1] 24 (0, 0)) (by (with_reducible repeat (first | refine bN ?_ _ | refine bD ?_ | refine bA ?_ _)); exact BK330.out) hb); have n2_ := ak (blk_below (g := gb331) (o := .cells #[.int .i64 0, .slice none 0 0] 24 (0, 0)) (by (with_reducible repeat (first | refine bN ?_ _ | refine bD ?_ | refine bA ?_ _)); exact BK331.out) hb); have n3_ := ak (below_step (by repeat (first | (with_reducible first | exact HB.out | apply wA | apply wN | apply wD | refine below_set ?_ GE330.out | refine below_set ?_ GE331.out) | exact HB.out)) hb); clear HO0_1; clear BK330; clear BK331; clear HB; have HO0_1 := n0_; have BK330 := n1_; have BK331 := n2_; have HB := n3_; clear n0_ n1_ n2_ n3_; (try clear hb); (try clear hb2); (try clear hk); (try clear hi); have hcz49_0 : w48.cell? ⟨gb330, 0, none⟩ = some (.int .i64 a0_0) := (blk_cell BK330.out 0).trans rfl; have hcz49_1 : w48.cell? ⟨gb330, 1, none⟩ = some (.slice A0_1 l0_1.length c0_1) := (blk_cell BK330.out 1).trans rfl; have hfz49_0 := blk_frozen BK330.out 0; have hfz49_1 := blk_frozen BK330.out 1; have hcz50_0 : w48.cell? ⟨gb331, 0, none⟩ = some (.int .i64 0) := (blk_cell BK331.out 0).trans rfl; have hcz50_1 : w48.cell? ⟨gb331, 1, none⟩ = some (.slice none 0 0) := (blk_cell BK331.out 1).trans rfl; have hfz50_0 := blk_frozen BK331.out 0; have hfz50_1 := blk_frozen BK331.out 1))
    refine bodyPost_ret (results_ctt rfl _ _ gb331 24 #[.int .i64 a0_0, .slice A0_1 l0_1.length c0_1] (0, 0) _ rfl (by (with_reducible repeat (first | refine bN ?_ _ | refine bD ?_ | refine bA ?_ _)); refine blk_put (cs := #[.int .i64 a0_0, .slice none 0 0]) ?_ 1 _ rfl; (with_reducible repeat (first | refine bN ?_ _ | refine bD ?_ | refine bA ?_ _)); refine blk_put (cs := #[.int .i64 0, .slice none 0 0]) ?_ 0 _ rfl; (with_reducible repeat (first | refine bN ?_ _ | refine bD ?_ | refine bA ?_ _)); exact BK331.out) Try.underlying24 rfl (by kernel_rfl)) rfl ?_
    exact ⟨_, by first | rfl | (simp [errW_none, errW_some] <;> rfl) | (simp [*, errW_none, errW_some] <;> rfl), by (with_reducible repeat (first | apply vA | apply vN | apply vD)); exact Kd.V_mono (Kd.V_far (p := ⟨gb331, 1, none⟩) (Kd.V_far (p := ⟨gb331, 0, none⟩) (Kd.V_mono HO0_1.out (fun k_ hk => (⟨hk, by first | exact hk.2 | exact hk.2.2 | exact hk.2.1 | omega⟩ : _ ∧ k_ ≠ gb331))) (fun _ hk => hk.2) (.int .i64 a0_0)) (fun _ hk => hk.2) (.slice A0_1 l0_1.length c0_1)) (fun _ hk => by first | exact hk.1.1.1 | exact hk.1.1 | exact hk.1 | exact hk), by repeat (first | (with_reducible first | exact HB.out | apply wA | apply wN | apply wD | refine below_set ?_ GE330.out | refine below_set ?_ GE331.out) | exact HB.out)⟩

end Go.Proofs.Ytpophcogdekgkaa.P
