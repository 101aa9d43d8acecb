import Derived.Test.YtnkfdobcmfdhfaaDoorKX27
import Derived.Test.YtnkfdobcmfdhfaaDoorKX28
namespace Go.Proofs.YtnkfdobcmfdhfaaDoor.P
open Go.RowKit Go.Proofs.YtnkfdobcmfdhfaaDoorW.PrintWords Go.Proofs.YtnkfdobcmfdhfaaDoorW.PrintLast Go.Proofs.YtnkfdobcmfdhfaaDoorW.PrintMore
attribute [local go_sem] max2_int min2_int max_two min_two max_three min_three max_four min_four   -- for this text's walks alone
set_option linter.unusedVariables false
set_option linter.unusedSimpArgs false
def spans_Before.f (k : Nat) (a0_0 : Int) (a0_1 : Int) (a1_0 : Int) (a1_1 : Int) : Option (Bool × Int) := (spans_spans.f k (([(⟨a0_0, a0_1⟩ : S24), (⟨a1_0, a1_1⟩ : S24)] : List (S24)))).bind fun t294 => (if t294 = true then ((spans_before.f a0_0 a0_1 a1_0 a1_1).bind fun t295 => (some (t295, 0))) else (some (false, 6)))
set_option maxHeartbeats 8000000 in
set_option maxRecDepth 100000 in
theorem spans_Before.calls (k : Nat) (a0_0 : Int) (a0_1 : Int) (a1_0 : Int) (a1_1 : Int) (r1 : Bool) (r2 : Int) (w : World) (h : spans_Before.f k a0_0 a0_1 a1_0 a1_1 = some (r1, r2)) :
    Calls Tryd.prog 19 #[.agg #[.int .i64 a0_0, .int .i64 a0_1], .agg #[.int .i64 a1_0, .int .i64 a1_1]] w fun e w' => e = .returned (.tuple #[.bool r1, .int .i64 r2]) ∧ Below w.heap.size w w' := by
  have hu24 := Tryd.underlying24
  have HB := ak (Below.refl w.heap.size w)
  have H : ((spans_spans.f k (([(⟨a0_0, a0_1⟩ : S24), (⟨a1_0, a1_1⟩ : S24)] : List (S24)))).bind fun t294 => (if t294 = true then ((spans_before.f a0_0 a0_1 a1_0 a1_1).bind fun t295 => (some (t295, 0))) else (some (false, 6)))) = some (r1, r2) := h
  clear h
  obtain ⟨y291, hy291⟩ : ∃ y_ : List (S24), y_ = (([(⟨a0_0, a0_1⟩ : S24), (⟨a1_0, a1_1⟩ : S24)] : List (S24))) := ⟨_, rfl⟩
  replace H : ((spans_spans.f k y291).bind fun t294 => (if t294 = true then ((spans_before.f a0_0 a0_1 a1_0 a1_1).bind fun t295 => (some (t295, 0))) else (some (false, 6)))) = some (r1, r2) := by first | (rw [hy291]; with_reducible exact H) | (have H2_ := (Option.bind_some _ _).symm.trans H; rw [hy291]; with_reducible exact H2_) | (have H2_ := (Option.bind_some _ _).symm.trans H; with_reducible exact H2_) | with_reducible exact H | (rw [hy291]; exact H) | exact H
  have Ny291 := ak hy291
  clear hy291
  replace H := Option.bind_eq_some_iff.mp H
  obtain ⟨t294, A30, H⟩ := H
  replace H : (if t294 = true then ((spans_before.f a0_0 a0_1 a1_0 a1_1).bind fun t295 => (some (t295, 0))) else (some (false, 6))) = some (r1, r2) := H
  have A3 := ak A30
  clear A30
  by_cases c4 : t294 = true
  · subst c4
    have H1 : ((spans_before.f a0_0 a0_1 a1_0 a1_1).bind fun t295 => (some (t295, 0))) = some (r1, r2) := by rw [if_pos rfl] at H; exact H
    clear H
    have H := H1
    clear H1
    replace H := Option.bind_eq_some_iff.mp H
    obtain ⟨t295, A50, H⟩ := H
    replace H : (some (t295, 0)) = some (r1, r2) := H
    have A5 := ak A50
    clear A50
    simp only [Option.some.injEq, Prod.mk.injEq] at H
    obtain ⟨rfl, rfl⟩ := H
    go_enter Tryd.func19, Tryd.ntmps19
    go_wp2_with (first | ((with_reducible refine gate_dst (N := 2) rfl ?_); refine box_event ?hg (N := 2) ?hd (cs := #[.int .i64 a0_0, .int .i64 a0_1]) (t := 24) ?hr ?_; (case hd => rfl); (case hg => rfl); (case hr => first | (go_simp; done) | (go_simp; rfl)); intro gb289 hg w6 hbox hb; have n0_ := ak (below_step (by repeat (first | (with_reducible first | exact HB.out | apply wA | apply wN | apply wD) | exact HB.out)) hb); have n1_ := ak (hbox); have n2_ := ak ((by rw [hg]; exact (below_size (by repeat (first | (with_reducible first | exact HB.out | apply wA | apply wN | apply wD) | exact HB.out))) : w.heap.size ≤ gb289)); have n3_ := ak ((by rw [hg]; exact (below_size (by repeat (first | (with_reducible first | exact HB.out | apply wA | apply wN | apply wD) | exact HB.out))) : w.heap.size ≤ gb289)); clear HB; have HB := n0_; have BK289 := n1_; have GW289 := n2_; have GE289 := n3_; clear n0_ n1_ n2_ n3_; clear hb hbox hg) | ((with_reducible refine gate_dst (N := 3) rfl ?_); refine box_event ?hg (N := 3) ?hd (cs := #[.int .i64 a1_0, .int .i64 a1_1]) (t := 24) ?hr ?_; (case hd => rfl); (case hg => rfl); (case hr => first | (go_simp; done) | (go_simp; rfl)); intro gb290 hg w7 hbox hb; have n0_ := ak (blk_below (g := gb289) (o := .cells #[.int .i64 a0_0, .int .i64 a0_1] 24 (0, 0)) (by (with_reducible repeat (first | refine bN ?_ _ | refine bD ?_ | refine bA ?_ _)); exact BK289.out) hb); have n1_ := ak (below_step (by repeat (first | (with_reducible first | exact HB.out | apply wA | apply wN | apply wD | refine below_set ?_ GE289.out) | exact HB.out)) hb); have n2_ := ak (hbox); have n3_ := ak ((by rw [hg]; exact (below_size (by repeat (first | (with_reducible first | exact HB.out | apply wA | apply wN | apply wD | refine below_set ?_ GE289.out) | exact HB.out))) : w.heap.size ≤ gb290)); have n4_ := ak ((by rw [hg]; exact (below_size (by repeat (first | (with_reducible first | exact HB.out | apply wA | apply wN | apply wD | refine below_set ?_ GE289.out) | exact HB.out))) : w.heap.size ≤ gb290)); have n5_ := ak ((by rw [hg]; exact Nat.ne_of_lt (blk_lt (g := gb289) (o := .cells #[.int .i64 a0_0, .int .i64 a0_1] 24 (0, 0)) (by (with_reducible repeat (first | refine bN ?_ _ | refine bD ?_ | refine bA ?_ _)); exact BK289.out)) : gb289 ≠ gb290)); have n6_ := ak ((by rw [hg]; exact Nat.ne_of_gt (blk_lt (g := gb289) (o := .cells #[.int .i64 a0_0, .int .i64 a0_1] 24 (0, 0)) (by (with_reducible repeat (first | refine bN ?_ _ | refine bD ?_ | refine bA ?_ _)); exact BK289.out)) : gb290 ≠ gb289)); clear BK289; clear HB; have BK289 := n0_; have HB := n1_; have BK290 := n2_; have GW290 := n3_; have GE290 := n4_; have NB289_290 := n5_; have NB290_289 := n6_; clear n0_ n1_ n2_ n3_ n4_ n5_ n6_; clear hb hbox hg; have hnb8 := NB289_290.out; have hnc8 := NB290_289.out; have hcz9_0 : w7.cell? ⟨gb289, 0, none⟩ = some (.int .i64 a0_0) := (blk_cell BK289.out 0).trans rfl; have hcz9_1 : w7.cell? ⟨gb289, 1, none⟩ = some (.int .i64 a0_1) := (blk_cell BK289.out 1).trans rfl; have hfz9_0 := blk_frozen BK289.out 0; have hfz9_1 := blk_frozen BK289.out 1; have hcz10_0 : w7.cell? ⟨gb290, 0, none⟩ = some (.int .i64 a1_0) := (blk_cell BK290.out 0).trans rfl; have hcz10_1 : w7.cell? ⟨gb290, 1, none⟩ = some (.int .i64 a1_1) := (blk_cell BK290.out 1).trans rfl; have hfz10_0 := blk_frozen BK290.out 0; have hfz10_1 := blk_frozen BK290.out 1) | ((with_reducible refine gate_dst (N := 8) rfl ?_); refine Kd.R_lit k24 _ 24 ?hg (N := 8) ?hd (xs := ([(⟨a0_0, a0_1⟩ : S24), (⟨a1_0, a1_1⟩ : S24)] : List (S24))) (inner := [.int .i64 a0_0, .int .i64 a0_1, .int .i64 a1_0, .int .i64 a1_1]) (ok := fun _ => True) (okp := fun _ => True) ?hr ?hp (fun _ hk => hk) trivial (Below.refl _ _) (Nat.le_refl _) (by simp) ?_; (case hd => rfl); (case hg => rfl); (case hr => first | (go_simp; done) | (go_simp; rfl)); (case hp => exact (Reps.c2 (show Kd.M k24 _ _ _ (⟨a0_0, a0_1⟩ : S24) [.int .i64 a0_0, .int .i64 a0_1] from (k24_mkM _ _ _ (⟨a0_0, a0_1⟩ : S24) )) (Reps.c2 (show Kd.M k24 _ _ _ (⟨a1_0, a1_1⟩ : S24) [.int .i64 a1_0, .int .i64 a1_1] from (k24_mkM _ _ _ (⟨a1_0, a1_1⟩ : S24) )) (Reps.none _ _)))); intro v292 w11 ho12 hb hg_ hnew_; clear hg_ hnew_; (first | rw [← Ny291.out] at ho12 | (simp only [Int.reduceToNat] at ho12; rw [← Ny291.out] at ho12)); have n0_ := ak (Kd.R_lower (Kd.R_newB (Kd.R_newB ho12 (g := gb289) (o := .cells #[.int .i64 a0_0, .int .i64 a0_1] 24 (0, 0)) (by (with_reducible repeat (first | refine bN ?_ _ | refine bD ?_ | refine bA ?_ _)); exact BK289.out)) (g := gb290) (o := .cells #[.int .i64 a1_0, .int .i64 a1_1] 24 (0, 0)) (by (with_reducible repeat (first | refine bN ?_ _ | refine bD ?_ | refine bA ?_ _)); exact BK290.out)) (below_size (by repeat (first | (with_reducible first | exact HB.out | apply wA | apply wN | apply wD | refine below_set ?_ GE289.out | refine below_set ?_ GE290.out) | exact HB.out)))); have n1_ := ak (blk_below (g := gb289) (o := .cells #[.int .i64 a0_0, .int .i64 a0_1] 24 (0, 0)) (by (with_reducible repeat (first | refine bN ?_ _ | refine bD ?_ | refine bA ?_ _)); exact BK289.out) hb); have n2_ := ak (blk_below (g := gb290) (o := .cells #[.int .i64 a1_0, .int .i64 a1_1] 24 (0, 0)) (by (with_reducible repeat (first | refine bN ?_ _ | refine bD ?_ | refine bA ?_ _)); exact BK290.out) hb); have n3_ := ak (below_step (by repeat (first | (with_reducible first | exact HB.out | apply wA | apply wN | apply wD | refine below_set ?_ GE289.out | refine below_set ?_ GE290.out) | exact HB.out)) hb); clear BK289; clear BK290; clear HB; have HO293 := n0_; have BK289 := n1_; have BK290 := n2_; have HB := n3_; clear n0_ n1_ n2_ n3_; clear hb ho12; obtain ⟨Ao13, co13, eo13⟩ := Kd.R_slice HO293.out; subst eo13) | ((with_reducible refine gate_callee (f := 40) rfl ?_); refine goesL_ (some 9) rfl rfl Tryd.func40 (by kernel_rfl) rfl #[.slice Ao13 y291.length co13] rfl (by (try simp only [List.map_toArray, List.map_cons, List.map_nil]); first | done | rfl | (simp only [List.length_drop, List.length_take]; rfl)) ?_; (with_reducible refine (spans_spans.calls k _ _ y291 true _ ?side1 ?side2 A3.out).mono ?_); (case side1 => repeat (first | exact (Kd.R_reads' HO293.out).2.2 | (with_reducible refine Kd.C_alloc ?_ _) | (with_reducible refine Kd.C_drewN ?_ _) | (with_reducible refine Kd.C_drew ?_))); (case side2 => exact (Kd.R_reads' HO293.out).2.1); rintro e w14 ⟨rfl, hb⟩; refine ⟨_, rfl, ?_⟩; have n0_ := ak (Kd.R_below (by (with_reducible repeat (first | apply Kd.R_alloc | apply Kd.R_drewN | apply Kd.R_drew)); exact HO293.out) hb); have n1_ := ak (blk_below (g := gb289) (o := .cells #[.int .i64 a0_0, .int .i64 a0_1] 24 (0, 0)) (by (with_reducible repeat (first | refine bN ?_ _ | refine bD ?_ | refine bA ?_ _)); exact BK289.out) hb); have n2_ := ak (blk_below (g := gb290) (o := .cells #[.int .i64 a1_0, .int .i64 a1_1] 24 (0, 0)) (by (with_reducible repeat (first | refine bN ?_ _ | refine bD ?_ | refine bA ?_ _)); exact BK290.out) hb); have n3_ := ak (below_step (by repeat (first | (with_reducible first | exact HB.out | apply wA | apply wN | apply wD | refine below_set ?_ GE289.out | refine below_set ?_ GE290.out) | exact HB.out)) hb); clear HO293; clear BK289; clear BK290; clear HB; have HO293 := n0_; have BK289 := n1_; have BK290 := n2_; have HB := n3_; clear n0_ n1_ n2_ n3_; (try clear hb); (try clear hb2); (try clear hk); (try clear hi); have hcz15_0 : w14.cell? ⟨gb289, 0, none⟩ = some (.int .i64 a0_0) := (blk_cell BK289.out 0).trans rfl; have hcz15_1 : w14.cell? ⟨gb289, 1, none⟩ = some (.int .i64 a0_1) := (blk_cell BK289.out 1).trans rfl; have hfz15_0 := blk_frozen BK289.out 0; have hfz15_1 := blk_frozen BK289.out 1; have hcz16_0 : w14.cell? ⟨gb290, 0, none⟩ = some (.int .i64 a1_0) := (blk_cell BK290.out 0).trans rfl; have hcz16_1 : w14.cell? ⟨gb290, 1, none⟩ = some (.int .i64 a1_1) := (blk_cell BK290.out 1).trans rfl; have hfz16_0 := blk_frozen BK290.out 0; have hfz16_1 := blk_frozen BK290.out 1) | ((with_reducible refine gate_callee (f := 42) rfl ?_); refine goesL_ (some 13) rfl rfl Tryd.func42 (by kernel_rfl) rfl #[.agg #[.int .i64 a0_0, .int .i64 a0_1], .agg #[.int .i64 a1_0, .int .i64 a1_1]] rfl (by (try simp only [List.map_toArray, List.map_cons, List.map_nil]); first | done | rfl | (simp only [List.length_drop, List.length_take]; rfl)) ?_; (with_reducible refine (spans_before.calls a0_0 a0_1 a1_0 a1_1 t295 _ A5.out).mono ?_); rintro e w17 ⟨rfl, hb⟩; refine ⟨_, rfl, ?_⟩; have n0_ := ak (Kd.R_below (by (with_reducible repeat (first | apply Kd.R_alloc | apply Kd.R_drewN | apply Kd.R_drew)); exact HO293.out) hb); have n1_ := ak (blk_below (g := gb289) (o := .cells #[.int .i64 a0_0, .int .i64 a0_1] 24 (0, 0)) (by (with_reducible repeat (first | refine bN ?_ _ | refine bD ?_ | refine bA ?_ _)); exact BK289.out) hb); have n2_ := ak (blk_below (g := gb290) (o := .cells #[.int .i64 a1_0, .int .i64 a1_1] 24 (0, 0)) (by (with_reducible repeat (first | refine bN ?_ _ | refine bD ?_ | refine bA ?_ _)); exact BK290.out) hb); have n3_ := ak (below_step (by repeat (first | (with_reducible first | exact HB.out | apply wA | apply wN | apply wD | refine below_set ?_ GE289.out | refine below_set ?_ GE290.out) | exact HB.out)) hb); clear HO293; clear BK289; clear BK290; clear HB; have HO293 := n0_; have BK289 := n1_; have BK290 := n2_; have HB := n3_; clear n0_ n1_ n2_ n3_; (try clear hb); (try clear hb2); (try clear hk); (try clear hi)))
    go_ret2
    exact ⟨by first | rfl | (simp [errW_none, errW_some] <;> rfl) | (simp [*, errW_none, errW_some] <;> rfl), by repeat (first | (with_reducible first | exact HB.out | apply wA | apply wN | apply wD | refine below_set ?_ GE289.out | refine below_set ?_ GE290.out) | exact HB.out)⟩
  · replace c4 := Bool.eq_false_iff.mpr c4
    subst c4
    have H1 : (some (false, 6)) = some (r1, r2) := by rw [if_neg (show ¬ (false = true) by decide)] at H; exact H
    clear H
    have H := H1
    clear H1
    simp only [Option.some.injEq, Prod.mk.injEq] at H
    obtain ⟨rfl, rfl⟩ := H
    go_enter Tryd.func19, Tryd.ntmps19
    go_wp2_with (first | ((with_reducible refine gate_dst (N := 2) rfl ?_); refine box_event ?hg (N := 2) ?hd (cs := #[.int .i64 a0_0, .int .i64 a0_1]) (t := 24) ?hr ?_; (case hd => rfl); (case hg => rfl); (case hr => first | (go_simp; done) | (go_simp; rfl)); intro gb289 hg w18 hbox hb; have n0_ := ak (below_step (by repeat (first | (with_reducible first | exact HB.out | apply wA | apply wN | apply wD) | exact HB.out)) hb); have n1_ := ak (hbox); have n2_ := ak ((by rw [hg]; exact (below_size (by repeat (first | (with_reducible first | exact HB.out | apply wA | apply wN | apply wD) | exact HB.out))) : w.heap.size ≤ gb289)); have n3_ := ak ((by rw [hg]; exact (below_size (by repeat (first | (with_reducible first | exact HB.out | apply wA | apply wN | apply wD) | exact HB.out))) : w.heap.size ≤ gb289)); clear HB; have HB := n0_; have BK289 := n1_; have GW289 := n2_; have GE289 := n3_; clear n0_ n1_ n2_ n3_; clear hb hbox hg) | ((with_reducible refine gate_dst (N := 3) rfl ?_); refine box_event ?hg (N := 3) ?hd (cs := #[.int .i64 a1_0, .int .i64 a1_1]) (t := 24) ?hr ?_; (case hd => rfl); (case hg => rfl); (case hr => first | (go_simp; done) | (go_simp; rfl)); intro gb290 hg w19 hbox hb; have n0_ := ak (blk_below (g := gb289) (o := .cells #[.int .i64 a0_0, .int .i64 a0_1] 24 (0, 0)) (by (with_reducible repeat (first | refine bN ?_ _ | refine bD ?_ | refine bA ?_ _)); exact BK289.out) hb); have n1_ := ak (below_step (by repeat (first | (with_reducible first | exact HB.out | apply wA | apply wN | apply wD | refine below_set ?_ GE289.out) | exact HB.out)) hb); have n2_ := ak (hbox); have n3_ := ak ((by rw [hg]; exact (below_size (by repeat (first | (with_reducible first | exact HB.out | apply wA | apply wN | apply wD | refine below_set ?_ GE289.out) | exact HB.out))) : w.heap.size ≤ gb290)); have n4_ := ak ((by rw [hg]; exact (below_size (by repeat (first | (with_reducible first | exact HB.out | apply wA | apply wN | apply wD | refine below_set ?_ GE289.out) | exact HB.out))) : w.heap.size ≤ gb290)); have n5_ := ak ((by rw [hg]; exact Nat.ne_of_lt (blk_lt (g := gb289) (o := .cells #[.int .i64 a0_0, .int .i64 a0_1] 24 (0, 0)) (by (with_reducible repeat (first | refine bN ?_ _ | refine bD ?_ | refine bA ?_ _)); exact BK289.out)) : gb289 ≠ gb290)); have n6_ := ak ((by rw [hg]; exact Nat.ne_of_gt (blk_lt (g := gb289) (o := .cells #[.int .i64 a0_0, .int .i64 a0_1] 24 (0, 0)) (by (with_reducible repeat (first | refine bN ?_ _ | refine bD ?_ | refine bA ?_ _)); exact BK289.out)) : gb290 ≠ gb289)); clear BK289; clear HB; have BK289 := n0_; have HB := n1_; have BK290 := n2_; have GW290 := n3_; have GE290 := n4_; have NB289_290 := n5_; have NB290_289 := n6_; clear n0_ n1_ n2_ n3_ n4_ n5_ n6_; clear hb hbox hg; have hnb20 := NB289_290.out; have hnc20 := NB290_289.out; have hcz21_0 : w19.cell? ⟨gb289, 0, none⟩ = some (.int .i64 a0_0) := (blk_cell BK289.out 0).trans rfl; have hcz21_1 : w19.cell? ⟨gb289, 1, none⟩ = some (.int .i64 a0_1) := (blk_cell BK289.out 1).trans rfl; have hfz21_0 := blk_frozen BK289.out 0; have hfz21_1 := blk_frozen BK289.out 1; have hcz22_0 : w19.cell? ⟨gb290, 0, none⟩ = some (.int .i64 a1_0) := (blk_cell BK290.out 0).trans rfl; have hcz22_1 : w19.cell? ⟨gb290, 1, none⟩ = some (.int .i64 a1_1) := (blk_cell BK290.out 1).trans rfl; have hfz22_0 := blk_frozen BK290.out 0; have hfz22_1 := blk_frozen BK290.out 1) | ((with_reducible refine gate_dst (N := 8) rfl ?_); refine Kd.R_lit k24 _ 24 ?hg (N := 8) ?hd (xs := ([(⟨a0_0, a0_1⟩ : S24), (⟨a1_0, a1_1⟩ : S24)] : List (S24))) (inner := [.int .i64 a0_0, .int .i64 a0_1, .int .i64 a1_0, .int .i64 a1_1]) (ok := fun _ => True) (okp := fun _ => True) ?hr ?hp (fun _ hk => hk) trivial (Below.refl _ _) (Nat.le_refl _) (by simp) ?_; (case hd => rfl); (case hg => rfl); (case hr => first | (go_simp; done) | (go_simp; rfl)); (case hp => exact (Reps.c2 (show Kd.M k24 _ _ _ (⟨a0_0, a0_1⟩ : S24) [.int .i64 a0_0, .int .i64 a0_1] from (k24_mkM _ _ _ (⟨a0_0, a0_1⟩ : S24) )) (Reps.c2 (show Kd.M k24 _ _ _ (⟨a1_0, a1_1⟩ : S24) [.int .i64 a1_0, .int .i64 a1_1] from (k24_mkM _ _ _ (⟨a1_0, a1_1⟩ : S24) )) (Reps.none _ _)))); intro v292 w23 ho24 hb hg_ hnew_; clear hg_ hnew_; (first | rw [← Ny291.out] at ho24 | (simp only [Int.reduceToNat] at ho24; rw [← Ny291.out] at ho24)); have n0_ := ak (Kd.R_lower (Kd.R_newB (Kd.R_newB ho24 (g := gb289) (o := .cells #[.int .i64 a0_0, .int .i64 a0_1] 24 (0, 0)) (by (with_reducible repeat (first | refine bN ?_ _ | refine bD ?_ | refine bA ?_ _)); exact BK289.out)) (g := gb290) (o := .cells #[.int .i64 a1_0, .int .i64 a1_1] 24 (0, 0)) (by (with_reducible repeat (first | refine bN ?_ _ | refine bD ?_ | refine bA ?_ _)); exact BK290.out)) (below_size (by repeat (first | (with_reducible first | exact HB.out | apply wA | apply wN | apply wD | refine below_set ?_ GE289.out | refine below_set ?_ GE290.out) | exact HB.out)))); have n1_ := ak (blk_below (g := gb289) (o := .cells #[.int .i64 a0_0, .int .i64 a0_1] 24 (0, 0)) (by (with_reducible repeat (first | refine bN ?_ _ | refine bD ?_ | refine bA ?_ _)); exact BK289.out) hb); have n2_ := ak (blk_below (g := gb290) (o := .cells #[.int .i64 a1_0, .int .i64 a1_1] 24 (0, 0)) (by (with_reducible repeat (first | refine bN ?_ _ | refine bD ?_ | refine bA ?_ _)); exact BK290.out) hb); have n3_ := ak (below_step (by repeat (first | (with_reducible first | exact HB.out | apply wA | apply wN | apply wD | refine below_set ?_ GE289.out | refine below_set ?_ GE290.out) | exact HB.out)) hb); clear BK289; clear BK290; clear HB; have HO293 := n0_; have BK289 := n1_; have BK290 := n2_; have HB := n3_; clear n0_ n1_ n2_ n3_; clear hb ho24; obtain ⟨Ao25, co25, eo25⟩ := Kd.R_slice HO293.out; subst eo25) | ((with_reducible refine gate_callee (f := 40) rfl ?_); refine goesL_ (some 9) rfl rfl Tryd.func40 (by kernel_rfl) rfl #[.slice Ao25 y291.length co25] rfl (by (try simp only [List.map_toArray, List.map_cons, List.map_nil]); first | done | rfl | (simp only [List.length_drop, List.length_take]; rfl)) ?_; (with_reducible refine (spans_spans.calls k _ _ y291 false _ ?side1 ?side2 A3.out).mono ?_); (case side1 => repeat (first | exact (Kd.R_reads' HO293.out).2.2 | (with_reducible refine Kd.C_alloc ?_ _) | (with_reducible refine Kd.C_drewN ?_ _) | (with_reducible refine Kd.C_drew ?_))); (case side2 => exact (Kd.R_reads' HO293.out).2.1); rintro e w26 ⟨rfl, hb⟩; refine ⟨_, rfl, ?_⟩; have n0_ := ak (Kd.R_below (by (with_reducible repeat (first | apply Kd.R_alloc | apply Kd.R_drewN | apply Kd.R_drew)); exact HO293.out) hb); have n1_ := ak (blk_below (g := gb289) (o := .cells #[.int .i64 a0_0, .int .i64 a0_1] 24 (0, 0)) (by (with_reducible repeat (first | refine bN ?_ _ | refine bD ?_ | refine bA ?_ _)); exact BK289.out) hb); have n2_ := ak (blk_below (g := gb290) (o := .cells #[.int .i64 a1_0, .int .i64 a1_1] 24 (0, 0)) (by (with_reducible repeat (first | refine bN ?_ _ | refine bD ?_ | refine bA ?_ _)); exact BK290.out) hb); have n3_ := ak (below_step (by repeat (first | (with_reducible first | exact HB.out | apply wA | apply wN | apply wD | refine below_set ?_ GE289.out | refine below_set ?_ GE290.out) | exact HB.out)) hb); clear HO293; clear BK289; clear BK290; clear HB; have HO293 := n0_; have BK289 := n1_; have BK290 := n2_; have HB := n3_; clear n0_ n1_ n2_ n3_; (try clear hb); (try clear hb2); (try clear hk); (try clear hi)))
    go_ret2
    exact ⟨by first | rfl | (simp [errW_none, errW_some] <;> rfl) | (simp [*, errW_none, errW_some] <;> rfl), by repeat (first | (with_reducible first | exact HB.out | apply wA | apply wN | apply wD | refine below_set ?_ GE289.out | refine below_set ?_ GE290.out) | exact HB.out)⟩
end Go.Proofs.YtnkfdobcmfdhfaaDoor.P
namespace Go.Proofs.YtnkfdobcmfdhfaaDoor.P
open Go.RowKit Go.Proofs.YtnkfdobcmfdhfaaDoorW.PrintWords Go.Proofs.YtnkfdobcmfdhfaaDoorW.PrintLast Go.Proofs.YtnkfdobcmfdhfaaDoorW.PrintMore
attribute [local go_sem] max2_int min2_int max_two min_two max_three min_three max_four min_four   -- for this text's walks alone
set_option linter.unusedVariables false
set_option linter.unusedSimpArgs false
def spans_Check.j0 : Nat → Int → Bool → Int → Int → Option (Int)
  | 0, _, _, _, _ => none
  | k + 1, x0, x5, x376000, x376001 => if x5 = true then (some 6) else (if x376001 > x0 then (some 7) else (some 0))
def spans_Check.f (k : Nat) (a0 : Int) (a1_0 : Int) (a1_1 : Int) : Option (Int) := if a1_0 < 0 then (spans_Check.j0 k a0 true a1_0 a1_1) else (spans_Check.j0 k a0 (decide (a1_0 > a1_1)) a1_0 a1_1)
set_option maxHeartbeats 8000000 in
set_option maxRecDepth 100000 in
theorem spans_Check.calls (k : Nat) (a0 : Int) (a1_0 : Int) (a1_1 : Int) (r : Int) (w : World) (h : spans_Check.f k a0 a1_0 a1_1 = some r) :
    Calls Tryd.prog 22 #[.int .i64 a0, .agg #[.int .i64 a1_0, .int .i64 a1_1]] w fun e w' => e = .returned (.int .i64 r) ∧ Below w.heap.size w w' := by
  have hu24 := Tryd.underlying24
  have HB := ak (Below.refl w.heap.size w)
  have H : (if a1_0 < 0 then (spans_Check.j0 k a0 true a1_0 a1_1) else (spans_Check.j0 k a0 (decide (a1_0 > a1_1)) a1_0 a1_1)) = some r := h
  clear h
  have HC3 := ak H
  clear H
  go_enter Tryd.func22, Tryd.ntmps22
  go_upto_region 1 with (first | ((with_reducible refine gate_dst (N := 3) rfl ?_); refine box_event ?hg (N := 3) ?hd (cs := #[.int .i64 a1_0, .int .i64 a1_1]) (t := 24) ?hr ?_; (case hd => rfl); (case hg => rfl); (case hr => first | (go_simp; done) | (go_simp; rfl)); intro gb375 hg w4 hbox hb; have n0_ := ak (below_step (by repeat (first | (with_reducible first | exact HB.out | apply wA | apply wN | apply wD) | exact HB.out)) hb); have n1_ := ak (hbox); have n2_ := ak ((by rw [hg]; exact (below_size (by repeat (first | (with_reducible first | exact HB.out | apply wA | apply wN | apply wD) | exact HB.out))) : w.heap.size ≤ gb375)); have n3_ := ak ((by rw [hg]; exact (below_size (by repeat (first | (with_reducible first | exact HB.out | apply wA | apply wN | apply wD) | exact HB.out))) : w.heap.size ≤ gb375)); clear HB; have HB := n0_; have BK375 := n1_; have GW375 := n2_; have GE375 := n3_; clear n0_ n1_ n2_ n3_; clear hb hbox hg))
  (try simp only [Act.put, List.setIfInBounds_toArray, List.set_cons_zero, List.set_cons_succ])
  go_cut [5] (fun v5 wc => ∃ (kq : Nat) (x5_2 : Bool), v5 = .bool x5_2 ∧ Aside0 (spans_Check.j0 kq a0 x5_2 a1_0 a1_1 = some r) ∧ Aside0 (kq ≤ k) ∧ Aside0 (wc.heap[gb375]? = some (.cells #[.int .i64 a1_0, .int .i64 a1_1] 24 (0, 0))) ∧ Aside0 (Below w.heap.size w wc))
  case first =>
    have H := HC3.out
    clear HC3
    by_cases c5 : a1_0 < 0
    · rw [if_pos c5] at H
      have c5b0 : decide (a1_0 < 0) = true := decide_eq_true c5
      clear c5
      (first | rw [c5b0] | (simp only [i64_w, i32_w]; rw [c5b0]) | skip)
      have H' := ak H
      clear H
      have hcz6_0 : w4.cell? ⟨gb375, 0, none⟩ = some (.int .i64 a1_0) := (blk_cell BK375.out 0).trans rfl
      have hcz6_1 : w4.cell? ⟨gb375, 1, none⟩ = some (.int .i64 a1_1) := (blk_cell BK375.out 1).trans rfl
      have hfz6_0 := blk_frozen BK375.out 0
      have hfz6_1 := blk_frozen BK375.out 1
      go_wp2
      go_meet
      case rel => exact ⟨_, (true), (by first | rfl | (simp; done) | (simp [*]; done)), H', ⟨by first | omega | exact Nat.le_refl _⟩, ⟨by (with_reducible repeat (first | refine bN ?_ _ | refine bD ?_ | refine bA ?_ _)); exact BK375.out⟩, ⟨by repeat (first | (with_reducible first | exact HB.out | apply wA | apply wN | apply wD | refine below_set ?_ GE375.out) | exact HB.out)⟩⟩
    · rw [if_neg c5] at H
      have c5b0 : decide (a1_0 < 0) = false := decide_eq_false c5
      clear c5
      (first | rw [c5b0] | (simp only [i64_w, i32_w]; rw [c5b0]) | skip)
      have H' := ak H
      clear H
      have hcz7_0 : w4.cell? ⟨gb375, 0, none⟩ = some (.int .i64 a1_0) := (blk_cell BK375.out 0).trans rfl
      have hcz7_1 : w4.cell? ⟨gb375, 1, none⟩ = some (.int .i64 a1_1) := (blk_cell BK375.out 1).trans rfl
      have hfz7_0 := blk_frozen BK375.out 0
      have hfz7_1 := blk_frozen BK375.out 1
      go_wp2
      go_meet
      case rel => exact ⟨_, (decide (a1_0 > a1_1)), (by first | rfl | (simp; done) | (simp [*]; done)), H', ⟨by first | omega | exact Nat.le_refl _⟩, ⟨by (with_reducible repeat (first | refine bN ?_ _ | refine bD ?_ | refine bA ?_ _)); exact BK375.out⟩, ⟨by repeat (first | (with_reducible first | exact HB.out | apply wA | apply wN | apply wD | refine below_set ?_ GE375.out) | exact HB.out)⟩⟩
  case rest =>
    clear HC3
    try clear c2
    try clear p2
    try clear c5
    try clear c5b0
    try clear hcz6_0
    try clear hcz6_1
    try clear hcz7_0
    try clear hcz7_1
    try clear hfz6_0
    try clear hfz6_1
    try clear hfz7_0
    try clear hfz7_1
    obtain ⟨kq, x5_2, rfl, HA, HJ2, BK375, HB⟩ := hcut
    cases kq with
    | zero => exact absurd HA.out (by simp [spans_Check.j0])
    | succ kj2 =>
      have H := HA.out
      clear HA
      simp only [spans_Check.j0] at H
      by_cases c8 : x5_2 = true
      · subst c8
        have H1 : (some 6) = some r := by rw [if_pos rfl] at H; exact H
        clear H
        have H := H1
        clear H1
        obtain rfl := Option.some.inj H
        go_wp2
        go_ret
        exact ⟨by first | rfl | (simp [errW_none, errW_some] <;> rfl) | (simp [*, errW_none, errW_some] <;> rfl), by repeat (first | (with_reducible first | exact HB.out | apply wA | apply wN | apply wD | refine below_set ?_ GE375.out) | exact HB.out)⟩
      · replace c8 := Bool.eq_false_iff.mpr c8
        subst c8
        have H1 : (if a1_1 > a0 then (some 7) else (some 0)) = some r := by rw [if_neg (show ¬ (false = true) by decide)] at H; exact H
        clear H
        have H := H1
        clear H1
        by_cases c9 : a1_1 > a0
        · rw [if_pos c9] at H
          have c9b0 : decide (a0 < a1_1) = true := decide_eq_true c9
          clear c9
          obtain rfl := Option.some.inj H
          have hcz10_0 : wc.cell? ⟨gb375, 0, none⟩ = some (.int .i64 a1_0) := (blk_cell BK375.out 0).trans rfl
          have hcz10_1 : wc.cell? ⟨gb375, 1, none⟩ = some (.int .i64 a1_1) := (blk_cell BK375.out 1).trans rfl
          have hfz10_0 := blk_frozen BK375.out 0
          have hfz10_1 := blk_frozen BK375.out 1
          go_wp2
          go_ret
          exact ⟨by first | rfl | (simp [errW_none, errW_some] <;> rfl) | (simp [*, errW_none, errW_some] <;> rfl), by repeat (first | (with_reducible first | exact HB.out | apply wA | apply wN | apply wD | refine below_set ?_ GE375.out) | exact HB.out)⟩
        · rw [if_neg c9] at H
          have c9b0 : decide (a0 < a1_1) = false := decide_eq_false c9
          clear c9
          obtain rfl := Option.some.inj H
          have hcz11_0 : wc.cell? ⟨gb375, 0, none⟩ = some (.int .i64 a1_0) := (blk_cell BK375.out 0).trans rfl
          have hcz11_1 : wc.cell? ⟨gb375, 1, none⟩ = some (.int .i64 a1_1) := (blk_cell BK375.out 1).trans rfl
          have hfz11_0 := blk_frozen BK375.out 0
          have hfz11_1 := blk_frozen BK375.out 1
          go_wp2
          go_ret
          exact ⟨by first | rfl | (simp [errW_none, errW_some] <;> rfl) | (simp [*, errW_none, errW_some] <;> rfl), by repeat (first | (with_reducible first | exact HB.out | apply wA | apply wN | apply wD | refine below_set ?_ GE375.out) | exact HB.out)⟩
end Go.Proofs.YtnkfdobcmfdhfaaDoor.P
namespace Go.Proofs.YtnkfdobcmfdhfaaDoor.P
open Go.RowKit Go.Proofs.YtnkfdobcmfdhfaaDoorW.PrintWords Go.Proofs.YtnkfdobcmfdhfaaDoorW.PrintLast Go.Proofs.YtnkfdobcmfdhfaaDoorW.PrintMore
attribute [local go_sem] max2_int min2_int max_two min_two max_three min_three max_four min_four   -- for this text's walks alone
set_option linter.unusedVariables false
set_option linter.unusedSimpArgs false
abbrev q6_0 : Array Bool := #[Z,Z,Z,Z,Z,Z,Z,Z,Z,Z,Z,Z,Z,Z]
abbrev q6_1 : Array Bool := #[Y,Z,Z,Z,Z,Z,Z,Z,Z,Z,Z,Z,Z,Z]
abbrev q6_2 : Array Bool := #[Y,Y,Z,Z,Z,Z,Z,Z,Z,Z,Z,Z,Z,Z]
abbrev q6_3 : Array Bool := #[Y,Y,Z,Z,Z,Y,Z,Z,Z,Z,Z,Z,Z,Z]
abbrev q6_4 : Array Bool := #[Y,Y,Z,Z,Z,Y,Z,Y,Z,Z,Z,Z,Z,Z]
abbrev q6_5 : Array Bool := #[Y,Y,Z,Z,Z,Y,Z,Y,Y,Z,Z,Z,Z,Z]
abbrev q6_6 : Array Bool := #[Y,Y,Y,Z,Z,Y,Z,Y,Y,Z,Z,Z,Z,Z]
abbrev q6_7 : Array Bool := #[Y,Y,Y,Y,Z,Y,Z,Y,Y,Z,Z,Z,Z,Z]
abbrev q6_8 : Array Bool := #[Y,Y,Y,Y,Y,Y,Z,Y,Y,Z,Z,Z,Z,Z]
abbrev q6_9 : Array Bool := #[Y,Y,Y,Y,Y,Y,Y,Y,Y,Z,Z,Z,Z,Z]
abbrev q6_10 : Array Bool := #[Y,Y,Y,Y,Y,Y,Y,Y,Y,Y,Z,Z,Z,Z]
abbrev q6_11 : Array Bool := #[Y,Y,Y,Y,Y,Y,Y,Y,Y,Y,Y,Z,Z,Z]
abbrev q6_12 : Array Bool := #[Y,Y,Y,Y,Y,Y,Y,Y,Y,Y,Y,Y,Z,Z]
abbrev q6_13 : Array Bool := #[Y,Y,Y,Y,Y,Y,Y,Y,Y,Y,Y,Y,Y,Z]
abbrev q6_14 : Array Bool := #[Y,Y,Y,Y,Y,Y,Y,Y,Y,Y,Y,Y,Y,Y]
mutual
def mummerlaw03_SpansEdits.j0 : Nat → List Int → ByteArray → Bool → Int → Int → Int → Int → Option (Bool)
 | 0, _, _, _, _, _, _, _ => none
 | k + 1, x0, x1, x50, x378000, x378001, x379000, x379001 => if x50 = true then ((mummerlaw03_awake.f k).bind fun t381 => (some t381)) else (if x378000 < 0 then (some false) else (if x378000 > x378001 then (some false) else (if x378001 > (x0.length : Int) then (some false) else (if x379000 < 0 then (some false) else (if x379000 > x379001 then (some false) else (if x379001 > (x0.length : Int) then (some false) else (if 0 ≤ x379000 then (if x379000 ≤ (x0.length : Int) then (if (strOfNums (x0.take (x379000 : Int).toNat)).size + x1.size ≤ 9223372036854775807 then (if 0 ≤ x379001 then (if x379001 ≤ (x0.length : Int) then (if ((strOfNums (x0.take (x379000 : Int).toNat)) ++ x1).size + (strOfNums (x0.drop (x379001 : Int).toNat)).size ≤ 9223372036854775807 then ((spans_Shift.f k x378000 x378001 x379000 x379001 (x1.size : Int)).bind fun bt385 => (if bt385.2.2 = 0 then (if 0 ≤ x378000 then (if x378000 ≤ x378001 then (if x378001 ≤ (x0.length : Int) then ((spans_Before.f k x379000 x379001 x378000 x378001).bind fun bt393 => ((spans_Before.f k x378000 x378001 x379000 x379001).bind fun bt395 => (if bt393.2 = 0 then (if bt395.2 = 0 then ((spans_Check.f k ((((strOfNums (x0.take (x379000 : Int).toNat)) ++ x1) ++ (strOfNums (x0.drop (x379001 : Int).toNat))).size : Int) bt385.1 bt385.2.1).bind fun t397 => (if t397 = 0 then (if bt393.1 = true then (mummerlaw03_SpansEdits.j1 k x0 x1 (((strOfNums (x0.take (x379000 : Int).toNat)) ++ x1) ++ (strOfNums (x0.drop (x379001 : Int).toNat))) (strOfNums ((x0.take (x378001 : Int).toNat).drop (x378000 : Int).toNat)) bt393.1 bt395.1 false x378000 x378001 x379000 x379001 bt385.1 bt385.2.1) else (if bt395.1 = true then (mummerlaw03_SpansEdits.j1 k x0 x1 (((strOfNums (x0.take (x379000 : Int).toNat)) ++ x1) ++ (strOfNums (x0.drop (x379001 : Int).toNat))) (strOfNums ((x0.take (x378001 : Int).toNat).drop (x378000 : Int).toNat)) bt393.1 bt395.1 false x378000 x378001 x379000 x379001 bt385.1 bt385.2.1) else (if x379000 < x378000 then (some false) else (mummerlaw03_SpansEdits.j1 k x0 x1 (((strOfNums (x0.take (x379000 : Int).toNat)) ++ x1) ++ (strOfNums (x0.drop (x379001 : Int).toNat))) (strOfNums ((x0.take (x378001 : Int).toNat).drop (x378000 : Int).toNat)) bt393.1 bt395.1 (decide (x379001 > x378001)) x378000 x378001 x379000 x379001 bt385.1 bt385.2.1)))) else (some false))) else (some false)) else (some false)))) else (none)) else (none)) else (none)) else (if (mx x378000 x379000) < (mn x378001 x379001) then (if x379000 < x378000 then (if bt385.2.2 = 4 then ((mummerlaw03_awake.f k).bind fun t389 => (some t389)) else (some false)) else (if bt385.2.2 = 4 then (if x379001 > x378001 then ((mummerlaw03_awake.f k).bind fun t390 => (some t390)) else (some false)) else (some false))) else (if bt385.2.2 = 4 then (some false) else (some false))))) else (none)) else (none)) else (none)) else (none)) else (none)) else (none))))))))
def mummerlaw03_SpansEdits.j1 : Nat → List Int → ByteArray → ByteArray → ByteArray → Bool → Bool → Bool → Int → Int → Int → Int → Int → Int → Option (Bool)
 | 0, _, _, _, _, _, _, _, _, _, _, _, _, _ => none
 | k + 1, x0, x1, x9, x13, x14, x16, x195, x378000, x378001, x379000, x379001, x389000, x389001 => if x195 = true then (some false) else (if x14 = true then (if 0 ≤ x389000 then (if x389000 ≤ x389001 then (if x389001 ≤ (x9.size : Int) then (if (x9.extract (x389000 : Int).toNat (x389001 : Int).toNat).toList = x13.toList then ((mummerlaw03_awake.f k).bind fun t398 => (some t398)) else (some false)) else (none)) else (none)) else (none)) else (if x16 = true then (if 0 ≤ x389000 then (if x389000 ≤ x389001 then (if x389001 ≤ (x9.size : Int) then (if (x9.extract (x389000 : Int).toNat (x389001 : Int).toNat).toList = x13.toList then ((mummerlaw03_awake.f k).bind fun t399 => (some t399)) else (some false)) else (none)) else (none)) else (none)) else (if 0 ≤ x378000 then (if x378000 ≤ x379000 then (if x379000 ≤ (x0.length : Int) then (if (strOfNums ((x0.take (x379000 : Int).toNat).drop (x378000 : Int).toNat)).size + x1.size ≤ 9223372036854775807 then (if 0 ≤ x379001 then (if x379001 ≤ x378001 then (if x378001 ≤ (x0.length : Int) then (if ((strOfNums ((x0.take (x379000 : Int).toNat).drop (x378000 : Int).toNat)) ++ x1).size + (strOfNums ((x0.take (x378001 : Int).toNat).drop (x379001 : Int).toNat)).size ≤ 9223372036854775807 then (if 0 ≤ x389000 then (if x389000 ≤ x389001 then (if x389001 ≤ (x9.size : Int) then (if (x9.extract (x389000 : Int).toNat (x389001 : Int).toNat).toList = (((strOfNums ((x0.take (x379000 : Int).toNat).drop (x378000 : Int).toNat)) ++ x1) ++ (strOfNums ((x0.take (x378001 : Int).toNat).drop (x379001 : Int).toNat))).toList then ((mummerlaw03_awake.f k).bind fun t402 => (some t402)) else (some false)) else (none)) else (none)) else (none)) else (none)) else (none)) else (none)) else (none)) else (none)) else (none)) else (none)) else (none))))
end
def mummerlaw03_SpansEdits.f (k : Nat) (l0 : List Int) (a1 : ByteArray) (a2_0 : Int) (a2_1 : Int) (a2_2 : Int) (a2_3 : Int) : Option (Bool) := if (l0.length : Int) > 100 then (mummerlaw03_SpansEdits.j0 k l0 a1 true a2_0 a2_1 a2_2 a2_3) else (if (a1.size : Int) > 50 then (mummerlaw03_SpansEdits.j0 k l0 a1 true a2_0 a2_1 a2_2 a2_3) else ((spans_Check.f k (l0.length : Int) a2_0 a2_1).bind fun t379 => (if t379 = 0 then ((spans_Check.f k (l0.length : Int) a2_2 a2_3).bind fun t380 => (if t380 = 0 then (mummerlaw03_SpansEdits.j0 k l0 a1 (a2_0 == a2_1) a2_0 a2_1 a2_2 a2_3) else (mummerlaw03_SpansEdits.j0 k l0 a1 true a2_0 a2_1 a2_2 a2_3))) else (mummerlaw03_SpansEdits.j0 k l0 a1 true a2_0 a2_1 a2_2 a2_3))))
def mummerlaw03_SpansEdits.T1 : Bool × List (List Nat × List Nat) := (true, [([], []), ([0], [0]), ([], []), ([2], [2]), ([], []), ([], []), ([4, 1, 0, 1, 4, 5], [1, 4]), ([5, 3, 6, 0, 1, 2, 3, 4, 5, 6], [3, 5])])
def mummerlaw03_SpansEdits.B1 : List Nat := [0, 1, 0, 4, 0, 0, 51, 127]
theorem mummerlaw03_SpansEdits.tab1 : rtab .any (opsOf Tryd.f6 1) = mummerlaw03_SpansEdits.T1 := by kernel_rfl
theorem mummerlaw03_SpansEdits.bits1 : waitsOk mummerlaw03_SpansEdits.T1.2 mummerlaw03_SpansEdits.B1 = true := by kernel_rfl
def mummerlaw03_SpansEdits.T6 : Bool × List (List Nat × List Nat) := (true, [([], []), ([], []), ([1], [1]), ([0, 2], [0, 2]), ([3], [3]), ([], []), ([4, 5], [4, 5]), ([], []), ([], []), ([8], [8]), ([7, 9], [7, 9]), ([10], [10]), ([6, 11], [6, 11]), ([12, 0, 1, 2, 3, 4, 5, 6, 7, 8, 9, 10, 11, 12], [12])])
def mummerlaw03_SpansEdits.B6 : List Nat := [0, 0, 2, 7, 15, 0, 63, 0, 0, 256, 896, 1920, 4095, 8191]
theorem mummerlaw03_SpansEdits.tab6 : rtab .any (opsOf Tryd.f6 6) = mummerlaw03_SpansEdits.T6 := by kernel_rfl
theorem mummerlaw03_SpansEdits.bits6 : waitsOk mummerlaw03_SpansEdits.T6.2 mummerlaw03_SpansEdits.B6 = true := by kernel_rfl
def mummerlaw03_SpansEdits.T19 : Bool × List (List Nat × List Nat) := (true, [([], []), ([], []), ([1], [1]), ([], []), ([3], [3]), ([0, 2, 4], [0, 2, 4]), ([5], [5]), ([], []), ([6, 7], [6, 7]), ([], []), ([], []), ([10], [10]), ([], []), ([12], [12]), ([9, 11, 13], [9, 11, 13]), ([14], [14]), ([8, 15], [8, 15]), ([16, 0, 1, 2, 3, 4, 5, 6, 7, 8, 9, 10, 11, 12, 13, 14, 15, 16], [16])])
def mummerlaw03_SpansEdits.B19 : List Nat := [0, 0, 2, 0, 8, 31, 63, 0, 255, 0, 0, 1024, 0, 4096, 15872, 32256, 65535, 131071]
theorem mummerlaw03_SpansEdits.tab19 : rtab .any (opsOf Tryd.f6 19) = mummerlaw03_SpansEdits.T19 := by kernel_rfl
theorem mummerlaw03_SpansEdits.bits19 : waitsOk mummerlaw03_SpansEdits.T19.2 mummerlaw03_SpansEdits.B19 = true := by kernel_rfl
set_option maxHeartbeats 8000000 in
set_option maxRecDepth 100000 in
theorem mummerlaw03_SpansEdits.calls (k : Nat) (A0 : Option Addr) (c0 : Nat) (l0 : List Int) (a1 : ByteArray) (a2_0 : Int) (a2_1 : Int) (a2_2 : Int) (a2_3 : Int) (r : Bool) (w : World) (hr0 : Kd.C (Kd.int .u8) w A0 l0.length l0) (hc0 : l0.length ≤ c0) (hrt : Aside0 (r = true)) (h : mummerlaw03_SpansEdits.f k l0 a1 a2_0 a2_1 a2_2 a2_3 = some r) (HT : Aside0 (Sc.Tab w)) :
  Calls Tryd.prog 6 #[.slice A0 l0.length c0, .string a1, .agg #[.int .i64 a2_0, .int .i64 a2_1, .int .i64 a2_2, .int .i64 a2_3]] w fun e w' => e = .returned (.bool r) ∧ Below w.heap.size w w' := by
 have hu46 := Tryd.underlying46
 have hu24 := Tryd.underlying24
 have HR0 := ak hr0
 have HC0 := ak hc0
 clear hr0 hc0
 have HB := ak (Below.refl w.heap.size w)
 have H : (if (l0.length : Int) > 100 then (mummerlaw03_SpansEdits.j0 k l0 a1 true a2_0 a2_1 a2_2 a2_3) else (if (a1.size : Int) > 50 then (mummerlaw03_SpansEdits.j0 k l0 a1 true a2_0 a2_1 a2_2 a2_3) else ((spans_Check.f k (l0.length : Int) a2_0 a2_1).bind fun t379 => (if t379 = 0 then ((spans_Check.f k (l0.length : Int) a2_2 a2_3).bind fun t380 => (if t380 = 0 then (mummerlaw03_SpansEdits.j0 k l0 a1 (a2_0 == a2_1) a2_0 a2_1 a2_2 a2_3) else (mummerlaw03_SpansEdits.j0 k l0 a1 true a2_0 a2_1 a2_2 a2_3))) else (mummerlaw03_SpansEdits.j0 k l0 a1 true a2_0 a2_1 a2_2 a2_3))))) = some r := h
 clear h
 have HC4 := ak H
 clear H
 go_enter Tryd.func6, Tryd.ntmps6
 try go_wp2_with (first | ((with_reducible refine gate_dst (N := 5) rfl ?_); (try (refine gate_guard (by rfl) ?_; dsimp only)); refine box_event ?hg (N := 5) ?hd (cs := #[.int .i64 a2_0, .int .i64 a2_1, .int .i64 a2_2, .int .i64 a2_3]) (t := 46) ?hr ?_; (case hd => rfl); (case hg => rfl); (case hr => first | (go_simp; done) | (go_simp; rfl)); intro gb376 hg w5 hbox hb; have n0_ := ak (below_step (by repeat (first | (with_reducible first | exact HB.out | apply wA | apply wN | apply wD) | exact HB.out)) hb); have n1_ := ak (hbox); have n2_ := ak ((by rw [hg]; exact (below_size (by repeat (first | (with_reducible first | exact HB.out | apply wA | apply wN | apply wD) | exact HB.out))) : w.heap.size ≤ gb376)); have n3_ := ak ((by rw [hg]; exact (below_size (by repeat (first | (with_reducible first | exact HB.out | apply wA | apply wN | apply wD) | exact HB.out))) : w.heap.size ≤ gb376)); clear HB; have HB := n0_; have BK376 := n1_; have GW376 := n2_; have GE376 := n3_; clear n0_ n1_ n2_ n3_; clear hb hbox hg))
 have n0_ := ak (bD BK376.out)
 have n1_ := ak (wD HB.out)
 clear BK376 HB
 have BK376 := n0_
 have HB := n1_
 clear n0_ n1_
 refine start_ (n := 8) (S := fun w' => w'.cell? ⟨gb376, 0, none⟩ = some (.int .i64 a2_0) ∧ w'.cell? ⟨gb376, 1, none⟩ = some (.int .i64 a2_1) ∧ w'.cell? ⟨gb376, 2, none⟩ = some (.int .i64 a2_2) ∧ w'.cell? ⟨gb376, 3, none⟩ = some (.int .i64 a2_3)) (ds := []) #[Z,Z,Z,Z,Z,Z,Z,Z] (by kernel_rfl) rfl rfl ⟨(blk_cell BK376.out 0).trans rfl, (blk_cell BK376.out 1).trans rfl, (blk_cell BK376.out 2).trans rfl, (blk_cell BK376.out 3).trans rfl⟩ (fun hHeld => ?_); refine with_tabW mummerlaw03_SpansEdits.tab1 mummerlaw03_SpansEdits.bits1 (fun HT_ HW_ => ?_)
 generalize w5.drew = w6 at BK376 HB hHeld ⊢
 refine pure_ (i := 0) (N := some 18) (v := ?_) (a' := ?_) #[Y,Z,Z,Z,Z,Z,Z,Z] rfl rfl (any_of HT_.out (by kernel_rfl)) (fun _ _ _ h => h) (Or.inl ⟨by rfl, ?_⟩) ?_ ?_; rotate_left; ·(intro w'; go_simp; with_reducible rfl)
 rotate_left; ·(simp only [Act.put, sA_, s0_, s1_, i64_w, i32_w]; rfl)
 refine pure_ (i := 2) (N := some 20) (v := ?_) (a' := ?_) #[Y,Z,Y,Z,Z,Z,Z,Z] rfl rfl (any_of HT_.out (by kernel_rfl)) (fun _ _ _ h => h) (Or.inl ⟨by rfl, ?_⟩) ?_ ?_; rotate_left; ·(intro w'; go_simp; with_reducible rfl)
 rotate_left; ·(simp only [Act.put, sA_, s0_, s1_, i64_w, i32_w]; rfl)
 refine take_ (i := 1) (N := some 19) (v := ?_) (a' := ?_) #[Y,Y,Y,Z,Z,Z,Z,Z] rfl rfl (take_ofW HT_.out HW_.out (by kernel_rfl)) (fun _ _ _ h => h) (Or.inl ⟨by rfl, ?_⟩) hHeld ?_ ?_; rotate_left; ·(rintro w' ⟨s0, s1, s2, s3⟩; go_simp; with_reducible rfl)
 rotate_left; ·(simp only [Act.put, sA_, s0_, s1_, i64_w, i32_w]; rfl)
 refine take_ (i := 3) (N := some 21) (v := ?_) (a' := ?_) #[Y,Y,Y,Y,Z,Z,Z,Z] rfl rfl (take_ofW HT_.out HW_.out (by kernel_rfl)) (fun _ _ _ h => h) (Or.inl ⟨by rfl, ?_⟩) hHeld ?_ ?_; rotate_left; ·(rintro w' ⟨s0, s1, s2, s3⟩; go_simp; with_reducible rfl)
 rotate_left; ·(simp only [Act.put, sA_, s0_, s1_, i64_w, i32_w]; rfl)
 refine join_ (σ := Nat × Nat) 2 #[Y,Y,Y,Y,Y,Y,Z,Z] (fun s_ => [(7, .pointer (some ⟨s_.1, 0, none⟩)), (8, .pointer (some ⟨s_.2, 0, none⟩))]) (fun s_ w' => (w'.cell? ⟨gb376, 0, none⟩ = some (.int .i64 a2_0) ∧ w'.cell? ⟨gb376, 1, none⟩ = some (.int .i64 a2_1) ∧ w'.cell? ⟨gb376, 2, none⟩ = some (.int .i64 a2_2) ∧ w'.cell? ⟨gb376, 3, none⟩ = some (.int .i64 a2_3)) ∧ (w'.heap[gb376]? = some (.cells #[.int .i64 a2_0, .int .i64 a2_1, .int .i64 a2_2, .int .i64 a2_3] 46 (0, 0))) ∧ (w'.heap[s_.1]? = some (.cells #[.int .i64 0, .int .i64 0] 24 (0, 0))) ∧ (w'.heap[s_.2]? = some (.cells #[.int .i64 0, .int .i64 0] 24 (0, 0))) ∧ (w.heap.size ≤ s_.1) ∧ (w.heap.size ≤ s_.1) ∧ (gb376 ≠ s_.1) ∧ (s_.1 ≠ gb376) ∧ (s_.2 ≠ s_.1) ∧ (s_.1 ≠ s_.2) ∧ (w.heap.size ≤ s_.2) ∧ (w.heap.size ≤ s_.2) ∧ (gb376 ≠ s_.2) ∧ (s_.2 ≠ gb376) ∧ (Below w.heap.size w w')) ?_ ?_
 rotate_left
 ·intro hCont
  refine two_ (i := 4) (j := 5) (Ni := some 7) (Nj := some 8) #[Y,Y,Y,Y,Y,Z,Z,Z] #[Y,Y,Y,Y,Z,Y,Z,Z] rfl rfl rfl rfl (two_of HT_.out (by kernel_rfl)) (by decide) (by decide) (fun K hK => ?_) (fun K hK => ?_)
  ·skip
   refine box_step ?hg (N := 7) ?hd (cs := #[.int .i64 0, .int .i64 0]) (t := 24) ?hr ?_; (case hd => rfl); (case hg => rfl); (case hr => first | (go_simp; done) | (go_simp; rfl))
   intro gb377 hg w7 hbox hb
   have n0_ := ak (blk_below (g := gb376) (o := .cells #[.int .i64 a2_0, .int .i64 a2_1, .int .i64 a2_2, .int .i64 a2_3] 46 (0, 0)) (by (with_reducible repeat (first | refine bN ?_ _ | refine bD ?_ | refine bA ?_ _)); exact BK376.out) hb)
   have n1_ := ak (below_step (by repeat (first | (with_reducible first | exact HB.out | apply wA | apply wN | apply wD | refine below_set ?_ GE376.out) | exact HB.out)) hb)
   have n2_ := ak (hbox)
   have n3_ := ak ((by rw [hg]; exact (below_size (by repeat (first | (with_reducible first | exact HB.out | apply wA | apply wN | apply wD | refine below_set ?_ GE376.out) | exact HB.out))) : w.heap.size ≤ gb377))
   have n4_ := ak ((by rw [hg]; exact (below_size (by repeat (first | (with_reducible first | exact HB.out | apply wA | apply wN | apply wD | refine below_set ?_ GE376.out) | exact HB.out))) : w.heap.size ≤ gb377))
   have n5_ := ak ((by rw [hg]; exact Nat.ne_of_lt (blk_lt (g := gb376) (o := .cells #[.int .i64 a2_0, .int .i64 a2_1, .int .i64 a2_2, .int .i64 a2_3] 46 (0, 0)) (by (with_reducible repeat (first | refine bN ?_ _ | refine bD ?_ | refine bA ?_ _)); exact BK376.out)) : gb376 ≠ gb377))
   have n6_ := ak ((by rw [hg]; exact Nat.ne_of_gt (blk_lt (g := gb376) (o := .cells #[.int .i64 a2_0, .int .i64 a2_1, .int .i64 a2_2, .int .i64 a2_3] 46 (0, 0)) (by (with_reducible repeat (first | refine bN ?_ _ | refine bD ?_ | refine bA ?_ _)); exact BK376.out)) : gb377 ≠ gb376))
   clear BK376 HB
   have BK376 := n0_
   have HB := n1_
   have BK377 := n2_
   have GW377 := n3_
   have GE377 := n4_
   have NB376_377 := n5_
   have NB377_376 := n6_
   clear n0_ n1_ n2_ n3_ n4_ n5_ n6_ hb hbox hg
   refine hK.out _ _ ⟨(blk_cell BK376.out 0).trans rfl, (blk_cell BK376.out 1).trans rfl, (blk_cell BK376.out 2).trans rfl, (blk_cell BK376.out 3).trans rfl⟩ (fun hHeld => ?_)
   clear hK K
   refine norm_ (a' := ?_) ?_ ?_
   rotate_left
   ·show Act.put _ (some 7) _ = _
    simp only [Act.put, sA_, s0_, s1_, i64_w, i32_w]
    rfl
   refine one_ (i := 5) (N := some 8) #[Y,Y,Y,Y,Y,Y,Z,Z] rfl rfl (one_of HT_.out (by kernel_rfl)) (by decide) (fun K hK => ?_)
   refine box_step ?hg (N := 8) ?hd (cs := #[.int .i64 0, .int .i64 0]) (t := 24) ?hr ?_; (case hd => rfl); (case hg => rfl); (case hr => first | (go_simp; done) | (go_simp; rfl))
   intro gb378 hg w8 hbox hb
   have n0_ := ak (blk_below (g := gb376) (o := .cells #[.int .i64 a2_0, .int .i64 a2_1, .int .i64 a2_2, .int .i64 a2_3] 46 (0, 0)) (by (with_reducible repeat (first | refine bN ?_ _ | refine bD ?_ | refine bA ?_ _)); exact BK376.out) hb)
   have n1_ := ak (blk_below (g := gb377) (o := .cells #[.int .i64 0, .int .i64 0] 24 (0, 0)) (by (with_reducible repeat (first | refine bN ?_ _ | refine bD ?_ | refine bA ?_ _)); exact BK377.out) hb)
   have n2_ := ak (below_step (by repeat (first | (with_reducible first | exact HB.out | apply wA | apply wN | apply wD | refine below_set ?_ GE376.out | refine below_set ?_ GE377.out) | exact HB.out)) hb)
   have n3_ := ak (hbox)
   have n4_ := ak ((by rw [hg]; exact (below_size (by repeat (first | (with_reducible first | exact HB.out | apply wA | apply wN | apply wD | refine below_set ?_ GE376.out | refine below_set ?_ GE377.out) | exact HB.out))) : w.heap.size ≤ gb378))
   have n5_ := ak ((by rw [hg]; exact (below_size (by repeat (first | (with_reducible first | exact HB.out | apply wA | apply wN | apply wD | refine below_set ?_ GE376.out | refine below_set ?_ GE377.out) | exact HB.out))) : w.heap.size ≤ gb378))
   have n6_ := ak ((by rw [hg]; exact Nat.ne_of_lt (blk_lt (g := gb376) (o := .cells #[.int .i64 a2_0, .int .i64 a2_1, .int .i64 a2_2, .int .i64 a2_3] 46 (0, 0)) (by (with_reducible repeat (first | refine bN ?_ _ | refine bD ?_ | refine bA ?_ _)); exact BK376.out)) : gb376 ≠ gb378))
   have n7_ := ak ((by rw [hg]; exact Nat.ne_of_gt (blk_lt (g := gb376) (o := .cells #[.int .i64 a2_0, .int .i64 a2_1, .int .i64 a2_2, .int .i64 a2_3] 46 (0, 0)) (by (with_reducible repeat (first | refine bN ?_ _ | refine bD ?_ | refine bA ?_ _)); exact BK376.out)) : gb378 ≠ gb376))
   have n8_ := ak ((by rw [hg]; exact Nat.ne_of_lt (blk_lt (g := gb377) (o := .cells #[.int .i64 0, .int .i64 0] 24 (0, 0)) (by (with_reducible repeat (first | refine bN ?_ _ | refine bD ?_ | refine bA ?_ _)); exact BK377.out)) : gb377 ≠ gb378))
   have n9_ := ak ((by rw [hg]; exact Nat.ne_of_gt (blk_lt (g := gb377) (o := .cells #[.int .i64 0, .int .i64 0] 24 (0, 0)) (by (with_reducible repeat (first | refine bN ?_ _ | refine bD ?_ | refine bA ?_ _)); exact BK377.out)) : gb378 ≠ gb377))
   clear BK376 BK377 HB
   have BK376 := n0_
   have BK377 := n1_
   have HB := n2_
   have BK378 := n3_
   have GW378 := n4_
   have GE378 := n5_
   have NB376_378 := n6_
   have NB378_376 := n7_
   have NB377_378 := n8_
   have NB378_377 := n9_
   clear n0_ n1_ n2_ n3_ n4_ n5_ n6_ n7_ n8_ n9_ hb hbox hg
   refine hK.out _ _ ⟨(blk_cell BK376.out 0).trans rfl, (blk_cell BK376.out 1).trans rfl, (blk_cell BK376.out 2).trans rfl, (blk_cell BK376.out 3).trans rfl⟩ (fun hHeld => ?_)
   clear hK K
   refine norm_ (a' := ?_) ?_ ?_
   rotate_left
   ·show Act.put _ (some 8) _ = _
    simp only [Act.put, sA_, s0_, s1_, i64_w, i32_w]
    rfl
   exact norm_ (by simp only [putAll, Act.put, sA_, s0_, s1_]) (hCont (gb377, gb378) _ ⟨hHeld, (by (with_reducible repeat (first | refine bN ?_ _ | refine bD ?_ | refine bA ?_ _)); exact BK376.out), (by (with_reducible repeat (first | refine bN ?_ _ | refine bD ?_ | refine bA ?_ _)); exact BK377.out), (by (with_reducible repeat (first | refine bN ?_ _ | refine bD ?_ | refine bA ?_ _)); exact BK378.out), GW377.out, GE377.out, NB376_377.out, NB377_376.out, NB378_377.out, NB377_378.out, GW378.out, GE378.out, NB376_378.out, NB378_376.out, (by repeat (first | (with_reducible first | exact HB.out | apply wA | apply wN | apply wD | refine below_set ?_ GE376.out | refine below_set ?_ GE377.out | refine below_set ?_ GE378.out) | exact HB.out))⟩)
  ·skip
   refine box_step ?hg (N := 8) ?hd (cs := #[.int .i64 0, .int .i64 0]) (t := 24) ?hr ?_; (case hd => rfl); (case hg => rfl); (case hr => first | (go_simp; done) | (go_simp; rfl))
   intro gb378 hg w7 hbox hb
   have n0_ := ak (blk_below (g := gb376) (o := .cells #[.int .i64 a2_0, .int .i64 a2_1, .int .i64 a2_2, .int .i64 a2_3] 46 (0, 0)) (by (with_reducible repeat (first | refine bN ?_ _ | refine bD ?_ | refine bA ?_ _)); exact BK376.out) hb)
   have n1_ := ak (below_step (by repeat (first | (with_reducible first | exact HB.out | apply wA | apply wN | apply wD | refine below_set ?_ GE376.out) | exact HB.out)) hb)
   have n2_ := ak (hbox)
   have n3_ := ak ((by rw [hg]; exact (below_size (by repeat (first | (with_reducible first | exact HB.out | apply wA | apply wN | apply wD | refine below_set ?_ GE376.out) | exact HB.out))) : w.heap.size ≤ gb378))
   have n4_ := ak ((by rw [hg]; exact (below_size (by repeat (first | (with_reducible first | exact HB.out | apply wA | apply wN | apply wD | refine below_set ?_ GE376.out) | exact HB.out))) : w.heap.size ≤ gb378))
   have n5_ := ak ((by rw [hg]; exact Nat.ne_of_lt (blk_lt (g := gb376) (o := .cells #[.int .i64 a2_0, .int .i64 a2_1, .int .i64 a2_2, .int .i64 a2_3] 46 (0, 0)) (by (with_reducible repeat (first | refine bN ?_ _ | refine bD ?_ | refine bA ?_ _)); exact BK376.out)) : gb376 ≠ gb378))
   have n6_ := ak ((by rw [hg]; exact Nat.ne_of_gt (blk_lt (g := gb376) (o := .cells #[.int .i64 a2_0, .int .i64 a2_1, .int .i64 a2_2, .int .i64 a2_3] 46 (0, 0)) (by (with_reducible repeat (first | refine bN ?_ _ | refine bD ?_ | refine bA ?_ _)); exact BK376.out)) : gb378 ≠ gb376))
   clear BK376 HB
   have BK376 := n0_
   have HB := n1_
   have BK378 := n2_
   have GW378 := n3_
   have GE378 := n4_
   have NB376_378 := n5_
   have NB378_376 := n6_
   clear n0_ n1_ n2_ n3_ n4_ n5_ n6_ hb hbox hg
   refine hK.out _ _ ⟨(blk_cell BK376.out 0).trans rfl, (blk_cell BK376.out 1).trans rfl, (blk_cell BK376.out 2).trans rfl, (blk_cell BK376.out 3).trans rfl⟩ (fun hHeld => ?_)
   clear hK K
   refine norm_ (a' := ?_) ?_ ?_
   rotate_left
   ·show Act.put _ (some 8) _ = _
    simp only [Act.put, sA_, s0_, s1_, i64_w, i32_w]
    rfl
   refine one_ (i := 4) (N := some 7) #[Y,Y,Y,Y,Y,Y,Z,Z] rfl rfl (one_of HT_.out (by kernel_rfl)) (by decide) (fun K hK => ?_)
   refine box_step ?hg (N := 7) ?hd (cs := #[.int .i64 0, .int .i64 0]) (t := 24) ?hr ?_; (case hd => rfl); (case hg => rfl); (case hr => first | (go_simp; done) | (go_simp; rfl))
   intro gb377 hg w8 hbox hb
   have n0_ := ak (blk_below (g := gb376) (o := .cells #[.int .i64 a2_0, .int .i64 a2_1, .int .i64 a2_2, .int .i64 a2_3] 46 (0, 0)) (by (with_reducible repeat (first | refine bN ?_ _ | refine bD ?_ | refine bA ?_ _)); exact BK376.out) hb)
   have n1_ := ak (blk_below (g := gb378) (o := .cells #[.int .i64 0, .int .i64 0] 24 (0, 0)) (by (with_reducible repeat (first | refine bN ?_ _ | refine bD ?_ | refine bA ?_ _)); exact BK378.out) hb)
   have n2_ := ak (below_step (by repeat (first | (with_reducible first | exact HB.out | apply wA | apply wN | apply wD | refine below_set ?_ GE376.out | refine below_set ?_ GE378.out) | exact HB.out)) hb)
   have n3_ := ak (hbox)
   have n4_ := ak ((by rw [hg]; exact (below_size (by repeat (first | (with_reducible first | exact HB.out | apply wA | apply wN | apply wD | refine below_set ?_ GE376.out | refine below_set ?_ GE378.out) | exact HB.out))) : w.heap.size ≤ gb377))
   have n5_ := ak ((by rw [hg]; exact (below_size (by repeat (first | (with_reducible first | exact HB.out | apply wA | apply wN | apply wD | refine below_set ?_ GE376.out | refine below_set ?_ GE378.out) | exact HB.out))) : w.heap.size ≤ gb377))
   have n6_ := ak ((by rw [hg]; exact Nat.ne_of_lt (blk_lt (g := gb376) (o := .cells #[.int .i64 a2_0, .int .i64 a2_1, .int .i64 a2_2, .int .i64 a2_3] 46 (0, 0)) (by (with_reducible repeat (first | refine bN ?_ _ | refine bD ?_ | refine bA ?_ _)); exact BK376.out)) : gb376 ≠ gb377))
   have n7_ := ak ((by rw [hg]; exact Nat.ne_of_gt (blk_lt (g := gb376) (o := .cells #[.int .i64 a2_0, .int .i64 a2_1, .int .i64 a2_2, .int .i64 a2_3] 46 (0, 0)) (by (with_reducible repeat (first | refine bN ?_ _ | refine bD ?_ | refine bA ?_ _)); exact BK376.out)) : gb377 ≠ gb376))
   have n8_ := ak ((by rw [hg]; exact Nat.ne_of_lt (blk_lt (g := gb378) (o := .cells #[.int .i64 0, .int .i64 0] 24 (0, 0)) (by (with_reducible repeat (first | refine bN ?_ _ | refine bD ?_ | refine bA ?_ _)); exact BK378.out)) : gb378 ≠ gb377))
   have n9_ := ak ((by rw [hg]; exact Nat.ne_of_gt (blk_lt (g := gb378) (o := .cells #[.int .i64 0, .int .i64 0] 24 (0, 0)) (by (with_reducible repeat (first | refine bN ?_ _ | refine bD ?_ | refine bA ?_ _)); exact BK378.out)) : gb377 ≠ gb378))
   clear BK376 BK378 HB
   have BK376 := n0_
   have BK378 := n1_
   have HB := n2_
   have BK377 := n3_
   have GW377 := n4_
   have GE377 := n5_
   have NB376_377 := n6_
   have NB377_376 := n7_
   have NB378_377 := n8_
   have NB377_378 := n9_
   clear n0_ n1_ n2_ n3_ n4_ n5_ n6_ n7_ n8_ n9_ hb hbox hg
   refine hK.out _ _ ⟨(blk_cell BK376.out 0).trans rfl, (blk_cell BK376.out 1).trans rfl, (blk_cell BK376.out 2).trans rfl, (blk_cell BK376.out 3).trans rfl⟩ (fun hHeld => ?_)
   clear hK K
   refine norm_ (a' := ?_) ?_ ?_
   rotate_left
   ·show Act.put _ (some 7) _ = _
    simp only [Act.put, sA_, s0_, s1_, i64_w, i32_w]
    rfl
   exact norm_ (by simp only [putAll, Act.put, sA_, s0_, s1_]) (hCont (gb377, gb378) _ ⟨hHeld, (by (with_reducible repeat (first | refine bN ?_ _ | refine bD ?_ | refine bA ?_ _)); exact BK376.out), (by (with_reducible repeat (first | refine bN ?_ _ | refine bD ?_ | refine bA ?_ _)); exact BK377.out), (by (with_reducible repeat (first | refine bN ?_ _ | refine bD ?_ | refine bA ?_ _)); exact BK378.out), GW377.out, GE377.out, NB376_377.out, NB377_376.out, NB378_377.out, NB377_378.out, GW378.out, GE378.out, NB376_378.out, NB378_376.out, (by repeat (first | (with_reducible first | exact HB.out | apply wA | apply wN | apply wD | refine below_set ?_ GE376.out | refine below_set ?_ GE378.out | refine below_set ?_ GE377.out) | exact HB.out))⟩)
 rintro ⟨gb377, gb378⟩ w9 ⟨hS_, h0_, h1_, h2_, h3_, h4_, h5_, h6_, h7_, h8_, h9_, h10_, h11_, h12_, h13_⟩
 have n0_ : Aside0 (w9.heap[gb376]? = some (.cells #[.int .i64 a2_0, .int .i64 a2_1, .int .i64 a2_2, .int .i64 a2_3] 46 (0, 0))) := ⟨h0_⟩
 have n1_ : Aside0 (w9.heap[gb377]? = some (.cells #[.int .i64 0, .int .i64 0] 24 (0, 0))) := ⟨h1_⟩
 have n2_ : Aside0 (w9.heap[gb378]? = some (.cells #[.int .i64 0, .int .i64 0] 24 (0, 0))) := ⟨h2_⟩
 have n3_ : Aside0 (w.heap.size ≤ gb377) := ⟨h3_⟩
 have n4_ : Aside0 (w.heap.size ≤ gb377) := ⟨h4_⟩
 have n5_ : Aside0 (gb376 ≠ gb377) := ⟨h5_⟩
 have n6_ : Aside0 (gb377 ≠ gb376) := ⟨h6_⟩
 have n7_ : Aside0 (gb378 ≠ gb377) := ⟨h7_⟩
 have n8_ : Aside0 (gb377 ≠ gb378) := ⟨h8_⟩
 have n9_ : Aside0 (w.heap.size ≤ gb378) := ⟨h9_⟩
 have n10_ : Aside0 (w.heap.size ≤ gb378) := ⟨h10_⟩
 have n11_ : Aside0 (gb376 ≠ gb378) := ⟨h11_⟩
 have n12_ : Aside0 (gb378 ≠ gb376) := ⟨h12_⟩
 have n13_ : Aside0 (Below w.heap.size w w9) := ⟨h13_⟩
 clear BK376 HB h0_ h1_ h2_ h3_ h4_ h5_ h6_ h7_ h8_ h9_ h10_ h11_ h12_ h13_
 have BK376 := n0_
 have BK377 := n1_
 have BK378 := n2_
 have GW377 := n3_
 have GE377 := n4_
 have NB376_377 := n5_
 have NB377_376 := n6_
 have NB378_377 := n7_
 have NB377_378 := n8_
 have GW378 := n9_
 have GE378 := n10_
 have NB376_378 := n11_
 have NB378_376 := n12_
 have HB := n13_
 clear n0_ n1_ n2_ n3_ n4_ n5_ n6_ n7_ n8_ n9_ n10_ n11_ n12_ n13_
 have hHeld : w9.cell? ⟨gb376, 0, none⟩ = some (.int .i64 a2_0) ∧ w9.cell? ⟨gb376, 1, none⟩ = some (.int .i64 a2_1) ∧ w9.cell? ⟨gb376, 2, none⟩ = some (.int .i64 a2_2) ∧ w9.cell? ⟨gb376, 3, none⟩ = some (.int .i64 a2_3) := hS_
 refine norm_ (a' := ?_) ?_ ?_
 rotate_left
 ·simp only [putAll, Act.put, sA_, s0_, s1_]
  rfl
 refine one_ (i := 6) (N := none) #[Y,Y,Y,Y,Y,Y,Y,Z] rfl rfl (one_of HT_.out (by kernel_rfl)) (by decide) (fun K hK => ?_)
 have hs10 : w9.cell? ⟨gb377, 0, none⟩ = some (.int .i64 0) := (blk_cell BK377.out 0).trans rfl
 have hfs10 := blk_frozen BK377.out 0
 have hns10_0 := NB376_377.out
 have hns10_2 := NB378_377.out
 have hms10_0 := NB377_376.out
 have hms10_2 := NB377_378.out
 have hs11 : w9.cell? ⟨gb377, 1, none⟩ = some (.int .i64 0) := (blk_cell BK377.out 1).trans rfl
 have hfs11 := blk_frozen BK377.out 1
 have hns11_0 := NB376_377.out
 have hns11_2 := NB378_377.out
 have hms11_0 := NB377_376.out
 have hms11_2 := NB377_378.out
 refine skip_ (w1 := ?_) (by rfl) rfl ?_ ?_
 rotate_left
 ·go_simp
  rfl
 refine hK.out _ _ ⟨((cell_far (p := ⟨gb377, _, none⟩) NB376_377.out _).trans (((cell_far (p := ⟨gb377, _, none⟩) NB376_377.out _).trans (hHeld.1)))), ((cell_far (p := ⟨gb377, _, none⟩) NB376_377.out _).trans (((cell_far (p := ⟨gb377, _, none⟩) NB376_377.out _).trans (hHeld.2.1)))), ((cell_far (p := ⟨gb377, _, none⟩) NB376_377.out _).trans (((cell_far (p := ⟨gb377, _, none⟩) NB376_377.out _).trans (hHeld.2.2.1)))), ((cell_far (p := ⟨gb377, _, none⟩) NB376_377.out _).trans (((cell_far (p := ⟨gb377, _, none⟩) NB376_377.out _).trans (hHeld.2.2.2))))⟩ (fun hHeld => ?_)
 clear hK K
 refine one_ (i := 7) (N := none) #[Y,Y,Y,Y,Y,Y,Y,Y] rfl rfl (one_of HT_.out (by kernel_rfl)) (by decide) (fun K hK => ?_)
 have hs12 : w9.cell? ⟨gb378, 0, none⟩ = some (.int .i64 0) := (blk_cell BK378.out 0).trans rfl
 have hfs12 := blk_frozen BK378.out 0
 have hns12_0 := NB376_378.out
 have hns12_1 := NB377_378.out
 have hms12_0 := NB378_376.out
 have hms12_1 := NB378_377.out
 have hs13 : w9.cell? ⟨gb378, 1, none⟩ = some (.int .i64 0) := (blk_cell BK378.out 1).trans rfl
 have hfs13 := blk_frozen BK378.out 1
 have hns13_0 := NB376_378.out
 have hns13_1 := NB377_378.out
 have hms13_0 := NB378_376.out
 have hms13_1 := NB378_377.out
 refine skip_ (w1 := ?_) (by rfl) rfl ?_ ?_
 rotate_left
 ·go_simp
  rfl
 refine hK.out _ _ ⟨((cell_far (p := ⟨gb378, _, none⟩) NB376_378.out _).trans (((cell_far (p := ⟨gb378, _, none⟩) NB376_378.out _).trans (hHeld.1)))), ((cell_far (p := ⟨gb378, _, none⟩) NB376_378.out _).trans (((cell_far (p := ⟨gb378, _, none⟩) NB376_378.out _).trans (hHeld.2.1)))), ((cell_far (p := ⟨gb378, _, none⟩) NB376_378.out _).trans (((cell_far (p := ⟨gb378, _, none⟩) NB376_378.out _).trans (hHeld.2.2.1)))), ((cell_far (p := ⟨gb378, _, none⟩) NB376_378.out _).trans (((cell_far (p := ⟨gb378, _, none⟩) NB376_378.out _).trans (hHeld.2.2.2))))⟩ (fun hHeld => ?_)
 clear hK K
 refine done_ (done_of HT_.out (by kernel_rfl)) ?_
 go_upto_region 2 with (fail)
 go_cut [50] (fun v50 wc => ∃ (kq : Nat) (x50_3 : Bool), v50 = .bool x50_3 ∧ Aside0 (mummerlaw03_SpansEdits.j0 kq l0 a1 x50_3 a2_0 a2_1 a2_2 a2_3 = some r) ∧ Aside0 (kq ≤ k) ∧ Aside0 (wc.heap[gb376]? = some (.cells #[.int .i64 a2_0, .int .i64 a2_1, .int .i64 a2_2, .int .i64 a2_3] 46 (0, 0))) ∧ Aside0 (wc.heap[gb377]? = some (.cells #[.int .i64 a2_0, .int .i64 a2_1] 24 (0, 0))) ∧ Aside0 (wc.heap[gb378]? = some (.cells #[.int .i64 a2_2, .int .i64 a2_3] 24 (0, 0))) ∧ Aside0 (Below w.heap.size w wc))
 case first =>
  have H := HC4.out
  clear HC4
  by_cases c14 : (l0.length : Int) > 100
  ·rw [if_pos c14] at H
   have c14b0 : decide (100 < (l0.length : Int)) = true := decide_eq_true c14
   have c14b1 : decide (100 < l0.length) = true := decide_eq_true (by omega)
   clear c14
   (first | rw [c14b0] | (simp only [i64_w, i32_w]; rw [c14b0]) | skip)
   have H' := ak H
   clear H
   go_wp2
   go_meet
   case rel => exact ⟨_, (true), (by first | rfl | (simp; done) | (simp [*]; done)), H', ⟨by first | omega | exact Nat.le_refl _⟩, ⟨by (with_reducible repeat (first | refine bN ?_ _ | refine bD ?_ | refine bA ?_ _)); refine blk_far ?_ NB376_378.out _; (with_reducible repeat (first | refine bN ?_ _ | refine bD ?_ | refine bA ?_ _)); refine blk_far ?_ NB376_378.out _; (with_reducible repeat (first | refine bN ?_ _ | refine bD ?_ | refine bA ?_ _)); refine blk_far ?_ NB376_377.out _; (with_reducible repeat (first | refine bN ?_ _ | refine bD ?_ | refine bA ?_ _)); refine blk_far ?_ NB376_377.out _; (with_reducible repeat (first | refine bN ?_ _ | refine bD ?_ | refine bA ?_ _)); exact BK376.out⟩, ⟨by (with_reducible repeat (first | refine bN ?_ _ | refine bD ?_ | refine bA ?_ _)); refine blk_far ?_ NB377_378.out _; (with_reducible repeat (first | refine bN ?_ _ | refine bD ?_ | refine bA ?_ _)); refine blk_far ?_ NB377_378.out _; (with_reducible repeat (first | refine bN ?_ _ | refine bD ?_ | refine bA ?_ _)); refine blk_put (cs := #[.int .i64 a2_0, .int .i64 0]) ?_ 1 _ rfl; (with_reducible repeat (first | refine bN ?_ _ | refine bD ?_ | refine bA ?_ _)); refine blk_put (cs := #[.int .i64 0, .int .i64 0]) ?_ 0 _ rfl; (with_reducible repeat (first | refine bN ?_ _ | refine bD ?_ | refine bA ?_ _)); exact BK377.out⟩, ⟨by (with_reducible repeat (first | refine bN ?_ _ | refine bD ?_ | refine bA ?_ _)); refine blk_put (cs := #[.int .i64 a2_2, .int .i64 0]) ?_ 1 _ rfl; (with_reducible repeat (first | refine bN ?_ _ | refine bD ?_ | refine bA ?_ _)); refine blk_put (cs := #[.int .i64 0, .int .i64 0]) ?_ 0 _ rfl; (with_reducible repeat (first | refine bN ?_ _ | refine bD ?_ | refine bA ?_ _)); refine blk_far ?_ NB378_377.out _; (with_reducible repeat (first | refine bN ?_ _ | refine bD ?_ | refine bA ?_ _)); refine blk_far ?_ NB378_377.out _; (with_reducible repeat (first | refine bN ?_ _ | refine bD ?_ | refine bA ?_ _)); exact BK378.out⟩, ⟨by repeat (first | (with_reducible first | exact HB.out | apply wA | apply wN | apply wD | refine below_set ?_ GE376.out | refine below_set ?_ GE377.out | refine below_set ?_ GE378.out) | exact HB.out)⟩⟩
  ·rw [if_neg c14] at H
   have c14b0 : decide (100 < (l0.length : Int)) = false := decide_eq_false c14
   have c14b1 : decide (100 < l0.length) = false := decide_eq_false (by omega)
   clear c14
   (first | rw [c14b0] | (simp only [i64_w, i32_w]; rw [c14b0]) | skip)
   by_cases c15 : (a1.size : Int) > 50
   ·rw [if_pos c15] at H
    have c15b0 : decide (50 < (a1.size : Int)) = true := decide_eq_true c15
    have c15b1 : decide (50 < a1.size) = true := decide_eq_true (by omega)
    clear c15
    have H' := ak H
    clear H
    go_wp2
    go_meet
    case rel => exact ⟨_, (true), (by first | rfl | (simp; done) | (simp [*]; done)), H', ⟨by first | omega | exact Nat.le_refl _⟩, ⟨by (with_reducible repeat (first | refine bN ?_ _ | refine bD ?_ | refine bA ?_ _)); refine blk_far ?_ NB376_378.out _; (with_reducible repeat (first | refine bN ?_ _ | refine bD ?_ | refine bA ?_ _)); refine blk_far ?_ NB376_378.out _; (with_reducible repeat (first | refine bN ?_ _ | refine bD ?_ | refine bA ?_ _)); refine blk_far ?_ NB376_377.out _; (with_reducible repeat (first | refine bN ?_ _ | refine bD ?_ | refine bA ?_ _)); refine blk_far ?_ NB376_377.out _; (with_reducible repeat (first | refine bN ?_ _ | refine bD ?_ | refine bA ?_ _)); exact BK376.out⟩, ⟨by (with_reducible repeat (first | refine bN ?_ _ | refine bD ?_ | refine bA ?_ _)); refine blk_far ?_ NB377_378.out _; (with_reducible repeat (first | refine bN ?_ _ | refine bD ?_ | refine bA ?_ _)); refine blk_far ?_ NB377_378.out _; (with_reducible repeat (first | refine bN ?_ _ | refine bD ?_ | refine bA ?_ _)); refine blk_put (cs := #[.int .i64 a2_0, .int .i64 0]) ?_ 1 _ rfl; (with_reducible repeat (first | refine bN ?_ _ | refine bD ?_ | refine bA ?_ _)); refine blk_put (cs := #[.int .i64 0, .int .i64 0]) ?_ 0 _ rfl; (with_reducible repeat (first | refine bN ?_ _ | refine bD ?_ | refine bA ?_ _)); exact BK377.out⟩, ⟨by (with_reducible repeat (first | refine bN ?_ _ | refine bD ?_ | refine bA ?_ _)); refine blk_put (cs := #[.int .i64 a2_2, .int .i64 0]) ?_ 1 _ rfl; (with_reducible repeat (first | refine bN ?_ _ | refine bD ?_ | refine bA ?_ _)); refine blk_put (cs := #[.int .i64 0, .int .i64 0]) ?_ 0 _ rfl; (with_reducible repeat (first | refine bN ?_ _ | refine bD ?_ | refine bA ?_ _)); refine blk_far ?_ NB378_377.out _; (with_reducible repeat (first | refine bN ?_ _ | refine bD ?_ | refine bA ?_ _)); refine blk_far ?_ NB378_377.out _; (with_reducible repeat (first | refine bN ?_ _ | refine bD ?_ | refine bA ?_ _)); exact BK378.out⟩, ⟨by repeat (first | (with_reducible first | exact HB.out | apply wA | apply wN | apply wD | refine below_set ?_ GE376.out | refine below_set ?_ GE377.out | refine below_set ?_ GE378.out) | exact HB.out)⟩⟩
   ·rw [if_neg c15] at H
    have c15b0 : decide (50 < (a1.size : Int)) = false := decide_eq_false c15
    have c15b1 : decide (50 < a1.size) = false := decide_eq_false (by omega)
    clear c15
    replace H := Option.bind_eq_some_iff.mp H
    obtain ⟨t379, A160, H⟩ := H
    replace H : (if t379 = 0 then ((spans_Check.f k (l0.length : Int) a2_2 a2_3).bind fun t380 => (if t380 = 0 then (mummerlaw03_SpansEdits.j0 k l0 a1 (a2_0 == a2_1) a2_0 a2_1 a2_2 a2_3) else (mummerlaw03_SpansEdits.j0 k l0 a1 true a2_0 a2_1 a2_2 a2_3))) else (mummerlaw03_SpansEdits.j0 k l0 a1 true a2_0 a2_1 a2_2 a2_3)) = some r := H
    have A16 := ak A160
    clear A160
    by_cases c17 : t379 = 0
    ·rw [if_pos c17] at H
     have c17b0 : (t379 == 0) = true := beq_iff_eq.mpr c17
     have c17b1 : (t379 != 0) = false := bne_eq_false_iff_eq.mpr c17
     clear c17
     replace H := Option.bind_eq_some_iff.mp H
     obtain ⟨t380, A180, H⟩ := H
     replace H : (if t380 = 0 then (mummerlaw03_SpansEdits.j0 k l0 a1 (a2_0 == a2_1) a2_0 a2_1 a2_2 a2_3) else (mummerlaw03_SpansEdits.j0 k l0 a1 true a2_0 a2_1 a2_2 a2_3)) = some r := H
     have A18 := ak A180
     clear A180
     by_cases c19 : t380 = 0
     ·rw [if_pos c19] at H
      have c19b0 : (t380 == 0) = true := beq_iff_eq.mpr c19
      have c19b1 : (t380 != 0) = false := bne_eq_false_iff_eq.mpr c19
      clear c19
      have H' := ak H
      clear H
      have hnb20 := NB377_376.out
      have hnc20 := NB376_377.out
      have hnb21 := NB377_378.out
      have hnc21 := NB378_377.out
      have hcz22_0 : w9.cell? ⟨gb377, 0, none⟩ = some (.int .i64 0) := (blk_cell BK377.out 0).trans rfl
      have hcz22_1 : w9.cell? ⟨gb377, 1, none⟩ = some (.int .i64 0) := (blk_cell BK377.out 1).trans rfl
      have hfz22_0 := blk_frozen BK377.out 0
      have hfz22_1 := blk_frozen BK377.out 1
      go_wp2_with (first | (go_at_call 22; (with_reducible refine (spans_Check.calls k (l0.length : Int) a2_0 a2_1 t379 _ A16.out).mono ?_); rintro e w23 ⟨rfl, hb⟩; have n0_ := ak (blk_below (g := gb376) (o := .cells #[.int .i64 a2_0, .int .i64 a2_1, .int .i64 a2_2, .int .i64 a2_3] 46 (0, 0)) (by (with_reducible repeat (first | refine bN ?_ _ | refine bD ?_ | refine bA ?_ _)); refine blk_far ?_ NB376_378.out _; (with_reducible repeat (first | refine bN ?_ _ | refine bD ?_ | refine bA ?_ _)); refine blk_far ?_ NB376_378.out _; (with_reducible repeat (first | refine bN ?_ _ | refine bD ?_ | refine bA ?_ _)); refine blk_far ?_ NB376_377.out _; (with_reducible repeat (first | refine bN ?_ _ | refine bD ?_ | refine bA ?_ _)); refine blk_far ?_ NB376_377.out _; (with_reducible repeat (first | refine bN ?_ _ | refine bD ?_ | refine bA ?_ _)); exact BK376.out) hb); have n1_ := ak (blk_below (g := gb377) (o := .cells #[.int .i64 a2_0, .int .i64 a2_1] 24 (0, 0)) (by (with_reducible repeat (first | refine bN ?_ _ | refine bD ?_ | refine bA ?_ _)); refine blk_far ?_ NB377_378.out _; (with_reducible repeat (first | refine bN ?_ _ | refine bD ?_ | refine bA ?_ _)); refine blk_far ?_ NB377_378.out _; (with_reducible repeat (first | refine bN ?_ _ | refine bD ?_ | refine bA ?_ _)); refine blk_put (cs := #[.int .i64 a2_0, .int .i64 0]) ?_ 1 _ rfl; (with_reducible repeat (first | refine bN ?_ _ | refine bD ?_ | refine bA ?_ _)); refine blk_put (cs := #[.int .i64 0, .int .i64 0]) ?_ 0 _ rfl; (with_reducible repeat (first | refine bN ?_ _ | refine bD ?_ | refine bA ?_ _)); exact BK377.out) hb); have n2_ := ak (blk_below (g := gb378) (o := .cells #[.int .i64 a2_2, .int .i64 a2_3] 24 (0, 0)) (by (with_reducible repeat (first | refine bN ?_ _ | refine bD ?_ | refine bA ?_ _)); refine blk_put (cs := #[.int .i64 a2_2, .int .i64 0]) ?_ 1 _ rfl; (with_reducible repeat (first | refine bN ?_ _ | refine bD ?_ | refine bA ?_ _)); refine blk_put (cs := #[.int .i64 0, .int .i64 0]) ?_ 0 _ rfl; (with_reducible repeat (first | refine bN ?_ _ | refine bD ?_ | refine bA ?_ _)); refine blk_far ?_ NB378_377.out _; (with_reducible repeat (first | refine bN ?_ _ | refine bD ?_ | refine bA ?_ _)); refine blk_far ?_ NB378_377.out _; (with_reducible repeat (first | refine bN ?_ _ | refine bD ?_ | refine bA ?_ _)); exact BK378.out) hb); have n3_ := ak (below_step (by repeat (first | (with_reducible first | exact HB.out | apply wA | apply wN | apply wD | refine below_set ?_ GE376.out | refine below_set ?_ GE377.out | refine below_set ?_ GE378.out) | exact HB.out)) hb); clear BK376; clear BK377; clear BK378; clear HB; have BK376 := n0_; have BK377 := n1_; have BK378 := n2_; have HB := n3_; clear n0_ n1_ n2_ n3_; (try clear hb); (try clear hb2); (try clear hk); (try clear hi); have hnb24 := NB378_376.out; have hnc24 := NB376_378.out; have hcz25_0 : w23.cell? ⟨gb378, 0, none⟩ = some (.int .i64 a2_2) := (blk_cell BK378.out 0).trans rfl; have hcz25_1 : w23.cell? ⟨gb378, 1, none⟩ = some (.int .i64 a2_3) := (blk_cell BK378.out 1).trans rfl; have hfz25_0 := blk_frozen BK378.out 0; have hfz25_1 := blk_frozen BK378.out 1) | (go_at_call 22; (with_reducible refine (spans_Check.calls k (l0.length : Int) a2_2 a2_3 t380 _ A18.out).mono ?_); rintro e w26 ⟨rfl, hb⟩; have n0_ := ak (blk_below (g := gb376) (o := .cells #[.int .i64 a2_0, .int .i64 a2_1, .int .i64 a2_2, .int .i64 a2_3] 46 (0, 0)) (by (with_reducible repeat (first | refine bN ?_ _ | refine bD ?_ | refine bA ?_ _)); exact BK376.out) hb); have n1_ := ak (blk_below (g := gb377) (o := .cells #[.int .i64 a2_0, .int .i64 a2_1] 24 (0, 0)) (by (with_reducible repeat (first | refine bN ?_ _ | refine bD ?_ | refine bA ?_ _)); exact BK377.out) hb); have n2_ := ak (blk_below (g := gb378) (o := .cells #[.int .i64 a2_2, .int .i64 a2_3] 24 (0, 0)) (by (with_reducible repeat (first | refine bN ?_ _ | refine bD ?_ | refine bA ?_ _)); exact BK378.out) hb); have n3_ := ak (below_step (by repeat (first | (with_reducible first | exact HB.out | apply wA | apply wN | apply wD | refine below_set ?_ GE376.out | refine below_set ?_ GE377.out | refine below_set ?_ GE378.out) | exact HB.out)) hb); clear BK376; clear BK377; clear BK378; clear HB; have BK376 := n0_; have BK377 := n1_; have BK378 := n2_; have HB := n3_; clear n0_ n1_ n2_ n3_; (try clear hb); (try clear hb2); (try clear hk); (try clear hi); have hcz27_0 : w26.cell? ⟨gb377, 0, none⟩ = some (.int .i64 a2_0) := (blk_cell BK377.out 0).trans rfl; have hcz27_1 : w26.cell? ⟨gb377, 1, none⟩ = some (.int .i64 a2_1) := (blk_cell BK377.out 1).trans rfl; have hfz27_0 := blk_frozen BK377.out 0; have hfz27_1 := blk_frozen BK377.out 1))
      go_meet
      case rel => exact ⟨_, ((a2_0 == a2_1)), (by first | rfl | (simp; done) | (simp [*]; done)), H', ⟨by first | omega | exact Nat.le_refl _⟩, ⟨by (with_reducible repeat (first | refine bN ?_ _ | refine bD ?_ | refine bA ?_ _)); exact BK376.out⟩, ⟨by (with_reducible repeat (first | refine bN ?_ _ | refine bD ?_ | refine bA ?_ _)); exact BK377.out⟩, ⟨by (with_reducible repeat (first | refine bN ?_ _ | refine bD ?_ | refine bA ?_ _)); exact BK378.out⟩, ⟨by repeat (first | (with_reducible first | exact HB.out | apply wA | apply wN | apply wD | refine below_set ?_ GE376.out | refine below_set ?_ GE377.out | refine below_set ?_ GE378.out) | exact HB.out)⟩⟩
     ·rw [if_neg c19] at H
      have c19b0 : (t380 == 0) = false := beq_eq_false_iff_ne.mpr c19
      have c19b1 : (t380 != 0) = true := bne_iff_ne.mpr c19
      have H' := ak H
      clear H
      have hnb28 := NB377_376.out
      have hnc28 := NB376_377.out
      have hnb29 := NB377_378.out
      have hnc29 := NB378_377.out
      have hcz30_0 : w9.cell? ⟨gb377, 0, none⟩ = some (.int .i64 0) := (blk_cell BK377.out 0).trans rfl
      have hcz30_1 : w9.cell? ⟨gb377, 1, none⟩ = some (.int .i64 0) := (blk_cell BK377.out 1).trans rfl
      have hfz30_0 := blk_frozen BK377.out 0
      have hfz30_1 := blk_frozen BK377.out 1
      go_wp2_with (first | (go_at_call 22; (with_reducible refine (spans_Check.calls k (l0.length : Int) a2_0 a2_1 t379 _ A16.out).mono ?_); rintro e w31 ⟨rfl, hb⟩; have n0_ := ak (blk_below (g := gb376) (o := .cells #[.int .i64 a2_0, .int .i64 a2_1, .int .i64 a2_2, .int .i64 a2_3] 46 (0, 0)) (by (with_reducible repeat (first | refine bN ?_ _ | refine bD ?_ | refine bA ?_ _)); refine blk_far ?_ NB376_378.out _; (with_reducible repeat (first | refine bN ?_ _ | refine bD ?_ | refine bA ?_ _)); refine blk_far ?_ NB376_378.out _; (with_reducible repeat (first | refine bN ?_ _ | refine bD ?_ | refine bA ?_ _)); refine blk_far ?_ NB376_377.out _; (with_reducible repeat (first | refine bN ?_ _ | refine bD ?_ | refine bA ?_ _)); refine blk_far ?_ NB376_377.out _; (with_reducible repeat (first | refine bN ?_ _ | refine bD ?_ | refine bA ?_ _)); exact BK376.out) hb); have n1_ := ak (blk_below (g := gb377) (o := .cells #[.int .i64 a2_0, .int .i64 a2_1] 24 (0, 0)) (by (with_reducible repeat (first | refine bN ?_ _ | refine bD ?_ | refine bA ?_ _)); refine blk_far ?_ NB377_378.out _; (with_reducible repeat (first | refine bN ?_ _ | refine bD ?_ | refine bA ?_ _)); refine blk_far ?_ NB377_378.out _; (with_reducible repeat (first | refine bN ?_ _ | refine bD ?_ | refine bA ?_ _)); refine blk_put (cs := #[.int .i64 a2_0, .int .i64 0]) ?_ 1 _ rfl; (with_reducible repeat (first | refine bN ?_ _ | refine bD ?_ | refine bA ?_ _)); refine blk_put (cs := #[.int .i64 0, .int .i64 0]) ?_ 0 _ rfl; (with_reducible repeat (first | refine bN ?_ _ | refine bD ?_ | refine bA ?_ _)); exact BK377.out) hb); have n2_ := ak (blk_below (g := gb378) (o := .cells #[.int .i64 a2_2, .int .i64 a2_3] 24 (0, 0)) (by (with_reducible repeat (first | refine bN ?_ _ | refine bD ?_ | refine bA ?_ _)); refine blk_put (cs := #[.int .i64 a2_2, .int .i64 0]) ?_ 1 _ rfl; (with_reducible repeat (first | refine bN ?_ _ | refine bD ?_ | refine bA ?_ _)); refine blk_put (cs := #[.int .i64 0, .int .i64 0]) ?_ 0 _ rfl; (with_reducible repeat (first | refine bN ?_ _ | refine bD ?_ | refine bA ?_ _)); refine blk_far ?_ NB378_377.out _; (with_reducible repeat (first | refine bN ?_ _ | refine bD ?_ | refine bA ?_ _)); refine blk_far ?_ NB378_377.out _; (with_reducible repeat (first | refine bN ?_ _ | refine bD ?_ | refine bA ?_ _)); exact BK378.out) hb); have n3_ := ak (below_step (by repeat (first | (with_reducible first | exact HB.out | apply wA | apply wN | apply wD | refine below_set ?_ GE376.out | refine below_set ?_ GE377.out | refine below_set ?_ GE378.out) | exact HB.out)) hb); clear BK376; clear BK377; clear BK378; clear HB; have BK376 := n0_; have BK377 := n1_; have BK378 := n2_; have HB := n3_; clear n0_ n1_ n2_ n3_; (try clear hb); (try clear hb2); (try clear hk); (try clear hi); have hnb32 := NB378_376.out; have hnc32 := NB376_378.out; have hcz33_0 : w31.cell? ⟨gb378, 0, none⟩ = some (.int .i64 a2_2) := (blk_cell BK378.out 0).trans rfl; have hcz33_1 : w31.cell? ⟨gb378, 1, none⟩ = some (.int .i64 a2_3) := (blk_cell BK378.out 1).trans rfl; have hfz33_0 := blk_frozen BK378.out 0; have hfz33_1 := blk_frozen BK378.out 1) | (go_at_call 22; (with_reducible refine (spans_Check.calls k (l0.length : Int) a2_2 a2_3 t380 _ A18.out).mono ?_); rintro e w34 ⟨rfl, hb⟩; have n0_ := ak (blk_below (g := gb376) (o := .cells #[.int .i64 a2_0, .int .i64 a2_1, .int .i64 a2_2, .int .i64 a2_3] 46 (0, 0)) (by (with_reducible repeat (first | refine bN ?_ _ | refine bD ?_ | refine bA ?_ _)); exact BK376.out) hb); have n1_ := ak (blk_below (g := gb377) (o := .cells #[.int .i64 a2_0, .int .i64 a2_1] 24 (0, 0)) (by (with_reducible repeat (first | refine bN ?_ _ | refine bD ?_ | refine bA ?_ _)); exact BK377.out) hb); have n2_ := ak (blk_below (g := gb378) (o := .cells #[.int .i64 a2_2, .int .i64 a2_3] 24 (0, 0)) (by (with_reducible repeat (first | refine bN ?_ _ | refine bD ?_ | refine bA ?_ _)); exact BK378.out) hb); have n3_ := ak (below_step (by repeat (first | (with_reducible first | exact HB.out | apply wA | apply wN | apply wD | refine below_set ?_ GE376.out | refine below_set ?_ GE377.out | refine below_set ?_ GE378.out) | exact HB.out)) hb); clear BK376; clear BK377; clear BK378; clear HB; have BK376 := n0_; have BK377 := n1_; have BK378 := n2_; have HB := n3_; clear n0_ n1_ n2_ n3_; (try clear hb); (try clear hb2); (try clear hk); (try clear hi)))
      go_meet
      case rel => exact ⟨_, (true), (by first | rfl | (simp; done) | (simp [*]; done)), H', ⟨by first | omega | exact Nat.le_refl _⟩, ⟨by (with_reducible repeat (first | refine bN ?_ _ | refine bD ?_ | refine bA ?_ _)); exact BK376.out⟩, ⟨by (with_reducible repeat (first | refine bN ?_ _ | refine bD ?_ | refine bA ?_ _)); exact BK377.out⟩, ⟨by (with_reducible repeat (first | refine bN ?_ _ | refine bD ?_ | refine bA ?_ _)); exact BK378.out⟩, ⟨by repeat (first | (with_reducible first | exact HB.out | apply wA | apply wN | apply wD | refine below_set ?_ GE376.out | refine below_set ?_ GE377.out | refine below_set ?_ GE378.out) | exact HB.out)⟩⟩
    ·rw [if_neg c17] at H
     have c17b0 : (t379 == 0) = false := beq_eq_false_iff_ne.mpr c17
     have c17b1 : (t379 != 0) = true := bne_iff_ne.mpr c17
     have H' := ak H
     clear H
     have hnb35 := NB377_376.out
     have hnc35 := NB376_377.out
     have hnb36 := NB377_378.out
     have hnc36 := NB378_377.out
     have hcz37_0 : w9.cell? ⟨gb377, 0, none⟩ = some (.int .i64 0) := (blk_cell BK377.out 0).trans rfl
     have hcz37_1 : w9.cell? ⟨gb377, 1, none⟩ = some (.int .i64 0) := (blk_cell BK377.out 1).trans rfl
     have hfz37_0 := blk_frozen BK377.out 0
     have hfz37_1 := blk_frozen BK377.out 1
     go_wp2_with (first | (go_at_call 22; (with_reducible refine (spans_Check.calls k (l0.length : Int) a2_0 a2_1 t379 _ A16.out).mono ?_); rintro e w38 ⟨rfl, hb⟩; have n0_ := ak (blk_below (g := gb376) (o := .cells #[.int .i64 a2_0, .int .i64 a2_1, .int .i64 a2_2, .int .i64 a2_3] 46 (0, 0)) (by (with_reducible repeat (first | refine bN ?_ _ | refine bD ?_ | refine bA ?_ _)); refine blk_far ?_ NB376_378.out _; (with_reducible repeat (first | refine bN ?_ _ | refine bD ?_ | refine bA ?_ _)); refine blk_far ?_ NB376_378.out _; (with_reducible repeat (first | refine bN ?_ _ | refine bD ?_ | refine bA ?_ _)); refine blk_far ?_ NB376_377.out _; (with_reducible repeat (first | refine bN ?_ _ | refine bD ?_ | refine bA ?_ _)); refine blk_far ?_ NB376_377.out _; (with_reducible repeat (first | refine bN ?_ _ | refine bD ?_ | refine bA ?_ _)); exact BK376.out) hb); have n1_ := ak (blk_below (g := gb377) (o := .cells #[.int .i64 a2_0, .int .i64 a2_1] 24 (0, 0)) (by (with_reducible repeat (first | refine bN ?_ _ | refine bD ?_ | refine bA ?_ _)); refine blk_far ?_ NB377_378.out _; (with_reducible repeat (first | refine bN ?_ _ | refine bD ?_ | refine bA ?_ _)); refine blk_far ?_ NB377_378.out _; (with_reducible repeat (first | refine bN ?_ _ | refine bD ?_ | refine bA ?_ _)); refine blk_put (cs := #[.int .i64 a2_0, .int .i64 0]) ?_ 1 _ rfl; (with_reducible repeat (first | refine bN ?_ _ | refine bD ?_ | refine bA ?_ _)); refine blk_put (cs := #[.int .i64 0, .int .i64 0]) ?_ 0 _ rfl; (with_reducible repeat (first | refine bN ?_ _ | refine bD ?_ | refine bA ?_ _)); exact BK377.out) hb); have n2_ := ak (blk_below (g := gb378) (o := .cells #[.int .i64 a2_2, .int .i64 a2_3] 24 (0, 0)) (by (with_reducible repeat (first | refine bN ?_ _ | refine bD ?_ | refine bA ?_ _)); refine blk_put (cs := #[.int .i64 a2_2, .int .i64 0]) ?_ 1 _ rfl; (with_reducible repeat (first | refine bN ?_ _ | refine bD ?_ | refine bA ?_ _)); refine blk_put (cs := #[.int .i64 0, .int .i64 0]) ?_ 0 _ rfl; (with_reducible repeat (first | refine bN ?_ _ | refine bD ?_ | refine bA ?_ _)); refine blk_far ?_ NB378_377.out _; (with_reducible repeat (first | refine bN ?_ _ | refine bD ?_ | refine bA ?_ _)); refine blk_far ?_ NB378_377.out _; (with_reducible repeat (first | refine bN ?_ _ | refine bD ?_ | refine bA ?_ _)); exact BK378.out) hb); have n3_ := ak (below_step (by repeat (first | (with_reducible first | exact HB.out | apply wA | apply wN | apply wD | refine below_set ?_ GE376.out | refine below_set ?_ GE377.out | refine below_set ?_ GE378.out) | exact HB.out)) hb); clear BK376; clear BK377; clear BK378; clear HB; have BK376 := n0_; have BK377 := n1_; have BK378 := n2_; have HB := n3_; clear n0_ n1_ n2_ n3_; (try clear hb); (try clear hb2); (try clear hk); (try clear hi)))
     go_meet
     case rel => exact ⟨_, (true), (by first | rfl | (simp; done) | (simp [*]; done)), H', ⟨by first | omega | exact Nat.le_refl _⟩, ⟨by (with_reducible repeat (first | refine bN ?_ _ | refine bD ?_ | refine bA ?_ _)); exact BK376.out⟩, ⟨by (with_reducible repeat (first | refine bN ?_ _ | refine bD ?_ | refine bA ?_ _)); exact BK377.out⟩, ⟨by (with_reducible repeat (first | refine bN ?_ _ | refine bD ?_ | refine bA ?_ _)); exact BK378.out⟩, ⟨by repeat (first | (with_reducible first | exact HB.out | apply wA | apply wN | apply wD | refine below_set ?_ GE376.out | refine below_set ?_ GE377.out | refine below_set ?_ GE378.out) | exact HB.out)⟩⟩
 case rest =>
  clear HC4
  try clear c1
  try clear c2
  try clear p2
  try clear c3
  try clear c6
  try clear c14
  try clear c14b0
  try clear c14b1
  try clear c15
  try clear c15b0
  try clear c15b1
  try clear c17
  try clear c17b0
  try clear c17b1
  try clear c19
  try clear c19b0
  try clear c19b1
  try clear c20
  try clear c21
  try clear c24
  try clear c28
  try clear c29
  try clear c32
  try clear c35
  try clear c36
  try clear hcz22_0
  try clear hcz22_1
  try clear hcz25_0
  try clear hcz25_1
  try clear hcz27_0
  try clear hcz27_1
  try clear hcz30_0
  try clear hcz30_1
  try clear hcz33_0
  try clear hcz33_1
  try clear hcz37_0
  try clear hcz37_1
  try clear hfz22_0
  try clear hfz22_1
  try clear hfz25_0
  try clear hfz25_1
  try clear hfz27_0
  try clear hfz27_1
  try clear hfz30_0
  try clear hfz30_1
  try clear hfz33_0
  try clear hfz33_1
  try clear hfz37_0
  try clear hfz37_1
  obtain ⟨kq, x50_3, rfl, HA, HJ3, BK376, BK377, BK378, HB⟩ := hcut
  cases kq with
  | zero => exact absurd HA.out (by simp [mummerlaw03_SpansEdits.j0])
  | succ kj3 =>
   have H := HA.out
   clear HA
   simp only [mummerlaw03_SpansEdits.j0] at H
   by_cases c39 : x50_3 = true
   ·subst c39
    have H1 : ((mummerlaw03_awake.f kj3).bind fun t381 => (some t381)) = some r := by rw [if_pos rfl] at H; exact H
    clear H
    have H := H1
    clear H1
    replace H := Option.bind_eq_some_iff.mp H
    obtain ⟨t381, A400, H⟩ := H
    replace H : (some t381) = some r := H
    have A40 := ak A400
    clear A400
    obtain rfl := Option.some.inj H
    go_wp2_with (first | ((with_reducible refine gate_callee (f := 12) rfl ?_); refine goesL_ (some 51) rfl rfl Tryd.func12 (by kernel_rfl) rfl #[] rfl (by (try simp only [List.map_toArray, List.map_cons, List.map_nil]); first | done | rfl | (simp only [List.length_drop, List.length_take]; rfl)) ?_; (with_reducible refine (mummerlaw03_awake.calls kj3  t381 _ hrt A40.out ⟨Sc.Tab.stay HT.out (by repeat (first | (with_reducible first | exact HB.out | apply wA | apply wN | apply wD) | exact HB.out | (refine below_set ?_ (by assumption)) | (refine below_set ?_ (Aside0.out (by assumption)))))⟩).mono ?_); rintro e w41 ⟨rfl, hb⟩; refine ⟨_, rfl, ?_⟩; have n0_ := ak (blk_below (g := gb376) (o := .cells #[.int .i64 a2_0, .int .i64 a2_1, .int .i64 a2_2, .int .i64 a2_3] 46 (0, 0)) (by (with_reducible repeat (first | refine bN ?_ _ | refine bD ?_ | refine bA ?_ _)); exact BK376.out) hb); have n1_ := ak (blk_below (g := gb377) (o := .cells #[.int .i64 a2_0, .int .i64 a2_1] 24 (0, 0)) (by (with_reducible repeat (first | refine bN ?_ _ | refine bD ?_ | refine bA ?_ _)); exact BK377.out) hb); have n2_ := ak (blk_below (g := gb378) (o := .cells #[.int .i64 a2_2, .int .i64 a2_3] 24 (0, 0)) (by (with_reducible repeat (first | refine bN ?_ _ | refine bD ?_ | refine bA ?_ _)); exact BK378.out) hb); have n3_ := ak (below_step (by repeat (first | (with_reducible first | exact HB.out | apply wA | apply wN | apply wD | refine below_set ?_ GE376.out | refine below_set ?_ GE377.out | refine below_set ?_ GE378.out) | exact HB.out)) hb); clear BK376; clear BK377; clear BK378; clear HB; have BK376 := n0_; have BK377 := n1_; have BK378 := n2_; have HB := n3_; clear n0_ n1_ n2_ n3_; (try clear hb); (try clear hb2); (try clear hk); (try clear hi)))
    go_ret
    exact ⟨by first | rfl | (simp [errW_none, errW_some] <;> rfl) | (simp [*, errW_none, errW_some] <;> rfl), by repeat (first | (with_reducible first | exact HB.out | apply wA | apply wN | apply wD | refine below_set ?_ GE376.out | refine below_set ?_ GE377.out | refine below_set ?_ GE378.out) | exact HB.out)⟩
   ·replace c39 := Bool.eq_false_iff.mpr c39
    subst c39
    have H1 : (if a2_0 < 0 then (some false) else (if a2_0 > a2_1 then (some false) else (if a2_1 > (l0.length : Int) then (some false) else (if a2_2 < 0 then (some false) else (if a2_2 > a2_3 then (some false) else (if a2_3 > (l0.length : Int) then (some false) else (if 0 ≤ a2_2 then (if a2_2 ≤ (l0.length : Int) then (if (strOfNums (l0.take (a2_2 : Int).toNat)).size + a1.size ≤ 9223372036854775807 then (if 0 ≤ a2_3 then (if a2_3 ≤ (l0.length : Int) then (if ((strOfNums (l0.take (a2_2 : Int).toNat)) ++ a1).size + (strOfNums (l0.drop (a2_3 : Int).toNat)).size ≤ 9223372036854775807 then ((spans_Shift.f kj3 a2_0 a2_1 a2_2 a2_3 (a1.size : Int)).bind fun bt385 => (if bt385.2.2 = 0 then (if 0 ≤ a2_0 then (if a2_0 ≤ a2_1 then (if a2_1 ≤ (l0.length : Int) then ((spans_Before.f kj3 a2_2 a2_3 a2_0 a2_1).bind fun bt393 => ((spans_Before.f kj3 a2_0 a2_1 a2_2 a2_3).bind fun bt395 => (if bt393.2 = 0 then (if bt395.2 = 0 then ((spans_Check.f kj3 ((((strOfNums (l0.take (a2_2 : Int).toNat)) ++ a1) ++ (strOfNums (l0.drop (a2_3 : Int).toNat))).size : Int) bt385.1 bt385.2.1).bind fun t397 => (if t397 = 0 then (if bt393.1 = true then (mummerlaw03_SpansEdits.j1 kj3 l0 a1 (((strOfNums (l0.take (a2_2 : Int).toNat)) ++ a1) ++ (strOfNums (l0.drop (a2_3 : Int).toNat))) (strOfNums ((l0.take (a2_1 : Int).toNat).drop (a2_0 : Int).toNat)) bt393.1 bt395.1 false a2_0 a2_1 a2_2 a2_3 bt385.1 bt385.2.1) else (if bt395.1 = true then (mummerlaw03_SpansEdits.j1 kj3 l0 a1 (((strOfNums (l0.take (a2_2 : Int).toNat)) ++ a1) ++ (strOfNums (l0.drop (a2_3 : Int).toNat))) (strOfNums ((l0.take (a2_1 : Int).toNat).drop (a2_0 : Int).toNat)) bt393.1 bt395.1 false a2_0 a2_1 a2_2 a2_3 bt385.1 bt385.2.1) else (if a2_2 < a2_0 then (some false) else (mummerlaw03_SpansEdits.j1 kj3 l0 a1 (((strOfNums (l0.take (a2_2 : Int).toNat)) ++ a1) ++ (strOfNums (l0.drop (a2_3 : Int).toNat))) (strOfNums ((l0.take (a2_1 : Int).toNat).drop (a2_0 : Int).toNat)) bt393.1 bt395.1 (decide (a2_3 > a2_1)) a2_0 a2_1 a2_2 a2_3 bt385.1 bt385.2.1)))) else (some false))) else (some false)) else (some false)))) else (none)) else (none)) else (none)) else (if (mx a2_0 a2_2) < (mn a2_1 a2_3) then (if a2_2 < a2_0 then (if bt385.2.2 = 4 then ((mummerlaw03_awake.f kj3).bind fun t389 => (some t389)) else (some false)) else (if bt385.2.2 = 4 then (if a2_3 > a2_1 then ((mummerlaw03_awake.f kj3).bind fun t390 => (some t390)) else (some false)) else (some false))) else (if bt385.2.2 = 4 then (some false) else (some false))))) else (none)) else (none)) else (none)) else (none)) else (none)) else (none)))))))) = some r := by rw [if_neg (show ¬ (false = true) by decide)] at H; exact H
    clear H
    have H := H1
    clear H1
    by_cases c42 : a2_0 < 0
    ·rw [if_pos c42] at H
     have c42b0 : decide (a2_0 < 0) = true := decide_eq_true c42
     clear c42
     exact absurd ((Option.some.inj H).trans hrt.out) (by decide)
    ·rw [if_neg c42] at H
     have c42b0 : decide (a2_0 < 0) = false := decide_eq_false c42
     clear c42
     by_cases c43 : a2_0 > a2_1
     ·rw [if_pos c43] at H
      have c43b0 : decide (a2_1 < a2_0) = true := decide_eq_true c43
      clear c43
      exact absurd ((Option.some.inj H).trans hrt.out) (by decide)
     ·rw [if_neg c43] at H
      have c43b0 : decide (a2_1 < a2_0) = false := decide_eq_false c43
      clear c43
      by_cases c44 : a2_1 > (l0.length : Int)
      ·rw [if_pos c44] at H
       have c44b0 : decide ((l0.length : Int) < a2_1) = true := decide_eq_true c44
       clear c44
       exact absurd ((Option.some.inj H).trans hrt.out) (by decide)
      ·rw [if_neg c44] at H
       have c44b0 : decide ((l0.length : Int) < a2_1) = false := decide_eq_false c44
       clear c44
       by_cases c45 : a2_2 < 0
       ·rw [if_pos c45] at H
        have c45b0 : decide (a2_2 < 0) = true := decide_eq_true c45
        clear c45
        exact absurd ((Option.some.inj H).trans hrt.out) (by decide)
       ·rw [if_neg c45] at H
        have c45b0 : decide (a2_2 < 0) = false := decide_eq_false c45
        clear c45
        by_cases c46 : a2_2 > a2_3
        ·rw [if_pos c46] at H
         have c46b0 : decide (a2_3 < a2_2) = true := decide_eq_true c46
         clear c46
         exact absurd ((Option.some.inj H).trans hrt.out) (by decide)
        ·rw [if_neg c46] at H
         have c46b0 : decide (a2_3 < a2_2) = false := decide_eq_false c46
         clear c46
         by_cases c47 : a2_3 > (l0.length : Int)
         ·rw [if_pos c47] at H
          have c47b0 : decide ((l0.length : Int) < a2_3) = true := decide_eq_true c47
          clear c47
          exact absurd ((Option.some.inj H).trans hrt.out) (by decide)
         ·rw [if_neg c47] at H
          have c47b0 : decide ((l0.length : Int) < a2_3) = false := decide_eq_false c47
          clear c47
          by_cases c48 : 0 ≤ a2_2
          ·rw [if_pos c48] at H
           have c48b0 := eq_true c48
           have c48b1 : decide (0 ≤ a2_2) = true := decide_eq_true c48
           clear c48
           by_cases c49 : a2_2 ≤ (l0.length : Int)
           ·rw [if_pos c49] at H
            have c49b0 := eq_true c49
            have c49b1 : decide (a2_2 ≤ (l0.length : Int)) = true := decide_eq_true c49
            clear c49
            by_cases c50 : (strOfNums (l0.take (a2_2 : Int).toNat)).size + a1.size ≤ 9223372036854775807
            ·rw [if_pos c50] at H
             have c50b0 := eq_true c50
             have c50b1 : decide ((strOfNums (l0.take (a2_2 : Int).toNat)).size + a1.size ≤ 9223372036854775807) = true := decide_eq_true c50
             try have c50b2 : (9223372036854775807 < (strOfNums (l0.take (a2_2 : Int).toNat)).size + a1.size) = False := eq_false (Nat.not_lt.2 c50)
             by_cases c51 : 0 ≤ a2_3
             ·rw [if_pos c51] at H
              have c51b0 := eq_true c51
              have c51b1 : decide (0 ≤ a2_3) = true := decide_eq_true c51
              clear c51
              by_cases c52 : a2_3 ≤ (l0.length : Int)
              ·rw [if_pos c52] at H
               have c52b0 := eq_true c52
               have c52b1 : decide (a2_3 ≤ (l0.length : Int)) = true := decide_eq_true c52
               clear c52
               by_cases c53 : ((strOfNums (l0.take (a2_2 : Int).toNat)) ++ a1).size + (strOfNums (l0.drop (a2_3 : Int).toNat)).size ≤ 9223372036854775807
               ·rw [if_pos c53] at H
                have c53b0 := eq_true c53
                have c53b1 : decide (((strOfNums (l0.take (a2_2 : Int).toNat)) ++ a1).size + (strOfNums (l0.drop (a2_3 : Int).toNat)).size ≤ 9223372036854775807) = true := decide_eq_true c53
                try have c53b2 : (9223372036854775807 < ((strOfNums (l0.take (a2_2 : Int).toNat)) ++ a1).size + (strOfNums (l0.drop (a2_3 : Int).toNat)).size) = False := eq_false (Nat.not_lt.2 c53)
                try have c53b4 : (9223372036854775807 < (strOfNums (l0.take (a2_2 : Int).toNat)).size + a1.size + (strOfNums (l0.drop (a2_3 : Int).toNat)).size) = False := by have h_ := c53; rw [ByteArray.size_append] at h_; exact eq_false (Nat.not_lt.2 h_)
                replace H := Option.bind_eq_some_iff.mp H
                obtain ⟨⟨t385, t386, t387⟩, A540, H⟩ := H
                replace H : (if t387 = 0 then (if 0 ≤ a2_0 then (if a2_0 ≤ a2_1 then (if a2_1 ≤ (l0.length : Int) then ((spans_Before.f kj3 a2_2 a2_3 a2_0 a2_1).bind fun bt393 => ((spans_Before.f kj3 a2_0 a2_1 a2_2 a2_3).bind fun bt395 => (if bt393.2 = 0 then (if bt395.2 = 0 then ((spans_Check.f kj3 ((((strOfNums (l0.take (a2_2 : Int).toNat)) ++ a1) ++ (strOfNums (l0.drop (a2_3 : Int).toNat))).size : Int) t385 t386).bind fun t397 => (if t397 = 0 then (if bt393.1 = true then (mummerlaw03_SpansEdits.j1 kj3 l0 a1 (((strOfNums (l0.take (a2_2 : Int).toNat)) ++ a1) ++ (strOfNums (l0.drop (a2_3 : Int).toNat))) (strOfNums ((l0.take (a2_1 : Int).toNat).drop (a2_0 : Int).toNat)) bt393.1 bt395.1 false a2_0 a2_1 a2_2 a2_3 t385 t386) else (if bt395.1 = true then (mummerlaw03_SpansEdits.j1 kj3 l0 a1 (((strOfNums (l0.take (a2_2 : Int).toNat)) ++ a1) ++ (strOfNums (l0.drop (a2_3 : Int).toNat))) (strOfNums ((l0.take (a2_1 : Int).toNat).drop (a2_0 : Int).toNat)) bt393.1 bt395.1 false a2_0 a2_1 a2_2 a2_3 t385 t386) else (if a2_2 < a2_0 then (some false) else (mummerlaw03_SpansEdits.j1 kj3 l0 a1 (((strOfNums (l0.take (a2_2 : Int).toNat)) ++ a1) ++ (strOfNums (l0.drop (a2_3 : Int).toNat))) (strOfNums ((l0.take (a2_1 : Int).toNat).drop (a2_0 : Int).toNat)) bt393.1 bt395.1 (decide (a2_3 > a2_1)) a2_0 a2_1 a2_2 a2_3 t385 t386)))) else (some false))) else (some false)) else (some false)))) else (none)) else (none)) else (none)) else (if (mx a2_0 a2_2) < (mn a2_1 a2_3) then (if a2_2 < a2_0 then (if t387 = 4 then ((mummerlaw03_awake.f kj3).bind fun t389 => (some t389)) else (some false)) else (if t387 = 4 then (if a2_3 > a2_1 then ((mummerlaw03_awake.f kj3).bind fun t390 => (some t390)) else (some false)) else (some false))) else (if t387 = 4 then (some false) else (some false)))) = some r := H
                have A54 := ak A540
                clear A540
                by_cases c55 : t387 = 0
                ·rw [if_pos c55] at H
                 have c55b0 : (t387 == 0) = true := beq_iff_eq.mpr c55
                 have c55b1 : (t387 != 0) = false := bne_eq_false_iff_eq.mpr c55
                 clear c55
                 by_cases c56 : 0 ≤ a2_0
                 ·rw [if_pos c56] at H
                  have c56b0 := eq_true c56
                  have c56b1 : decide (0 ≤ a2_0) = true := decide_eq_true c56
                  clear c56
                  by_cases c57 : a2_0 ≤ a2_1
                  ·rw [if_pos c57] at H
                   have c57b0 := eq_true c57
                   have c57b1 : decide (a2_0 ≤ a2_1) = true := decide_eq_true c57
                   clear c57
                   by_cases c58 : a2_1 ≤ (l0.length : Int)
                   ·rw [if_pos c58] at H
                    have c58b0 := eq_true c58
                    have c58b1 : decide (a2_1 ≤ (l0.length : Int)) = true := decide_eq_true c58
                    clear c58
                    replace H := Option.bind_eq_some_iff.mp H
                    obtain ⟨⟨t393, t394⟩, A590, H⟩ := H
                    replace H : ((spans_Before.f kj3 a2_0 a2_1 a2_2 a2_3).bind fun bt395 => (if t394 = 0 then (if bt395.2 = 0 then ((spans_Check.f kj3 ((((strOfNums (l0.take (a2_2 : Int).toNat)) ++ a1) ++ (strOfNums (l0.drop (a2_3 : Int).toNat))).size : Int) t385 t386).bind fun t397 => (if t397 = 0 then (if t393 = true then (mummerlaw03_SpansEdits.j1 kj3 l0 a1 (((strOfNums (l0.take (a2_2 : Int).toNat)) ++ a1) ++ (strOfNums (l0.drop (a2_3 : Int).toNat))) (strOfNums ((l0.take (a2_1 : Int).toNat).drop (a2_0 : Int).toNat)) t393 bt395.1 false a2_0 a2_1 a2_2 a2_3 t385 t386) else (if bt395.1 = true then (mummerlaw03_SpansEdits.j1 kj3 l0 a1 (((strOfNums (l0.take (a2_2 : Int).toNat)) ++ a1) ++ (strOfNums (l0.drop (a2_3 : Int).toNat))) (strOfNums ((l0.take (a2_1 : Int).toNat).drop (a2_0 : Int).toNat)) t393 bt395.1 false a2_0 a2_1 a2_2 a2_3 t385 t386) else (if a2_2 < a2_0 then (some false) else (mummerlaw03_SpansEdits.j1 kj3 l0 a1 (((strOfNums (l0.take (a2_2 : Int).toNat)) ++ a1) ++ (strOfNums (l0.drop (a2_3 : Int).toNat))) (strOfNums ((l0.take (a2_1 : Int).toNat).drop (a2_0 : Int).toNat)) t393 bt395.1 (decide (a2_3 > a2_1)) a2_0 a2_1 a2_2 a2_3 t385 t386)))) else (some false))) else (some false)) else (some false))) = some r := H
                    have A59 := ak A590
                    clear A590
                    replace H := Option.bind_eq_some_iff.mp H
                    obtain ⟨⟨t395, t396⟩, A600, H⟩ := H
                    replace H : (if t394 = 0 then (if t396 = 0 then ((spans_Check.f kj3 ((((strOfNums (l0.take (a2_2 : Int).toNat)) ++ a1) ++ (strOfNums (l0.drop (a2_3 : Int).toNat))).size : Int) t385 t386).bind fun t397 => (if t397 = 0 then (if t393 = true then (mummerlaw03_SpansEdits.j1 kj3 l0 a1 (((strOfNums (l0.take (a2_2 : Int).toNat)) ++ a1) ++ (strOfNums (l0.drop (a2_3 : Int).toNat))) (strOfNums ((l0.take (a2_1 : Int).toNat).drop (a2_0 : Int).toNat)) t393 t395 false a2_0 a2_1 a2_2 a2_3 t385 t386) else (if t395 = true then (mummerlaw03_SpansEdits.j1 kj3 l0 a1 (((strOfNums (l0.take (a2_2 : Int).toNat)) ++ a1) ++ (strOfNums (l0.drop (a2_3 : Int).toNat))) (strOfNums ((l0.take (a2_1 : Int).toNat).drop (a2_0 : Int).toNat)) t393 t395 false a2_0 a2_1 a2_2 a2_3 t385 t386) else (if a2_2 < a2_0 then (some false) else (mummerlaw03_SpansEdits.j1 kj3 l0 a1 (((strOfNums (l0.take (a2_2 : Int).toNat)) ++ a1) ++ (strOfNums (l0.drop (a2_3 : Int).toNat))) (strOfNums ((l0.take (a2_1 : Int).toNat).drop (a2_0 : Int).toNat)) t393 t395 (decide (a2_3 > a2_1)) a2_0 a2_1 a2_2 a2_3 t385 t386)))) else (some false))) else (some false)) else (some false)) = some r := H
                    have A60 := ak A600
                    clear A600
                    by_cases c61 : t394 = 0
                    ·rw [if_pos c61] at H
                     have c61b0 : (t394 == 0) = true := beq_iff_eq.mpr c61
                     have c61b1 : (t394 != 0) = false := bne_eq_false_iff_eq.mpr c61
                     clear c61
                     by_cases c62 : t396 = 0
                     ·rw [if_pos c62] at H
                      have c62b0 : (t396 == 0) = true := beq_iff_eq.mpr c62
                      have c62b1 : (t396 != 0) = false := bne_eq_false_iff_eq.mpr c62
                      clear c62
                      replace H := Option.bind_eq_some_iff.mp H
                      obtain ⟨t397, A630, H⟩ := H
                      replace H : (if t397 = 0 then (if t393 = true then (mummerlaw03_SpansEdits.j1 kj3 l0 a1 (((strOfNums (l0.take (a2_2 : Int).toNat)) ++ a1) ++ (strOfNums (l0.drop (a2_3 : Int).toNat))) (strOfNums ((l0.take (a2_1 : Int).toNat).drop (a2_0 : Int).toNat)) t393 t395 false a2_0 a2_1 a2_2 a2_3 t385 t386) else (if t395 = true then (mummerlaw03_SpansEdits.j1 kj3 l0 a1 (((strOfNums (l0.take (a2_2 : Int).toNat)) ++ a1) ++ (strOfNums (l0.drop (a2_3 : Int).toNat))) (strOfNums ((l0.take (a2_1 : Int).toNat).drop (a2_0 : Int).toNat)) t393 t395 false a2_0 a2_1 a2_2 a2_3 t385 t386) else (if a2_2 < a2_0 then (some false) else (mummerlaw03_SpansEdits.j1 kj3 l0 a1 (((strOfNums (l0.take (a2_2 : Int).toNat)) ++ a1) ++ (strOfNums (l0.drop (a2_3 : Int).toNat))) (strOfNums ((l0.take (a2_1 : Int).toNat).drop (a2_0 : Int).toNat)) t393 t395 (decide (a2_3 > a2_1)) a2_0 a2_1 a2_2 a2_3 t385 t386)))) else (some false)) = some r := H
                      have A63 := ak A630
                      clear A630
                      by_cases c64 : t397 = 0
                      ·rw [if_pos c64] at H
                       have c64b0 : (t397 == 0) = true := beq_iff_eq.mpr c64
                       have c64b1 : (t397 != 0) = false := bne_eq_false_iff_eq.mpr c64
                       clear c64
                       have HC65 := ak H
                       clear H
                       have hnb66 := NB377_376.out
                       have hnc66 := NB376_377.out
                       have hnb67 := NB377_378.out
                       have hnc67 := NB378_377.out
                       have hcz68_0 : wc.cell? ⟨gb377, 0, none⟩ = some (.int .i64 a2_0) := (blk_cell BK377.out 0).trans rfl
                       have hcz68_1 : wc.cell? ⟨gb377, 1, none⟩ = some (.int .i64 a2_1) := (blk_cell BK377.out 1).trans rfl
                       have hfz68_0 := blk_frozen BK377.out 0
                       have hfz68_1 := blk_frozen BK377.out 1
                       have hnb69 := NB378_376.out
                       have hnc69 := NB376_378.out
                       have hcz70_0 : wc.cell? ⟨gb378, 0, none⟩ = some (.int .i64 a2_2) := (blk_cell BK378.out 0).trans rfl
                       have hcz70_1 : wc.cell? ⟨gb378, 1, none⟩ = some (.int .i64 a2_3) := (blk_cell BK378.out 1).trans rfl
                       have hfz70_0 := blk_frozen BK378.out 0
                       have hfz70_1 := blk_frozen BK378.out 1
                       try go_wp2
                       have n0_ := ak (bD BK376.out)
                       have n1_ := ak (bD BK377.out)
                       have n2_ := ak (bD BK378.out)
                       have n3_ := ak (wD HB.out)
                       clear BK376 BK377 BK378 HB
                       have BK376 := n0_
                       have BK377 := n1_
                       have BK378 := n2_
                       have HB := n3_
                       clear n0_ n1_ n2_ n3_
                       obtain ⟨i072, hi072, _, hsz72, _⟩ := info_parts info5
                       obtain ⟨hcut72, hA72, hC72⟩ := print_take_of (P := Tryd.prog) (Value.int .u8) 0 45 5 .i64 Tryd.underlying45 hi072 hsz72 A0 c0 l0 a2_2 (of_decide_eq_true (by first | (with_reducible assumption) | assumption)) (of_decide_eq_true (by first | (with_reducible assumption) | assumption)) HC0.out
                       have HR383 := ak (Kd.C_of_reads (h1 := fun _ => rfl) (hA72 _ (Kd.reads_of_C HR0.out)))
                       have HC383 := ak hC72
                       clear hA72 hC72 hi072 hsz72
                       obtain ⟨i073, hi073, _, hsz73, _⟩ := info_parts info5
                       obtain ⟨A73, hcut73, hA73, hC73⟩ := print_drop_of (P := Tryd.prog) (Value.int .u8) 0 45 5 .i64 Tryd.underlying45 hi073 hsz73 A0 c0 l0 a2_3 (of_decide_eq_true (by first | (with_reducible assumption) | assumption)) (of_decide_eq_true (by first | (with_reducible assumption) | assumption)) HC0.out
                       have HR384 := ak (Kd.C_of_reads (h1 := fun _ => rfl) (hA73 _ (Kd.reads_of_C HR0.out)))
                       have HC384 := ak hC73
                       clear hA73 hC73 hi073 hsz73
                       have hcv74 := Kd.C_string (P := Tryd.prog) (A := A0) (c := c0) Tryd.underlying45 Tryd.underlying5 Tryd.underlying9 (Kd.C_below HR383.out HB.out)
                       have hcv75 := Kd.C_string (P := Tryd.prog) (A := A73) (c := (c0 - a2_3.toNat)) Tryd.underlying45 Tryd.underlying5 Tryd.underlying9 (Kd.C_below HR384.out HB.out)
                       refine start_ (n := 14) (S := fun w' => w'.cell? ⟨gb378, 0, none⟩ = some (.int .i64 a2_2) ∧ w'.cell? ⟨gb378, 1, none⟩ = some (.int .i64 a2_3) ∧ (convert 45 9 (.slice A0 a2_2.toNat c0)).run Tryd.prog w' = .ok (.string (strOfNums (l0.take a2_2.toNat))) w' ∧ (convert 45 9 (.slice A73 (l0.length - a2_3.toNat) (c0 - a2_3.toNat))).run Tryd.prog w' = .ok (.string (strOfNums (l0.drop a2_3.toNat))) w') (ds := []) q6_0 (by kernel_rfl) rfl rfl ⟨(blk_cell BK378.out 0).trans rfl, (blk_cell BK378.out 1).trans rfl, (by have hle_ : a2_2 ≤ (l0.length : Int) := of_decide_eq_true (by first | (with_reducible assumption) | assumption); have h_ := hcv74; rw [List.length_take, Nat.min_eq_left (by omega)] at h_; exact h_), (by have h_ := hcv75; rw [List.length_drop] at h_; exact h_)⟩ (fun hHeld => ?_); refine with_tabW mummerlaw03_SpansEdits.tab6 mummerlaw03_SpansEdits.bits6 (fun HT_ HW_ => ?_)
                       generalize wc.drew = w71 at BK376 BK377 BK378 HB HR383 HR384 hHeld ⊢
                       refine pure_ (i := 0) (N := some 88) (v := ?_) (a' := ?_) q6_1 rfl rfl (any_of HT_.out (by kernel_rfl)) (fun _ _ _ h => h) (Or.inl ⟨by rfl, ?_⟩) ?_ ?_; rotate_left; ·(intro w'; go_simp; with_reducible rfl)
                       rotate_left; ·(simp only [Act.put, sA_, s0_, s1_, i64_w, i32_w]; rfl)
                       refine pure_ (i := 1) (N := some 89) (v := ?_) (a' := ?_) q6_2 rfl rfl (any_of HT_.out (by kernel_rfl)) (fun _ _ _ h => h) (Or.inl ⟨by rfl, ?_⟩) ?_ ?_; rotate_left; ·(intro w'; go_simp; with_reducible rfl)
                       rotate_left; ·(simp only [Act.put, sA_, s0_, s1_, i64_w, i32_w]; rfl)
                       refine pure_ (i := 5) (N := some 93) (v := ?_) (a' := ?_) q6_3 rfl rfl (any_of HT_.out (by kernel_rfl)) (fun _ _ _ h => h) (Or.inl ⟨by rfl, ?_⟩) ?_ ?_; rotate_left; ·(intro w'; go_simp; with_reducible rfl)
                       rotate_left; ·(simp only [Act.put, sA_, s0_, s1_, i64_w, i32_w]; rfl)
                       refine pure_ (i := 7) (N := some 95) (v := ?_) (a' := ?_) q6_4 rfl rfl (any_of HT_.out (by kernel_rfl)) (fun _ _ _ h => h) (Or.inl ⟨by rfl, ?_⟩) ?_ ?_; rotate_left; ·(intro w'; go_simp; with_reducible rfl)
                       rotate_left; ·(simp only [Act.put, sA_, s0_, s1_, i64_w, i32_w]; rfl)
                       refine pure_ (i := 8) (N := some 96) (v := ?_) (a' := ?_) q6_5 rfl rfl (any_of HT_.out (by kernel_rfl)) (fun _ _ _ h => h) (Or.inl ⟨by rfl, ?_⟩) ?_ ?_; rotate_left; ·(intro w'; go_simp; with_reducible rfl)
                       rotate_left; ·(simp only [Act.put, sA_, s0_, s1_, i64_w, i32_w]; rfl)
                       refine take_ (i := 2) (N := some 90) (v := ?_) (a' := ?_) q6_6 rfl rfl (take_ofW HT_.out HW_.out (by kernel_rfl)) (fun _ _ _ h => h) (Or.inl ⟨by rfl, ?_⟩) hHeld ?_ ?_; rotate_left; ·(rintro w' ⟨s0, s1, s2, s3⟩; go_simp; with_reducible rfl)
                       rotate_left; ·(simp only [Act.put, sA_, s0_, s1_, i64_w, i32_w]; rfl)
                       refine pure_ (i := 3) (N := some 91) (v := ?_) (a' := ?_) q6_7 rfl rfl (any_of HT_.out (by kernel_rfl)) (fun _ _ _ h => h) (Or.inl ⟨by rfl, ?_⟩) ?_ ?_; rotate_left; ·(intro w'; go_simp; with_reducible rfl)
                       rotate_left; ·(simp only [Act.put, sA_, s0_, s1_, i64_w, i32_w]; rfl)
                       refine take_ (i := 4) (N := some 92) (v := ?_) (a' := ?_) q6_8 rfl rfl (take_ofW HT_.out HW_.out (by kernel_rfl)) (fun _ _ _ h => h) (Or.inl ⟨by rfl, ?_⟩) hHeld ?_ ?_; rotate_left; ·(rintro w' ⟨s0, s1, s2, s3⟩; go_simp; with_reducible rfl)
                       rotate_left; ·(simp only [Act.put, sA_, s0_, s1_, i64_w, i32_w]; rfl)
                       refine pure_ (i := 6) (N := some 94) (v := ?_) (a' := ?_) q6_9 rfl rfl (any_of HT_.out (by kernel_rfl)) (fun _ _ _ h => h) (Or.inl ⟨by rfl, ?_⟩) ?_ ?_; rotate_left; ·(intro w'; go_simp; with_reducible rfl)
                       rotate_left; ·(simp only [Act.put, sA_, s0_, s1_, i64_w, i32_w]; rfl)
                       refine take_ (i := 9) (N := some 97) (v := ?_) (a' := ?_) q6_10 rfl rfl (take_ofW HT_.out HW_.out (by kernel_rfl)) (fun _ _ _ h => h) (Or.inl ⟨by rfl, ?_⟩) hHeld ?_ ?_; rotate_left; ·(rintro w' ⟨s0, s1, s2, s3⟩; go_simp; with_reducible rfl)
                       rotate_left; ·(simp only [Act.put, sA_, s0_, s1_, i64_w, i32_w]; rfl)
                       refine pure_ (i := 10) (N := some 98) (v := ?_) (a' := ?_) q6_11 rfl rfl (any_of HT_.out (by kernel_rfl)) (fun _ _ _ h => h) (Or.inl ⟨by rfl, ?_⟩) ?_ ?_; rotate_left; ·(intro w'; go_simp; with_reducible rfl)
                       rotate_left; ·(simp only [Act.put, sA_, s0_, s1_, i64_w, i32_w]; rfl)
                       refine take_ (i := 11) (N := some 99) (v := ?_) (a' := ?_) q6_12 rfl rfl (take_ofW HT_.out HW_.out (by kernel_rfl)) (fun _ _ _ h => h) (Or.inl ⟨by rfl, ?_⟩) hHeld ?_ ?_; rotate_left; ·(rintro w' ⟨s0, s1, s2, s3⟩; go_simp; with_reducible rfl)
                       rotate_left; ·(simp only [Act.put, sA_, s0_, s1_, i64_w, i32_w]; rfl)
                       refine pure_ (i := 12) (N := some 100) (v := ?_) (a' := ?_) q6_13 rfl rfl (any_of HT_.out (by kernel_rfl)) (fun _ _ _ h => h) (Or.inl ⟨by rfl, ?_⟩) ?_ ?_; rotate_left; ·(intro w'; go_simp; with_reducible rfl)
                       rotate_left; ·(simp only [Act.put, sA_, s0_, s1_, i64_w, i32_w]; rfl)
                       refine pure_ (i := 13) (N := some 9) (v := ?_) (a' := ?_) q6_14 rfl rfl (any_of HT_.out (by kernel_rfl)) (fun _ _ _ h => h) (Or.inl ⟨by rfl, ?_⟩) ?_ ?_; rotate_left; ·(intro w'; go_simp; with_reducible rfl)
                       rotate_left; ·(simp only [Act.put, sA_, s0_, s1_, i64_w, i32_w]; rfl)
                       refine done_ (done_of HT_.out (by kernel_rfl)) ?_
                       have hcz77_0 : w71.cell? ⟨gb377, 0, none⟩ = some (.int .i64 a2_0) := (blk_cell BK377.out 0).trans rfl
                       have hcz77_1 : w71.cell? ⟨gb377, 1, none⟩ = some (.int .i64 a2_1) := (blk_cell BK377.out 1).trans rfl
                       have hfz77_0 := blk_frozen BK377.out 0
                       have hfz77_1 := blk_frozen BK377.out 1
                       have hcz78_0 : w71.cell? ⟨gb378, 0, none⟩ = some (.int .i64 a2_2) := (blk_cell BK378.out 0).trans rfl
                       have hcz78_1 : w71.cell? ⟨gb378, 1, none⟩ = some (.int .i64 a2_3) := (blk_cell BK378.out 1).trans rfl
                       have hfz78_0 := blk_frozen BK378.out 0
                       have hfz78_1 := blk_frozen BK378.out 1
                       go_upto_region 16 with (first | ((with_reducible refine gate_callee (f := 13) rfl ?_); refine goesL_ (some 106) rfl rfl Tryd.func13 (by kernel_rfl) rfl #[.agg #[.int .i64 a2_0, .int .i64 a2_1], .agg #[.int .i64 a2_2, .int .i64 a2_3], .int .i64 (a1.size : Int)] rfl (by (try simp only [List.map_toArray, List.map_cons, List.map_nil]); first | done | rfl | (simp only [List.length_drop, List.length_take]; rfl)) ?_; (with_reducible refine (spans_Shift.calls kj3 a2_0 a2_1 a2_2 a2_3 (a1.size : Int) t385 t386 t387 _ A54.out).mono ?_); rintro e w79 ⟨rfl, hb⟩; refine ⟨_, rfl, ?_⟩; have n0_ := ak (blk_below (g := gb376) (o := .cells #[.int .i64 a2_0, .int .i64 a2_1, .int .i64 a2_2, .int .i64 a2_3] 46 (0, 0)) (by (with_reducible repeat (first | refine bN ?_ _ | refine bD ?_ | refine bA ?_ _)); exact BK376.out) hb); have n1_ := ak (blk_below (g := gb377) (o := .cells #[.int .i64 a2_0, .int .i64 a2_1] 24 (0, 0)) (by (with_reducible repeat (first | refine bN ?_ _ | refine bD ?_ | refine bA ?_ _)); exact BK377.out) hb); have n2_ := ak (blk_below (g := gb378) (o := .cells #[.int .i64 a2_2, .int .i64 a2_3] 24 (0, 0)) (by (with_reducible repeat (first | refine bN ?_ _ | refine bD ?_ | refine bA ?_ _)); exact BK378.out) hb); have n3_ := ak (below_step (by repeat (first | (with_reducible first | exact HB.out | apply wA | apply wN | apply wD | refine below_set ?_ GE376.out | refine below_set ?_ GE377.out | refine below_set ?_ GE378.out) | exact HB.out)) hb); clear BK376; clear BK377; clear BK378; clear HB; have BK376 := n0_; have BK377 := n1_; have BK378 := n2_; have HB := n3_; clear n0_ n1_ n2_ n3_; (try clear hb); (try clear hb2); (try clear hk); (try clear hi)) | ((with_reducible refine gate_dst (N := 10) rfl ?_); (try (refine gate_guard (by rfl) ?_; dsimp only)); refine box_event ?hg (N := 10) ?hd (cs := #[.int .i64 0, .int .i64 0]) (t := 24) ?hr ?_; (case hd => rfl); (case hg => rfl); (case hr => first | (go_simp; done) | (go_simp; rfl)); intro gb388 hg w80 hbox hb; have n0_ := ak (blk_below (g := gb376) (o := .cells #[.int .i64 a2_0, .int .i64 a2_1, .int .i64 a2_2, .int .i64 a2_3] 46 (0, 0)) (by (with_reducible repeat (first | refine bN ?_ _ | refine bD ?_ | refine bA ?_ _)); exact BK376.out) hb); have n1_ := ak (blk_below (g := gb377) (o := .cells #[.int .i64 a2_0, .int .i64 a2_1] 24 (0, 0)) (by (with_reducible repeat (first | refine bN ?_ _ | refine bD ?_ | refine bA ?_ _)); exact BK377.out) hb); have n2_ := ak (blk_below (g := gb378) (o := .cells #[.int .i64 a2_2, .int .i64 a2_3] 24 (0, 0)) (by (with_reducible repeat (first | refine bN ?_ _ | refine bD ?_ | refine bA ?_ _)); exact BK378.out) hb); have n3_ := ak (below_step (by repeat (first | (with_reducible first | exact HB.out | apply wA | apply wN | apply wD | refine below_set ?_ GE376.out | refine below_set ?_ GE377.out | refine below_set ?_ GE378.out) | exact HB.out)) hb); have n4_ := ak (hbox); have n5_ := ak ((by rw [hg]; exact (below_size (by repeat (first | (with_reducible first | exact HB.out | apply wA | apply wN | apply wD | refine below_set ?_ GE376.out | refine below_set ?_ GE377.out | refine below_set ?_ GE378.out) | exact HB.out))) : w.heap.size ≤ gb388)); have n6_ := ak ((by rw [hg]; exact (below_size (by repeat (first | (with_reducible first | exact HB.out | apply wA | apply wN | apply wD | refine below_set ?_ GE376.out | refine below_set ?_ GE377.out | refine below_set ?_ GE378.out) | exact HB.out))) : w.heap.size ≤ gb388)); have n7_ := ak ((by rw [hg]; exact Nat.ne_of_lt (blk_lt (g := gb376) (o := .cells #[.int .i64 a2_0, .int .i64 a2_1, .int .i64 a2_2, .int .i64 a2_3] 46 (0, 0)) (by (with_reducible repeat (first | refine bN ?_ _ | refine bD ?_ | refine bA ?_ _)); exact BK376.out)) : gb376 ≠ gb388)); have n8_ := ak ((by rw [hg]; exact Nat.ne_of_gt (blk_lt (g := gb376) (o := .cells #[.int .i64 a2_0, .int .i64 a2_1, .int .i64 a2_2, .int .i64 a2_3] 46 (0, 0)) (by (with_reducible repeat (first | refine bN ?_ _ | refine bD ?_ | refine bA ?_ _)); exact BK376.out)) : gb388 ≠ gb376)); have n9_ := ak ((by rw [hg]; exact Nat.ne_of_lt (blk_lt (g := gb377) (o := .cells #[.int .i64 a2_0, .int .i64 a2_1] 24 (0, 0)) (by (with_reducible repeat (first | refine bN ?_ _ | refine bD ?_ | refine bA ?_ _)); exact BK377.out)) : gb377 ≠ gb388)); have n10_ := ak ((by rw [hg]; exact Nat.ne_of_gt (blk_lt (g := gb377) (o := .cells #[.int .i64 a2_0, .int .i64 a2_1] 24 (0, 0)) (by (with_reducible repeat (first | refine bN ?_ _ | refine bD ?_ | refine bA ?_ _)); exact BK377.out)) : gb388 ≠ gb377)); have n11_ := ak ((by rw [hg]; exact Nat.ne_of_lt (blk_lt (g := gb378) (o := .cells #[.int .i64 a2_2, .int .i64 a2_3] 24 (0, 0)) (by (with_reducible repeat (first | refine bN ?_ _ | refine bD ?_ | refine bA ?_ _)); exact BK378.out)) : gb378 ≠ gb388)); have n12_ := ak ((by rw [hg]; exact Nat.ne_of_gt (blk_lt (g := gb378) (o := .cells #[.int .i64 a2_2, .int .i64 a2_3] 24 (0, 0)) (by (with_reducible repeat (first | refine bN ?_ _ | refine bD ?_ | refine bA ?_ _)); exact BK378.out)) : gb388 ≠ gb378)); clear BK376; clear BK377; clear BK378; clear HB; have BK376 := n0_; have BK377 := n1_; have BK378 := n2_; have HB := n3_; have BK388 := n4_; have GW388 := n5_; have GE388 := n6_; have NB376_388 := n7_; have NB388_376 := n8_; have NB377_388 := n9_; have NB388_377 := n10_; have NB378_388 := n11_; have NB388_378 := n12_; clear n0_ n1_ n2_ n3_ n4_ n5_ n6_ n7_ n8_ n9_ n10_ n11_ n12_; clear hb hbox hg; have hnb81 := NB388_376.out; have hnc81 := NB376_388.out; have hnb82 := NB388_377.out; have hnc82 := NB377_388.out; have hnb83 := NB388_378.out; have hnc83 := NB378_388.out; have hcz84_0 : w80.cell? ⟨gb388, 0, none⟩ = some (.int .i64 0) := (blk_cell BK388.out 0).trans rfl; have hcz84_1 : w80.cell? ⟨gb388, 1, none⟩ = some (.int .i64 0) := (blk_cell BK388.out 1).trans rfl; have hfz84_0 := blk_frozen BK388.out 0; have hfz84_1 := blk_frozen BK388.out 1; have hcz85_0 : w80.cell? ⟨gb377, 0, none⟩ = some (.int .i64 a2_0) := (blk_cell BK377.out 0).trans rfl; have hcz85_1 : w80.cell? ⟨gb377, 1, none⟩ = some (.int .i64 a2_1) := (blk_cell BK377.out 1).trans rfl; have hfz85_0 := blk_frozen BK377.out 0; have hfz85_1 := blk_frozen BK377.out 1; obtain ⟨i086, hi086, _, hsz86, _⟩ := info_parts info5; obtain ⟨A86, hcut86, hA86, hC86⟩ := print_mid_of (P := Tryd.prog) (Value.int .u8) 0 45 5 .i64 .i64 Tryd.underlying45 hi086 hsz86 A0 c0 l0 a2_0 a2_1 (of_decide_eq_true (by first | (with_reducible assumption) | assumption)) (by first | omega | exact of_decide_eq_true (by first | (with_reducible assumption) | assumption)) (of_decide_eq_true (by first | (with_reducible assumption) | assumption)) HC0.out; have HR392 := ak (Kd.C_of_reads (h1 := fun _ => rfl) (hA86 _ (Kd.reads_of_C HR0.out))); have HC392 := ak hC86; clear hA86 hC86 hi086 hsz86; have hcv87 := Kd.C_string (P := Tryd.prog) (A := A86) (c := (c0 - a2_0.toNat)) Tryd.underlying45 Tryd.underlying5 Tryd.underlying9 (Kd.C_below HR392.out (show Below w.heap.size w ((w80.setCell ⟨gb388, 0, none⟩ (.int .i64 t385)).setCell ⟨gb388, 1, none⟩ (.int .i64 t386)) from by repeat (first | (with_reducible first | exact HB.out | apply wA | apply wN | apply wD | refine below_set ?_ GE388.out) | exact HB.out))); have hle_ : a2_1 ≤ (l0.length : Int) := of_decide_eq_true (by first | (with_reducible assumption) | assumption); rw [List.length_drop, List.length_take, Nat.min_eq_left (by omega)] at hcv87; clear hle_; have hcz88_0 : w80.cell? ⟨gb378, 0, none⟩ = some (.int .i64 a2_2) := (blk_cell BK378.out 0).trans rfl; have hcz88_1 : w80.cell? ⟨gb378, 1, none⟩ = some (.int .i64 a2_3) := (blk_cell BK378.out 1).trans rfl; have hfz88_0 := blk_frozen BK378.out 0; have hfz88_1 := blk_frozen BK378.out 1) | ((with_reducible refine gate_callee (f := 19) rfl ?_); refine goesL_ (some 154) rfl rfl Tryd.func19 (by kernel_rfl) rfl #[.agg #[.int .i64 a2_2, .int .i64 a2_3], .agg #[.int .i64 a2_0, .int .i64 a2_1]] rfl (by (try simp only [List.map_toArray, List.map_cons, List.map_nil]); first | done | rfl | (simp only [List.length_drop, List.length_take]; rfl)) ?_; (with_reducible refine (spans_Before.calls kj3 a2_2 a2_3 a2_0 a2_1 t393 t394 _ A59.out).mono ?_); rintro e w89 ⟨rfl, hb⟩; refine ⟨_, rfl, ?_⟩; have n0_ := ak (blk_below (g := gb376) (o := .cells #[.int .i64 a2_0, .int .i64 a2_1, .int .i64 a2_2, .int .i64 a2_3] 46 (0, 0)) (by (with_reducible repeat (first | refine bN ?_ _ | refine bD ?_ | refine bA ?_ _)); refine blk_far ?_ NB376_388.out _; (with_reducible repeat (first | refine bN ?_ _ | refine bD ?_ | refine bA ?_ _)); refine blk_far ?_ NB376_388.out _; (with_reducible repeat (first | refine bN ?_ _ | refine bD ?_ | refine bA ?_ _)); exact BK376.out) hb); have n1_ := ak (blk_below (g := gb377) (o := .cells #[.int .i64 a2_0, .int .i64 a2_1] 24 (0, 0)) (by (with_reducible repeat (first | refine bN ?_ _ | refine bD ?_ | refine bA ?_ _)); refine blk_far ?_ NB377_388.out _; (with_reducible repeat (first | refine bN ?_ _ | refine bD ?_ | refine bA ?_ _)); refine blk_far ?_ NB377_388.out _; (with_reducible repeat (first | refine bN ?_ _ | refine bD ?_ | refine bA ?_ _)); exact BK377.out) hb); have n2_ := ak (blk_below (g := gb378) (o := .cells #[.int .i64 a2_2, .int .i64 a2_3] 24 (0, 0)) (by (with_reducible repeat (first | refine bN ?_ _ | refine bD ?_ | refine bA ?_ _)); refine blk_far ?_ NB378_388.out _; (with_reducible repeat (first | refine bN ?_ _ | refine bD ?_ | refine bA ?_ _)); refine blk_far ?_ NB378_388.out _; (with_reducible repeat (first | refine bN ?_ _ | refine bD ?_ | refine bA ?_ _)); exact BK378.out) hb); have n3_ := ak (blk_below (g := gb388) (o := .cells #[.int .i64 t385, .int .i64 t386] 24 (0, 0)) (by (with_reducible repeat (first | refine bN ?_ _ | refine bD ?_ | refine bA ?_ _)); refine blk_put (cs := #[.int .i64 t385, .int .i64 0]) ?_ 1 _ rfl; (with_reducible repeat (first | refine bN ?_ _ | refine bD ?_ | refine bA ?_ _)); refine blk_put (cs := #[.int .i64 0, .int .i64 0]) ?_ 0 _ rfl; (with_reducible repeat (first | refine bN ?_ _ | refine bD ?_ | refine bA ?_ _)); exact BK388.out) hb); have n4_ := ak (below_step (by repeat (first | (with_reducible first | exact HB.out | apply wA | apply wN | apply wD | refine below_set ?_ GE376.out | refine below_set ?_ GE377.out | refine below_set ?_ GE378.out | refine below_set ?_ GE388.out) | exact HB.out)) hb); clear BK376; clear BK377; clear BK378; clear BK388; clear HB; have BK376 := n0_; have BK377 := n1_; have BK378 := n2_; have BK388 := n3_; have HB := n4_; clear n0_ n1_ n2_ n3_ n4_; (try clear hb); (try clear hb2); (try clear hk); (try clear hi); have hcz90_0 : w89.cell? ⟨gb377, 0, none⟩ = some (.int .i64 a2_0) := (blk_cell BK377.out 0).trans rfl; have hcz90_1 : w89.cell? ⟨gb377, 1, none⟩ = some (.int .i64 a2_1) := (blk_cell BK377.out 1).trans rfl; have hfz90_0 := blk_frozen BK377.out 0; have hfz90_1 := blk_frozen BK377.out 1; have hcz91_0 : w89.cell? ⟨gb378, 0, none⟩ = some (.int .i64 a2_2) := (blk_cell BK378.out 0).trans rfl; have hcz91_1 : w89.cell? ⟨gb378, 1, none⟩ = some (.int .i64 a2_3) := (blk_cell BK378.out 1).trans rfl; have hfz91_0 := blk_frozen BK378.out 0; have hfz91_1 := blk_frozen BK378.out 1) | ((with_reducible refine gate_callee (f := 19) rfl ?_); refine goesL_ (some 160) rfl rfl Tryd.func19 (by kernel_rfl) rfl #[.agg #[.int .i64 a2_0, .int .i64 a2_1], .agg #[.int .i64 a2_2, .int .i64 a2_3]] rfl (by (try simp only [List.map_toArray, List.map_cons, List.map_nil]); first | done | rfl | (simp only [List.length_drop, List.length_take]; rfl)) ?_; (with_reducible refine (spans_Before.calls kj3 a2_0 a2_1 a2_2 a2_3 t395 t396 _ A60.out).mono ?_); rintro e w92 ⟨rfl, hb⟩; refine ⟨_, rfl, ?_⟩; have n0_ := ak (blk_below (g := gb376) (o := .cells #[.int .i64 a2_0, .int .i64 a2_1, .int .i64 a2_2, .int .i64 a2_3] 46 (0, 0)) (by (with_reducible repeat (first | refine bN ?_ _ | refine bD ?_ | refine bA ?_ _)); exact BK376.out) hb); have n1_ := ak (blk_below (g := gb377) (o := .cells #[.int .i64 a2_0, .int .i64 a2_1] 24 (0, 0)) (by (with_reducible repeat (first | refine bN ?_ _ | refine bD ?_ | refine bA ?_ _)); exact BK377.out) hb); have n2_ := ak (blk_below (g := gb378) (o := .cells #[.int .i64 a2_2, .int .i64 a2_3] 24 (0, 0)) (by (with_reducible repeat (first | refine bN ?_ _ | refine bD ?_ | refine bA ?_ _)); exact BK378.out) hb); have n3_ := ak (blk_below (g := gb388) (o := .cells #[.int .i64 t385, .int .i64 t386] 24 (0, 0)) (by (with_reducible repeat (first | refine bN ?_ _ | refine bD ?_ | refine bA ?_ _)); exact BK388.out) hb); have n4_ := ak (below_step (by repeat (first | (with_reducible first | exact HB.out | apply wA | apply wN | apply wD | refine below_set ?_ GE376.out | refine below_set ?_ GE377.out | refine below_set ?_ GE378.out | refine below_set ?_ GE388.out) | exact HB.out)) hb); clear BK376; clear BK377; clear BK378; clear BK388; clear HB; have BK376 := n0_; have BK377 := n1_; have BK378 := n2_; have BK388 := n3_; have HB := n4_; clear n0_ n1_ n2_ n3_ n4_; (try clear hb); (try clear hb2); (try clear hk); (try clear hi); have hcz93_0 : w92.cell? ⟨gb388, 0, none⟩ = some (.int .i64 t385) := (blk_cell BK388.out 0).trans rfl; have hcz93_1 : w92.cell? ⟨gb388, 1, none⟩ = some (.int .i64 t386) := (blk_cell BK388.out 1).trans rfl; have hfz93_0 := blk_frozen BK388.out 0; have hfz93_1 := blk_frozen BK388.out 1) | (go_at_call 22; (first | rw [show ((strOfNums (l0.take (a2_2 : Int).toNat)).size : Int) + (a1.size : Int) + ((strOfNums (l0.drop (a2_3 : Int).toNat)).size : Int) = ((((strOfNums (l0.take (a2_2 : Int).toNat)) ++ a1) ++ (strOfNums (l0.drop (a2_3 : Int).toNat))).size : Int) by rw [ByteArray.size_append, ByteArray.size_append]; omega] | skip); (with_reducible refine (spans_Check.calls kj3 ((((strOfNums (l0.take (a2_2 : Int).toNat)) ++ a1) ++ (strOfNums (l0.drop (a2_3 : Int).toNat))).size : Int) t385 t386 t397 _ A63.out).mono ?_); rintro e w94 ⟨rfl, hb⟩; have n0_ := ak (blk_below (g := gb376) (o := .cells #[.int .i64 a2_0, .int .i64 a2_1, .int .i64 a2_2, .int .i64 a2_3] 46 (0, 0)) (by (with_reducible repeat (first | refine bN ?_ _ | refine bD ?_ | refine bA ?_ _)); exact BK376.out) hb); have n1_ := ak (blk_below (g := gb377) (o := .cells #[.int .i64 a2_0, .int .i64 a2_1] 24 (0, 0)) (by (with_reducible repeat (first | refine bN ?_ _ | refine bD ?_ | refine bA ?_ _)); exact BK377.out) hb); have n2_ := ak (blk_below (g := gb378) (o := .cells #[.int .i64 a2_2, .int .i64 a2_3] 24 (0, 0)) (by (with_reducible repeat (first | refine bN ?_ _ | refine bD ?_ | refine bA ?_ _)); exact BK378.out) hb); have n3_ := ak (blk_below (g := gb388) (o := .cells #[.int .i64 t385, .int .i64 t386] 24 (0, 0)) (by (with_reducible repeat (first | refine bN ?_ _ | refine bD ?_ | refine bA ?_ _)); exact BK388.out) hb); have n4_ := ak (below_step (by repeat (first | (with_reducible first | exact HB.out | apply wA | apply wN | apply wD | refine below_set ?_ GE376.out | refine below_set ?_ GE377.out | refine below_set ?_ GE378.out | refine below_set ?_ GE388.out) | exact HB.out)) hb); clear BK376; clear BK377; clear BK378; clear BK388; clear HB; have BK376 := n0_; have BK377 := n1_; have BK378 := n2_; have BK388 := n3_; have HB := n4_; clear n0_ n1_ n2_ n3_ n4_; (try clear hb); (try clear hb2); (try clear hk); (try clear hi)))
                       (try simp only [Act.put, sA_, s0_, s1_])
                       go_cut [195] (fun v195 wc => ∃ (kq : Nat) (x195_64 : Bool), v195 = .bool x195_64 ∧ Aside0 (mummerlaw03_SpansEdits.j1 kq l0 a1 (((strOfNums (l0.take (a2_2 : Int).toNat)) ++ a1) ++ (strOfNums (l0.drop (a2_3 : Int).toNat))) (strOfNums ((l0.take (a2_1 : Int).toNat).drop (a2_0 : Int).toNat)) t393 t395 x195_64 a2_0 a2_1 a2_2 a2_3 t385 t386 = some r) ∧ Aside0 (kq ≤ kj3) ∧ Aside0 (wc.heap[gb376]? = some (.cells #[.int .i64 a2_0, .int .i64 a2_1, .int .i64 a2_2, .int .i64 a2_3] 46 (0, 0))) ∧ Aside0 (wc.heap[gb377]? = some (.cells #[.int .i64 a2_0, .int .i64 a2_1] 24 (0, 0))) ∧ Aside0 (wc.heap[gb378]? = some (.cells #[.int .i64 a2_2, .int .i64 a2_3] 24 (0, 0))) ∧ Aside0 (wc.heap[gb388]? = some (.cells #[.int .i64 t385, .int .i64 t386] 24 (0, 0))) ∧ Aside0 (Below w.heap.size w wc))
                       case first =>
                        have H := HC65.out
                        clear HC65
                        by_cases c95 : t393 = true
                        ·subst c95
                         have H1 : (mummerlaw03_SpansEdits.j1 kj3 l0 a1 (((strOfNums (l0.take (a2_2 : Int).toNat)) ++ a1) ++ (strOfNums (l0.drop (a2_3 : Int).toNat))) (strOfNums ((l0.take (a2_1 : Int).toNat).drop (a2_0 : Int).toNat)) true t395 false a2_0 a2_1 a2_2 a2_3 t385 t386) = some r := by rw [if_pos rfl] at H; exact H
                         clear H
                         have H := H1
                         clear H1
                         have H' := ak H
                         clear H
                         go_wp2
                         go_meet
                         case rel => exact ⟨_, (false), (by first | rfl | (simp; done) | (simp [*]; done)), H', ⟨by have := HJ3.out; first | omega | exact Nat.le_refl _⟩, ⟨by (with_reducible repeat (first | refine bN ?_ _ | refine bD ?_ | refine bA ?_ _)); exact BK376.out⟩, ⟨by (with_reducible repeat (first | refine bN ?_ _ | refine bD ?_ | refine bA ?_ _)); exact BK377.out⟩, ⟨by (with_reducible repeat (first | refine bN ?_ _ | refine bD ?_ | refine bA ?_ _)); exact BK378.out⟩, ⟨by (with_reducible repeat (first | refine bN ?_ _ | refine bD ?_ | refine bA ?_ _)); exact BK388.out⟩, ⟨by repeat (first | (with_reducible first | exact HB.out | apply wA | apply wN | apply wD | refine below_set ?_ GE376.out | refine below_set ?_ GE377.out | refine below_set ?_ GE378.out | refine below_set ?_ GE388.out) | exact HB.out)⟩⟩
                        ·replace c95 := Bool.eq_false_iff.mpr c95
                         subst c95
                         have H1 : (if t395 = true then (mummerlaw03_SpansEdits.j1 kj3 l0 a1 (((strOfNums (l0.take (a2_2 : Int).toNat)) ++ a1) ++ (strOfNums (l0.drop (a2_3 : Int).toNat))) (strOfNums ((l0.take (a2_1 : Int).toNat).drop (a2_0 : Int).toNat)) false t395 false a2_0 a2_1 a2_2 a2_3 t385 t386) else (if a2_2 < a2_0 then (some false) else (mummerlaw03_SpansEdits.j1 kj3 l0 a1 (((strOfNums (l0.take (a2_2 : Int).toNat)) ++ a1) ++ (strOfNums (l0.drop (a2_3 : Int).toNat))) (strOfNums ((l0.take (a2_1 : Int).toNat).drop (a2_0 : Int).toNat)) false t395 (decide (a2_3 > a2_1)) a2_0 a2_1 a2_2 a2_3 t385 t386))) = some r := by rw [if_neg (show ¬ (false = true) by decide)] at H; exact H
                         clear H
                         have H := H1
                         clear H1
                         by_cases c96 : t395 = true
                         ·subst c96
                          have H1 : (mummerlaw03_SpansEdits.j1 kj3 l0 a1 (((strOfNums (l0.take (a2_2 : Int).toNat)) ++ a1) ++ (strOfNums (l0.drop (a2_3 : Int).toNat))) (strOfNums ((l0.take (a2_1 : Int).toNat).drop (a2_0 : Int).toNat)) false true false a2_0 a2_1 a2_2 a2_3 t385 t386) = some r := by rw [if_pos rfl] at H; exact H
                          clear H
                          have H := H1
                          clear H1
                          have H' := ak H
                          clear H
                          go_wp2
                          go_meet
                          case rel => exact ⟨_, (false), (by first | rfl | (simp; done) | (simp [*]; done)), H', ⟨by have := HJ3.out; first | omega | exact Nat.le_refl _⟩, ⟨by (with_reducible repeat (first | refine bN ?_ _ | refine bD ?_ | refine bA ?_ _)); exact BK376.out⟩, ⟨by (with_reducible repeat (first | refine bN ?_ _ | refine bD ?_ | refine bA ?_ _)); exact BK377.out⟩, ⟨by (with_reducible repeat (first | refine bN ?_ _ | refine bD ?_ | refine bA ?_ _)); exact BK378.out⟩, ⟨by (with_reducible repeat (first | refine bN ?_ _ | refine bD ?_ | refine bA ?_ _)); exact BK388.out⟩, ⟨by repeat (first | (with_reducible first | exact HB.out | apply wA | apply wN | apply wD | refine below_set ?_ GE376.out | refine below_set ?_ GE377.out | refine below_set ?_ GE378.out | refine below_set ?_ GE388.out) | exact HB.out)⟩⟩
                         ·replace c96 := Bool.eq_false_iff.mpr c96
                          subst c96
                          have H1 : (if a2_2 < a2_0 then (some false) else (mummerlaw03_SpansEdits.j1 kj3 l0 a1 (((strOfNums (l0.take (a2_2 : Int).toNat)) ++ a1) ++ (strOfNums (l0.drop (a2_3 : Int).toNat))) (strOfNums ((l0.take (a2_1 : Int).toNat).drop (a2_0 : Int).toNat)) false false (decide (a2_3 > a2_1)) a2_0 a2_1 a2_2 a2_3 t385 t386)) = some r := by rw [if_neg (show ¬ (false = true) by decide)] at H; exact H
                          clear H
                          have H := H1
                          clear H1
                          by_cases c97 : a2_2 < a2_0
                          ·rw [if_pos c97] at H
                           have c97b0 : decide (a2_2 < a2_0) = true := decide_eq_true c97
                           clear c97
                           (first | rw [c97b0] | (simp only [i64_w, i32_w]; rw [c97b0]) | skip)
                           exact absurd ((Option.some.inj H).trans hrt.out) (by decide)
                          ·rw [if_neg c97] at H
                           have c97b0 : decide (a2_2 < a2_0) = false := decide_eq_false c97
                           clear c97
                           (first | rw [c97b0] | (simp only [i64_w, i32_w]; rw [c97b0]) | skip)
                           have H' := ak H
                           clear H
                           have hnb98 := NB378_376.out
                           have hnc98 := NB376_378.out
                           have hnb99 := NB378_377.out
                           have hnc99 := NB377_378.out
                           have hnb100 := NB378_388.out
                           have hnc100 := NB388_378.out
                           have hcz101_0 : w94.cell? ⟨gb378, 0, none⟩ = some (.int .i64 a2_2) := (blk_cell BK378.out 0).trans rfl
                           have hcz101_1 : w94.cell? ⟨gb378, 1, none⟩ = some (.int .i64 a2_3) := (blk_cell BK378.out 1).trans rfl
                           have hfz101_0 := blk_frozen BK378.out 0
                           have hfz101_1 := blk_frozen BK378.out 1
                           have hnb102 := NB377_376.out
                           have hnc102 := NB376_377.out
                           have hnb103 := NB377_388.out
                           have hnc103 := NB388_377.out
                           have hcz104_0 : w94.cell? ⟨gb377, 0, none⟩ = some (.int .i64 a2_0) := (blk_cell BK377.out 0).trans rfl
                           have hcz104_1 : w94.cell? ⟨gb377, 1, none⟩ = some (.int .i64 a2_1) := (blk_cell BK377.out 1).trans rfl
                           have hfz104_0 := blk_frozen BK377.out 0
                           have hfz104_1 := blk_frozen BK377.out 1
                           go_wp2
                           go_meet
                           case rel => exact ⟨_, (decide (a2_3 > a2_1)), (by first | rfl | (simp; done) | (simp [*]; done)), H', ⟨by have := HJ3.out; first | omega | exact Nat.le_refl _⟩, ⟨by (with_reducible repeat (first | refine bN ?_ _ | refine bD ?_ | refine bA ?_ _)); exact BK376.out⟩, ⟨by (with_reducible repeat (first | refine bN ?_ _ | refine bD ?_ | refine bA ?_ _)); exact BK377.out⟩, ⟨by (with_reducible repeat (first | refine bN ?_ _ | refine bD ?_ | refine bA ?_ _)); exact BK378.out⟩, ⟨by (with_reducible repeat (first | refine bN ?_ _ | refine bD ?_ | refine bA ?_ _)); exact BK388.out⟩, ⟨by repeat (first | (with_reducible first | exact HB.out | apply wA | apply wN | apply wD | refine below_set ?_ GE376.out | refine below_set ?_ GE377.out | refine below_set ?_ GE378.out | refine below_set ?_ GE388.out) | exact HB.out)⟩⟩
                       case rest =>
                        clear HC65
                        try clear c1
                        try clear c2
                        try clear p2
                        try clear c3
                        try clear c4
                        try clear c5
                        try clear c6
                        try clear hcv7
                        try clear c8
                        try clear hcv8
                        try clear c9
                        try clear c10
                        try clear c12
                        try clear c13
                        try clear c14
                        try clear c14b0
                        try clear c14b1
                        try clear c15
                        try clear c15b0
                        try clear c15b1
                        try clear c17
                        try clear c17b0
                        try clear c17b1
                        try clear c19
                        try clear c19b0
                        try clear c19b1
                        try clear c20
                        try clear c21
                        try clear c24
                        try clear c28
                        try clear c29
                        try clear c32
                        try clear c35
                        try clear c36
                        try clear c39
                        try clear c42
                        try clear c42b0
                        try clear c43
                        try clear c43b0
                        try clear c44
                        try clear c44b0
                        try clear c45
                        try clear c45b0
                        try clear c46
                        try clear c46b0
                        try clear c47
                        try clear c47b0
                        try clear c48
                        try clear c48b0
                        try clear c48b1
                        try clear c49
                        try clear c49b0
                        try clear c49b1
                        try clear c50
                        try clear c50b0
                        try clear c50b1
                        try clear c50b2
                        try clear c51
                        try clear c51b0
                        try clear c51b1
                        try clear c52
                        try clear c52b0
                        try clear c52b1
                        try clear c53
                        try clear c53b0
                        try clear c53b1
                        try clear c53b2
                        try clear c55
                        try clear c55b0
                        try clear c55b1
                        try clear c56
                        try clear c56b0
                        try clear c56b1
                        try clear c57
                        try clear c57b0
                        try clear c57b1
                        try clear c58
                        try clear c58b0
                        try clear c58b1
                        try clear c61
                        try clear c61b0
                        try clear c61b1
                        try clear c62
                        try clear c62b0
                        try clear c62b1
                        try clear c64
                        try clear c64b0
                        try clear c64b1
                        try clear c66
                        try clear c67
                        try clear c69
                        try clear hcv74
                        try clear hcv75
                        try clear c81
                        try clear c82
                        try clear c83
                        try clear hcv87
                        try clear c95
                        try clear c96
                        try clear c97
                        try clear c97b0
                        try clear c98
                        try clear c99
                        try clear c100
                        try clear c102
                        try clear c103
                        try clear hcz101_0
                        try clear hcz101_1
                        try clear hcz104_0
                        try clear hcz104_1
                        try clear hcz22_0
                        try clear hcz22_1
                        try clear hcz25_0
                        try clear hcz25_1
                        try clear hcz27_0
                        try clear hcz27_1
                        try clear hcz30_0
                        try clear hcz30_1
                        try clear hcz33_0
                        try clear hcz33_1
                        try clear hcz37_0
                        try clear hcz37_1
                        try clear hcz68_0
                        try clear hcz68_1
                        try clear hcz70_0
                        try clear hcz70_1
                        try clear hcz77_0
                        try clear hcz77_1
                        try clear hcz78_0
                        try clear hcz78_1
                        try clear hcz84_0
                        try clear hcz84_1
                        try clear hcz85_0
                        try clear hcz85_1
                        try clear hcz88_0
                        try clear hcz88_1
                        try clear hcz90_0
                        try clear hcz90_1
                        try clear hcz91_0
                        try clear hcz91_1
                        try clear hcz93_0
                        try clear hcz93_1
                        try clear hfz101_0
                        try clear hfz101_1
                        try clear hfz104_0
                        try clear hfz104_1
                        try clear hfz22_0
                        try clear hfz22_1
                        try clear hfz25_0
                        try clear hfz25_1
                        try clear hfz27_0
                        try clear hfz27_1
                        try clear hfz30_0
                        try clear hfz30_1
                        try clear hfz33_0
                        try clear hfz33_1
                        try clear hfz37_0
                        try clear hfz37_1
                        try clear hfz68_0
                        try clear hfz68_1
                        try clear hfz70_0
                        try clear hfz70_1
                        try clear hfz77_0
                        try clear hfz77_1
                        try clear hfz78_0
                        try clear hfz78_1
                        try clear hfz84_0
                        try clear hfz84_1
                        try clear hfz85_0
                        try clear hfz85_1
                        try clear hfz88_0
                        try clear hfz88_1
                        try clear hfz90_0
                        try clear hfz90_1
                        try clear hfz91_0
                        try clear hfz91_1
                        try clear hfz93_0
                        try clear hfz93_1
                        try clear p2
                        obtain ⟨kq, x195_64, rfl, HA, HJ64, BK376, BK377, BK378, BK388, HB⟩ := hcut
                        generalize hgx_ : (((strOfNums (l0.take (a2_2 : Int).toNat)) ++ a1) ++ (strOfNums (l0.drop (a2_3 : Int).toNat))) = X9_ at HA ⊢
                        clear hgx_
                        cases kq with
                        | zero => exact absurd HA.out (by simp [mummerlaw03_SpansEdits.j1])
                        | succ kj64 =>
                         have H := HA.out
                         clear HA
                         simp only [mummerlaw03_SpansEdits.j1] at H
                         by_cases c105 : x195_64 = true
                         ·subst c105
                          have H1 : (some false) = some r := by rw [if_pos rfl] at H; exact H
                          clear H
                          have H := H1
                          clear H1
                          exact absurd ((Option.some.inj H).trans hrt.out) (by decide)
                         ·replace c105 := Bool.eq_false_iff.mpr c105
                          subst c105
                          have H1 : (if t393 = true then (if 0 ≤ t385 then (if t385 ≤ t386 then (if t386 ≤ (X9_.size : Int) then (if (X9_.extract (t385 : Int).toNat (t386 : Int).toNat).toList = (strOfNums ((l0.take (a2_1 : Int).toNat).drop (a2_0 : Int).toNat)).toList then ((mummerlaw03_awake.f kj64).bind fun t398 => (some t398)) else (some false)) else (none)) else (none)) else (none)) else (if t395 = true then (if 0 ≤ t385 then (if t385 ≤ t386 then (if t386 ≤ (X9_.size : Int) then (if (X9_.extract (t385 : Int).toNat (t386 : Int).toNat).toList = (strOfNums ((l0.take (a2_1 : Int).toNat).drop (a2_0 : Int).toNat)).toList then ((mummerlaw03_awake.f kj64).bind fun t399 => (some t399)) else (some false)) else (none)) else (none)) else (none)) else (if 0 ≤ a2_0 then (if a2_0 ≤ a2_2 then (if a2_2 ≤ (l0.length : Int) then (if (strOfNums ((l0.take (a2_2 : Int).toNat).drop (a2_0 : Int).toNat)).size + a1.size ≤ 9223372036854775807 then (if 0 ≤ a2_3 then (if a2_3 ≤ a2_1 then (if a2_1 ≤ (l0.length : Int) then (if ((strOfNums ((l0.take (a2_2 : Int).toNat).drop (a2_0 : Int).toNat)) ++ a1).size + (strOfNums ((l0.take (a2_1 : Int).toNat).drop (a2_3 : Int).toNat)).size ≤ 9223372036854775807 then (if 0 ≤ t385 then (if t385 ≤ t386 then (if t386 ≤ (X9_.size : Int) then (if (X9_.extract (t385 : Int).toNat (t386 : Int).toNat).toList = (((strOfNums ((l0.take (a2_2 : Int).toNat).drop (a2_0 : Int).toNat)) ++ a1) ++ (strOfNums ((l0.take (a2_1 : Int).toNat).drop (a2_3 : Int).toNat))).toList then ((mummerlaw03_awake.f kj64).bind fun t402 => (some t402)) else (some false)) else (none)) else (none)) else (none)) else (none)) else (none)) else (none)) else (none)) else (none)) else (none)) else (none)) else (none)))) = some r := by rw [if_neg (show ¬ (false = true) by decide)] at H; exact H
                          clear H
                          have H := H1
                          clear H1
                          by_cases c106 : t393 = true
                          ·subst c106
                           have H1 : (if 0 ≤ t385 then (if t385 ≤ t386 then (if t386 ≤ (X9_.size : Int) then (if (X9_.extract (t385 : Int).toNat (t386 : Int).toNat).toList = (strOfNums ((l0.take (a2_1 : Int).toNat).drop (a2_0 : Int).toNat)).toList then ((mummerlaw03_awake.f kj64).bind fun t398 => (some t398)) else (some false)) else (none)) else (none)) else (none)) = some r := by rw [if_pos rfl] at H; exact H
                           clear H
                           have H := H1
                           clear H1
                           by_cases c107 : 0 ≤ t385
                           ·rw [if_pos c107] at H
                            have c107b0 := eq_true c107
                            have c107b1 : decide (0 ≤ t385) = true := decide_eq_true c107
                            clear c107
                            by_cases c108 : t385 ≤ t386
                            ·rw [if_pos c108] at H
                             have c108b0 := eq_true c108
                             have c108b1 : decide (t385 ≤ t386) = true := decide_eq_true c108
                             clear c108
                             by_cases c109 : t386 ≤ (X9_.size : Int)
                             ·rw [if_pos c109] at H
                              have c109b0 := eq_true c109
                              have c109b1 : decide (t386 ≤ (X9_.size : Int)) = true := decide_eq_true c109
                              by_cases c110 : (X9_.extract (t385 : Int).toNat (t386 : Int).toNat).toList = (strOfNums ((l0.take (a2_1 : Int).toNat).drop (a2_0 : Int).toNat)).toList
                              ·rw [if_pos c110] at H
                               have c110b0 : ((X9_.extract (t385 : Int).toNat (t386 : Int).toNat).toList == (strOfNums ((l0.take (a2_1 : Int).toNat).drop (a2_0 : Int).toNat)).toList) = true := beq_iff_eq.mpr c110
                               have c110b1 : ((X9_.extract (t385 : Int).toNat (t386 : Int).toNat).toList != (strOfNums ((l0.take (a2_1 : Int).toNat).drop (a2_0 : Int).toNat)).toList) = false := bne_eq_false_iff_eq.mpr c110
                               clear c110
                               replace H := Option.bind_eq_some_iff.mp H
                               obtain ⟨t398, A1110, H⟩ := H
                               replace H : (some t398) = some r := H
                               have A111 := ak A1110
                               clear A1110
                               obtain rfl := Option.some.inj H
                               have hnb112 := NB388_376.out
                               have hnc112 := NB376_388.out
                               have hnb113 := NB388_377.out
                               have hnc113 := NB377_388.out
                               have hnb114 := NB388_378.out
                               have hnc114 := NB378_388.out
                               have hcz115_0 : wc.cell? ⟨gb388, 0, none⟩ = some (.int .i64 t385) := (blk_cell BK388.out 0).trans rfl
                               have hcz115_1 : wc.cell? ⟨gb388, 1, none⟩ = some (.int .i64 t386) := (blk_cell BK388.out 1).trans rfl
                               have hfz115_0 := blk_frozen BK388.out 0
                               have hfz115_1 := blk_frozen BK388.out 1
                               go_wp2_with (first | (go_at_call 12; (with_reducible refine (mummerlaw03_awake.calls kj64  t398 _ hrt A111.out ⟨Sc.Tab.stay HT.out (by repeat (first | (with_reducible first | exact HB.out | apply wA | apply wN | apply wD) | exact HB.out | (refine below_set ?_ (by assumption)) | (refine below_set ?_ (Aside0.out (by assumption)))))⟩).mono ?_); rintro e w116 ⟨rfl, hb⟩; have n0_ := ak (blk_below (g := gb376) (o := .cells #[.int .i64 a2_0, .int .i64 a2_1, .int .i64 a2_2, .int .i64 a2_3] 46 (0, 0)) (by (with_reducible repeat (first | refine bN ?_ _ | refine bD ?_ | refine bA ?_ _)); exact BK376.out) hb); have n1_ := ak (blk_below (g := gb377) (o := .cells #[.int .i64 a2_0, .int .i64 a2_1] 24 (0, 0)) (by (with_reducible repeat (first | refine bN ?_ _ | refine bD ?_ | refine bA ?_ _)); exact BK377.out) hb); have n2_ := ak (blk_below (g := gb378) (o := .cells #[.int .i64 a2_2, .int .i64 a2_3] 24 (0, 0)) (by (with_reducible repeat (first | refine bN ?_ _ | refine bD ?_ | refine bA ?_ _)); exact BK378.out) hb); have n3_ := ak (blk_below (g := gb388) (o := .cells #[.int .i64 t385, .int .i64 t386] 24 (0, 0)) (by (with_reducible repeat (first | refine bN ?_ _ | refine bD ?_ | refine bA ?_ _)); exact BK388.out) hb); have n4_ := ak (below_step (by repeat (first | (with_reducible first | exact HB.out | apply wA | apply wN | apply wD | refine below_set ?_ GE376.out | refine below_set ?_ GE377.out | refine below_set ?_ GE378.out | refine below_set ?_ GE388.out) | exact HB.out)) hb); clear BK376; clear BK377; clear BK378; clear BK388; clear HB; have BK376 := n0_; have BK377 := n1_; have BK378 := n2_; have BK388 := n3_; have HB := n4_; clear n0_ n1_ n2_ n3_ n4_; (try clear hb); (try clear hb2); (try clear hk); (try clear hi)))
                               go_ret
                               exact ⟨by first | rfl | (simp [errW_none, errW_some] <;> rfl) | (simp [*, errW_none, errW_some] <;> rfl), by repeat (first | (with_reducible first | exact HB.out | apply wA | apply wN | apply wD | refine below_set ?_ GE376.out | refine below_set ?_ GE377.out | refine below_set ?_ GE378.out | refine below_set ?_ GE388.out) | exact HB.out)⟩
                              ·rw [if_neg c110] at H
                               have c110b0 : ((X9_.extract (t385 : Int).toNat (t386 : Int).toNat).toList == (strOfNums ((l0.take (a2_1 : Int).toNat).drop (a2_0 : Int).toNat)).toList) = false := beq_eq_false_iff_ne.mpr c110
                               have c110b1 : ((X9_.extract (t385 : Int).toNat (t386 : Int).toNat).toList != (strOfNums ((l0.take (a2_1 : Int).toNat).drop (a2_0 : Int).toNat)).toList) = true := bne_iff_ne.mpr c110
                               exact absurd ((Option.some.inj H).trans hrt.out) (by decide)
                             ·rw [if_neg c109] at H
                              exact absurd H (by simp)
                            ·rw [if_neg c108] at H
                             exact absurd H (by simp)
                           ·rw [if_neg c107] at H
                            exact absurd H (by simp)
                          ·replace c106 := Bool.eq_false_iff.mpr c106
                           subst c106
                           have H1 : (if t395 = true then (if 0 ≤ t385 then (if t385 ≤ t386 then (if t386 ≤ (X9_.size : Int) then (if (X9_.extract (t385 : Int).toNat (t386 : Int).toNat).toList = (strOfNums ((l0.take (a2_1 : Int).toNat).drop (a2_0 : Int).toNat)).toList then ((mummerlaw03_awake.f kj64).bind fun t399 => (some t399)) else (some false)) else (none)) else (none)) else (none)) else (if 0 ≤ a2_0 then (if a2_0 ≤ a2_2 then (if a2_2 ≤ (l0.length : Int) then (if (strOfNums ((l0.take (a2_2 : Int).toNat).drop (a2_0 : Int).toNat)).size + a1.size ≤ 9223372036854775807 then (if 0 ≤ a2_3 then (if a2_3 ≤ a2_1 then (if a2_1 ≤ (l0.length : Int) then (if ((strOfNums ((l0.take (a2_2 : Int).toNat).drop (a2_0 : Int).toNat)) ++ a1).size + (strOfNums ((l0.take (a2_1 : Int).toNat).drop (a2_3 : Int).toNat)).size ≤ 9223372036854775807 then (if 0 ≤ t385 then (if t385 ≤ t386 then (if t386 ≤ (X9_.size : Int) then (if (X9_.extract (t385 : Int).toNat (t386 : Int).toNat).toList = (((strOfNums ((l0.take (a2_2 : Int).toNat).drop (a2_0 : Int).toNat)) ++ a1) ++ (strOfNums ((l0.take (a2_1 : Int).toNat).drop (a2_3 : Int).toNat))).toList then ((mummerlaw03_awake.f kj64).bind fun t402 => (some t402)) else (some false)) else (none)) else (none)) else (none)) else (none)) else (none)) else (none)) else (none)) else (none)) else (none)) else (none)) else (none))) = some r := by rw [if_neg (show ¬ (false = true) by decide)] at H; exact H
                           clear H
                           have H := H1
                           clear H1
                           by_cases c117 : t395 = true
                           ·subst c117
                            have H1 : (if 0 ≤ t385 then (if t385 ≤ t386 then (if t386 ≤ (X9_.size : Int) then (if (X9_.extract (t385 : Int).toNat (t386 : Int).toNat).toList = (strOfNums ((l0.take (a2_1 : Int).toNat).drop (a2_0 : Int).toNat)).toList then ((mummerlaw03_awake.f kj64).bind fun t399 => (some t399)) else (some false)) else (none)) else (none)) else (none)) = some r := by rw [if_pos rfl] at H; exact H
                            clear H
                            have H := H1
                            clear H1
                            by_cases c118 : 0 ≤ t385
                            ·rw [if_pos c118] at H
                             have c118b0 := eq_true c118
                             have c118b1 : decide (0 ≤ t385) = true := decide_eq_true c118
                             clear c118
                             by_cases c119 : t385 ≤ t386
                             ·rw [if_pos c119] at H
                              have c119b0 := eq_true c119
                              have c119b1 : decide (t385 ≤ t386) = true := decide_eq_true c119
                              clear c119
                              by_cases c120 : t386 ≤ (X9_.size : Int)
                              ·rw [if_pos c120] at H
                               have c120b0 := eq_true c120
                               have c120b1 : decide (t386 ≤ (X9_.size : Int)) = true := decide_eq_true c120
                               by_cases c121 : (X9_.extract (t385 : Int).toNat (t386 : Int).toNat).toList = (strOfNums ((l0.take (a2_1 : Int).toNat).drop (a2_0 : Int).toNat)).toList
                               ·rw [if_pos c121] at H
                                have c121b0 : ((X9_.extract (t385 : Int).toNat (t386 : Int).toNat).toList == (strOfNums ((l0.take (a2_1 : Int).toNat).drop (a2_0 : Int).toNat)).toList) = true := beq_iff_eq.mpr c121
                                have c121b1 : ((X9_.extract (t385 : Int).toNat (t386 : Int).toNat).toList != (strOfNums ((l0.take (a2_1 : Int).toNat).drop (a2_0 : Int).toNat)).toList) = false := bne_eq_false_iff_eq.mpr c121
                                clear c121
                                replace H := Option.bind_eq_some_iff.mp H
                                obtain ⟨t399, A1220, H⟩ := H
                                replace H : (some t399) = some r := H
                                have A122 := ak A1220
                                clear A1220
                                obtain rfl := Option.some.inj H
                                have hnb123 := NB388_376.out
                                have hnc123 := NB376_388.out
                                have hnb124 := NB388_377.out
                                have hnc124 := NB377_388.out
                                have hnb125 := NB388_378.out
                                have hnc125 := NB378_388.out
                                have hcz126_0 : wc.cell? ⟨gb388, 0, none⟩ = some (.int .i64 t385) := (blk_cell BK388.out 0).trans rfl
                                have hcz126_1 : wc.cell? ⟨gb388, 1, none⟩ = some (.int .i64 t386) := (blk_cell BK388.out 1).trans rfl
                                have hfz126_0 := blk_frozen BK388.out 0
                                have hfz126_1 := blk_frozen BK388.out 1
                                go_wp2_with (first | (go_at_call 12; (with_reducible refine (mummerlaw03_awake.calls kj64  t399 _ hrt A122.out ⟨Sc.Tab.stay HT.out (by repeat (first | (with_reducible first | exact HB.out | apply wA | apply wN | apply wD) | exact HB.out | (refine below_set ?_ (by assumption)) | (refine below_set ?_ (Aside0.out (by assumption)))))⟩).mono ?_); rintro e w127 ⟨rfl, hb⟩; have n0_ := ak (blk_below (g := gb376) (o := .cells #[.int .i64 a2_0, .int .i64 a2_1, .int .i64 a2_2, .int .i64 a2_3] 46 (0, 0)) (by (with_reducible repeat (first | refine bN ?_ _ | refine bD ?_ | refine bA ?_ _)); exact BK376.out) hb); have n1_ := ak (blk_below (g := gb377) (o := .cells #[.int .i64 a2_0, .int .i64 a2_1] 24 (0, 0)) (by (with_reducible repeat (first | refine bN ?_ _ | refine bD ?_ | refine bA ?_ _)); exact BK377.out) hb); have n2_ := ak (blk_below (g := gb378) (o := .cells #[.int .i64 a2_2, .int .i64 a2_3] 24 (0, 0)) (by (with_reducible repeat (first | refine bN ?_ _ | refine bD ?_ | refine bA ?_ _)); exact BK378.out) hb); have n3_ := ak (blk_below (g := gb388) (o := .cells #[.int .i64 t385, .int .i64 t386] 24 (0, 0)) (by (with_reducible repeat (first | refine bN ?_ _ | refine bD ?_ | refine bA ?_ _)); exact BK388.out) hb); have n4_ := ak (below_step (by repeat (first | (with_reducible first | exact HB.out | apply wA | apply wN | apply wD | refine below_set ?_ GE376.out | refine below_set ?_ GE377.out | refine below_set ?_ GE378.out | refine below_set ?_ GE388.out) | exact HB.out)) hb); clear BK376; clear BK377; clear BK378; clear BK388; clear HB; have BK376 := n0_; have BK377 := n1_; have BK378 := n2_; have BK388 := n3_; have HB := n4_; clear n0_ n1_ n2_ n3_ n4_; (try clear hb); (try clear hb2); (try clear hk); (try clear hi)))
                                go_ret
                                exact ⟨by first | rfl | (simp [errW_none, errW_some] <;> rfl) | (simp [*, errW_none, errW_some] <;> rfl), by repeat (first | (with_reducible first | exact HB.out | apply wA | apply wN | apply wD | refine below_set ?_ GE376.out | refine below_set ?_ GE377.out | refine below_set ?_ GE378.out | refine below_set ?_ GE388.out) | exact HB.out)⟩
                               ·rw [if_neg c121] at H
                                have c121b0 : ((X9_.extract (t385 : Int).toNat (t386 : Int).toNat).toList == (strOfNums ((l0.take (a2_1 : Int).toNat).drop (a2_0 : Int).toNat)).toList) = false := beq_eq_false_iff_ne.mpr c121
                                have c121b1 : ((X9_.extract (t385 : Int).toNat (t386 : Int).toNat).toList != (strOfNums ((l0.take (a2_1 : Int).toNat).drop (a2_0 : Int).toNat)).toList) = true := bne_iff_ne.mpr c121
                                exact absurd ((Option.some.inj H).trans hrt.out) (by decide)
                              ·rw [if_neg c120] at H
                               exact absurd H (by simp)
                             ·rw [if_neg c119] at H
                              exact absurd H (by simp)
                            ·rw [if_neg c118] at H
                             exact absurd H (by simp)
                           ·replace c117 := Bool.eq_false_iff.mpr c117
                            subst c117
                            have H1 : (if 0 ≤ a2_0 then (if a2_0 ≤ a2_2 then (if a2_2 ≤ (l0.length : Int) then (if (strOfNums ((l0.take (a2_2 : Int).toNat).drop (a2_0 : Int).toNat)).size + a1.size ≤ 9223372036854775807 then (if 0 ≤ a2_3 then (if a2_3 ≤ a2_1 then (if a2_1 ≤ (l0.length : Int) then (if ((strOfNums ((l0.take (a2_2 : Int).toNat).drop (a2_0 : Int).toNat)) ++ a1).size + (strOfNums ((l0.take (a2_1 : Int).toNat).drop (a2_3 : Int).toNat)).size ≤ 9223372036854775807 then (if 0 ≤ t385 then (if t385 ≤ t386 then (if t386 ≤ (X9_.size : Int) then (if (X9_.extract (t385 : Int).toNat (t386 : Int).toNat).toList = (((strOfNums ((l0.take (a2_2 : Int).toNat).drop (a2_0 : Int).toNat)) ++ a1) ++ (strOfNums ((l0.take (a2_1 : Int).toNat).drop (a2_3 : Int).toNat))).toList then ((mummerlaw03_awake.f kj64).bind fun t402 => (some t402)) else (some false)) else (none)) else (none)) else (none)) else (none)) else (none)) else (none)) else (none)) else (none)) else (none)) else (none)) else (none)) = some r := by rw [if_neg (show ¬ (false = true) by decide)] at H; exact H
                            clear H
                            have H := H1
                            clear H1
                            by_cases c128 : 0 ≤ a2_0
                            ·rw [if_pos c128] at H
                             have c128b0 := eq_true c128
                             have c128b1 : decide (0 ≤ a2_0) = true := decide_eq_true c128
                             clear c128
                             by_cases c129 : a2_0 ≤ a2_2
                             ·rw [if_pos c129] at H
                              have c129b0 := eq_true c129
                              have c129b1 : decide (a2_0 ≤ a2_2) = true := decide_eq_true c129
                              clear c129
                              by_cases c130 : a2_2 ≤ (l0.length : Int)
                              ·rw [if_pos c130] at H
                               have c130b0 := eq_true c130
                               have c130b1 : decide (a2_2 ≤ (l0.length : Int)) = true := decide_eq_true c130
                               clear c130
                               by_cases c131 : (strOfNums ((l0.take (a2_2 : Int).toNat).drop (a2_0 : Int).toNat)).size + a1.size ≤ 9223372036854775807
                               ·rw [if_pos c131] at H
                                have c131b0 := eq_true c131
                                have c131b1 : decide ((strOfNums ((l0.take (a2_2 : Int).toNat).drop (a2_0 : Int).toNat)).size + a1.size ≤ 9223372036854775807) = true := decide_eq_true c131
                                try have c131b2 : (9223372036854775807 < (strOfNums ((l0.take (a2_2 : Int).toNat).drop (a2_0 : Int).toNat)).size + a1.size) = False := eq_false (Nat.not_lt.2 c131)
                                by_cases c132 : 0 ≤ a2_3
                                ·rw [if_pos c132] at H
                                 have c132b0 := eq_true c132
                                 have c132b1 : decide (0 ≤ a2_3) = true := decide_eq_true c132
                                 clear c132
                                 by_cases c133 : a2_3 ≤ a2_1
                                 ·rw [if_pos c133] at H
                                  have c133b0 := eq_true c133
                                  have c133b1 : decide (a2_3 ≤ a2_1) = true := decide_eq_true c133
                                  clear c133
                                  by_cases c134 : a2_1 ≤ (l0.length : Int)
                                  ·rw [if_pos c134] at H
                                   have c134b0 := eq_true c134
                                   have c134b1 : decide (a2_1 ≤ (l0.length : Int)) = true := decide_eq_true c134
                                   clear c134
                                   by_cases c135 : ((strOfNums ((l0.take (a2_2 : Int).toNat).drop (a2_0 : Int).toNat)) ++ a1).size + (strOfNums ((l0.take (a2_1 : Int).toNat).drop (a2_3 : Int).toNat)).size ≤ 9223372036854775807
                                   ·rw [if_pos c135] at H
                                    have c135b0 := eq_true c135
                                    have c135b1 : decide (((strOfNums ((l0.take (a2_2 : Int).toNat).drop (a2_0 : Int).toNat)) ++ a1).size + (strOfNums ((l0.take (a2_1 : Int).toNat).drop (a2_3 : Int).toNat)).size ≤ 9223372036854775807) = true := decide_eq_true c135
                                    try have c135b2 : (9223372036854775807 < ((strOfNums ((l0.take (a2_2 : Int).toNat).drop (a2_0 : Int).toNat)) ++ a1).size + (strOfNums ((l0.take (a2_1 : Int).toNat).drop (a2_3 : Int).toNat)).size) = False := eq_false (Nat.not_lt.2 c135)
                                    try have c135b4 : (9223372036854775807 < (strOfNums ((l0.take (a2_2 : Int).toNat).drop (a2_0 : Int).toNat)).size + a1.size + (strOfNums ((l0.take (a2_1 : Int).toNat).drop (a2_3 : Int).toNat)).size) = False := by have h_ := c135; rw [ByteArray.size_append] at h_; exact eq_false (Nat.not_lt.2 h_)
                                    by_cases c136 : 0 ≤ t385
                                    ·rw [if_pos c136] at H
                                     have c136b0 := eq_true c136
                                     have c136b1 : decide (0 ≤ t385) = true := decide_eq_true c136
                                     clear c136
                                     by_cases c137 : t385 ≤ t386
                                     ·rw [if_pos c137] at H
                                      have c137b0 := eq_true c137
                                      have c137b1 : decide (t385 ≤ t386) = true := decide_eq_true c137
                                      clear c137
                                      by_cases c138 : t386 ≤ (X9_.size : Int)
                                      ·rw [if_pos c138] at H
                                       have c138b0 := eq_true c138
                                       have c138b1 : decide (t386 ≤ (X9_.size : Int)) = true := decide_eq_true c138
                                       by_cases c139 : (X9_.extract (t385 : Int).toNat (t386 : Int).toNat).toList = (((strOfNums ((l0.take (a2_2 : Int).toNat).drop (a2_0 : Int).toNat)) ++ a1) ++ (strOfNums ((l0.take (a2_1 : Int).toNat).drop (a2_3 : Int).toNat))).toList
                                       ·rw [if_pos c139] at H
                                        have c139b0 : ((X9_.extract (t385 : Int).toNat (t386 : Int).toNat).toList == (((strOfNums ((l0.take (a2_2 : Int).toNat).drop (a2_0 : Int).toNat)) ++ a1) ++ (strOfNums ((l0.take (a2_1 : Int).toNat).drop (a2_3 : Int).toNat))).toList) = true := beq_iff_eq.mpr c139
                                        have c139b1 : ((X9_.extract (t385 : Int).toNat (t386 : Int).toNat).toList != (((strOfNums ((l0.take (a2_2 : Int).toNat).drop (a2_0 : Int).toNat)) ++ a1) ++ (strOfNums ((l0.take (a2_1 : Int).toNat).drop (a2_3 : Int).toNat))).toList) = false := bne_eq_false_iff_eq.mpr c139
                                        clear c139
                                        replace H := Option.bind_eq_some_iff.mp H
                                        obtain ⟨t402, A1400, H⟩ := H
                                        replace H : (some t402) = some r := H
                                        have A140 := ak A1400
                                        clear A1400
                                        obtain rfl := Option.some.inj H
                                        try go_wp2
                                        have n0_ := ak (bD BK376.out)
                                        have n1_ := ak (bD BK377.out)
                                        have n2_ := ak (bD BK378.out)
                                        have n3_ := ak (bD BK388.out)
                                        have n4_ := ak (wD HB.out)
                                        clear BK376 BK377 BK378 BK388 HB
                                        have BK376 := n0_
                                        have BK377 := n1_
                                        have BK378 := n2_
                                        have BK388 := n3_
                                        have HB := n4_
                                        clear n0_ n1_ n2_ n3_ n4_
                                        obtain ⟨i0142, hi0142, _, hsz142, _⟩ := info_parts info5
                                        obtain ⟨A142, hcut142, hA142, hC142⟩ := print_mid_of (P := Tryd.prog) (Value.int .u8) 0 45 5 .i64 .i64 Tryd.underlying45 hi0142 hsz142 A0 c0 l0 a2_0 a2_2 (of_decide_eq_true (by first | (with_reducible assumption) | assumption)) (by first | omega | exact of_decide_eq_true (by first | (with_reducible assumption) | assumption)) (of_decide_eq_true (by first | (with_reducible assumption) | assumption)) HC0.out
                                        have HR400 := ak (Kd.C_of_reads (h1 := fun _ => rfl) (hA142 _ (Kd.reads_of_C HR0.out)))
                                        have HC400 := ak hC142
                                        clear hA142 hC142 hi0142 hsz142
                                        obtain ⟨i0143, hi0143, _, hsz143, _⟩ := info_parts info5
                                        obtain ⟨A143, hcut143, hA143, hC143⟩ := print_mid_of (P := Tryd.prog) (Value.int .u8) 0 45 5 .i64 .i64 Tryd.underlying45 hi0143 hsz143 A0 c0 l0 a2_3 a2_1 (of_decide_eq_true (by first | (with_reducible assumption) | assumption)) (by first | omega | exact of_decide_eq_true (by first | (with_reducible assumption) | assumption)) (of_decide_eq_true (by first | (with_reducible assumption) | assumption)) HC0.out
                                        have HR401 := ak (Kd.C_of_reads (h1 := fun _ => rfl) (hA143 _ (Kd.reads_of_C HR0.out)))
                                        have HC401 := ak hC143
                                        clear hA143 hC143 hi0143 hsz143
                                        have hcv144 := Kd.C_string (P := Tryd.prog) (A := A142) (c := (c0 - a2_0.toNat)) Tryd.underlying45 Tryd.underlying5 Tryd.underlying9 (Kd.C_below HR400.out HB.out)
                                        have hcv145 := Kd.C_string (P := Tryd.prog) (A := A143) (c := (c0 - a2_3.toNat)) Tryd.underlying45 Tryd.underlying5 Tryd.underlying9 (Kd.C_below HR401.out HB.out)
                                        refine start_ (n := 18) (S := fun w' => w'.cell? ⟨gb377, 0, none⟩ = some (.int .i64 a2_0) ∧ w'.cell? ⟨gb377, 1, none⟩ = some (.int .i64 a2_1) ∧ w'.cell? ⟨gb378, 0, none⟩ = some (.int .i64 a2_2) ∧ w'.cell? ⟨gb378, 1, none⟩ = some (.int .i64 a2_3) ∧ (convert 45 9 (.slice A142 (a2_2.toNat - a2_0.toNat) (c0 - a2_0.toNat))).run Tryd.prog w' = .ok (.string (strOfNums ((l0.take a2_2.toNat).drop a2_0.toNat))) w' ∧ (convert 45 9 (.slice A143 (a2_1.toNat - a2_3.toNat) (c0 - a2_3.toNat))).run Tryd.prog w' = .ok (.string (strOfNums ((l0.take a2_1.toNat).drop a2_3.toNat))) w') (ds := []) #[Z,Z,Z,Z,Z,Z,Z,Z,Z,Z,Z,Z,Z,Z,Z,Z,Z,Z] (by kernel_rfl) rfl rfl ⟨(blk_cell BK377.out 0).trans rfl, (blk_cell BK377.out 1).trans rfl, (blk_cell BK378.out 0).trans rfl, (blk_cell BK378.out 1).trans rfl, (by have hle_ : a2_2 ≤ (l0.length : Int) := of_decide_eq_true (by first | (with_reducible assumption) | assumption); have h_ := hcv144; rw [List.length_drop, List.length_take, Nat.min_eq_left (by omega)] at h_; exact h_), (by have hle_ : a2_1 ≤ (l0.length : Int) := of_decide_eq_true (by first | (with_reducible assumption) | assumption); have h_ := hcv145; rw [List.length_drop, List.length_take, Nat.min_eq_left (by omega)] at h_; exact h_)⟩ (fun hHeld => ?_); refine with_tabW mummerlaw03_SpansEdits.tab19 mummerlaw03_SpansEdits.bits19 (fun HT_ HW_ => ?_)
                                        generalize wc.drew = w141 at BK376 BK377 BK378 BK388 HB HR400 HR401 hHeld ⊢
                                        refine pure_ (i := 0) (N := some 202) (v := ?_) (a' := ?_) #[Y,Z,Z,Z,Z,Z,Z,Z,Z,Z,Z,Z,Z,Z,Z,Z,Z,Z] rfl rfl (any_of HT_.out (by kernel_rfl)) (fun _ _ _ h => h) (Or.inl ⟨by rfl, ?_⟩) ?_ ?_; rotate_left; ·(intro w'; go_simp; with_reducible rfl)
                                        rotate_left; ·(simp only [Act.put, sA_, s0_, s1_, i64_w, i32_w]; rfl)
                                        refine pure_ (i := 1) (N := some 203) (v := ?_) (a' := ?_) #[Y,Y,Z,Z,Z,Z,Z,Z,Z,Z,Z,Z,Z,Z,Z,Z,Z,Z] rfl rfl (any_of HT_.out (by kernel_rfl)) (fun _ _ _ h => h) (Or.inl ⟨by rfl, ?_⟩) ?_ ?_; rotate_left; ·(intro w'; go_simp; with_reducible rfl)
                                        rotate_left; ·(simp only [Act.put, sA_, s0_, s1_, i64_w, i32_w]; rfl)
                                        refine pure_ (i := 3) (N := some 205) (v := ?_) (a' := ?_) #[Y,Y,Z,Y,Z,Z,Z,Z,Z,Z,Z,Z,Z,Z,Z,Z,Z,Z] rfl rfl (any_of HT_.out (by kernel_rfl)) (fun _ _ _ h => h) (Or.inl ⟨by rfl, ?_⟩) ?_ ?_; rotate_left; ·(intro w'; go_simp; with_reducible rfl)
                                        rotate_left; ·(simp only [Act.put, sA_, s0_, s1_, i64_w, i32_w]; rfl)
                                        refine pure_ (i := 7) (N := some 209) (v := ?_) (a' := ?_) #[Y,Y,Z,Y,Z,Z,Z,Y,Z,Z,Z,Z,Z,Z,Z,Z,Z,Z] rfl rfl (any_of HT_.out (by kernel_rfl)) (fun _ _ _ h => h) (Or.inl ⟨by rfl, ?_⟩) ?_ ?_; rotate_left; ·(intro w'; go_simp; with_reducible rfl)
                                        rotate_left; ·(simp only [Act.put, sA_, s0_, s1_, i64_w, i32_w]; rfl)
                                        refine pure_ (i := 9) (N := some 211) (v := ?_) (a' := ?_) #[Y,Y,Z,Y,Z,Z,Z,Y,Z,Y,Z,Z,Z,Z,Z,Z,Z,Z] rfl rfl (any_of HT_.out (by kernel_rfl)) (fun _ _ _ h => h) (Or.inl ⟨by rfl, ?_⟩) ?_ ?_; rotate_left; ·(intro w'; go_simp; with_reducible rfl)
                                        rotate_left; ·(simp only [Act.put, sA_, s0_, s1_, i64_w, i32_w]; rfl)
                                        refine pure_ (i := 10) (N := some 212) (v := ?_) (a' := ?_) #[Y,Y,Z,Y,Z,Z,Z,Y,Z,Y,Y,Z,Z,Z,Z,Z,Z,Z] rfl rfl (any_of HT_.out (by kernel_rfl)) (fun _ _ _ h => h) (Or.inl ⟨by rfl, ?_⟩) ?_ ?_; rotate_left; ·(intro w'; go_simp; with_reducible rfl)
                                        rotate_left; ·(simp only [Act.put, sA_, s0_, s1_, i64_w, i32_w]; rfl)
                                        refine pure_ (i := 12) (N := some 214) (v := ?_) (a' := ?_) #[Y,Y,Z,Y,Z,Z,Z,Y,Z,Y,Y,Z,Y,Z,Z,Z,Z,Z] rfl rfl (any_of HT_.out (by kernel_rfl)) (fun _ _ _ h => h) (Or.inl ⟨by rfl, ?_⟩) ?_ ?_; rotate_left; ·(intro w'; go_simp; with_reducible rfl)
                                        rotate_left; ·(simp only [Act.put, sA_, s0_, s1_, i64_w, i32_w]; rfl)
                                        refine take_ (i := 2) (N := some 204) (v := ?_) (a' := ?_) #[Y,Y,Y,Y,Z,Z,Z,Y,Z,Y,Y,Z,Y,Z,Z,Z,Z,Z] rfl rfl (take_ofW HT_.out HW_.out (by kernel_rfl)) (fun _ _ _ h => h) (Or.inl ⟨by rfl, ?_⟩) hHeld ?_ ?_; rotate_left; ·(rintro w' ⟨s0, s1, s2, s3, s4, s5⟩; go_simp; with_reducible rfl)
                                        rotate_left; ·(simp only [Act.put, sA_, s0_, s1_, i64_w, i32_w]; rfl)
                                        refine take_ (i := 4) (N := some 206) (v := ?_) (a' := ?_) #[Y,Y,Y,Y,Y,Z,Z,Y,Z,Y,Y,Z,Y,Z,Z,Z,Z,Z] rfl rfl (take_ofW HT_.out HW_.out (by kernel_rfl)) (fun _ _ _ h => h) (Or.inl ⟨by rfl, ?_⟩) hHeld ?_ ?_; rotate_left; ·(rintro w' ⟨s0, s1, s2, s3, s4, s5⟩; go_simp; with_reducible rfl)
                                        rotate_left; ·(simp only [Act.put, sA_, s0_, s1_, i64_w, i32_w]; rfl)
                                        refine pure_ (i := 5) (N := some 207) (v := ?_) (a' := ?_) #[Y,Y,Y,Y,Y,Y,Z,Y,Z,Y,Y,Z,Y,Z,Z,Z,Z,Z] rfl rfl (any_of HT_.out (by kernel_rfl)) (fun _ _ _ h => h) (Or.inl ⟨by rfl, ?_⟩) ?_ ?_; rotate_left; ·(intro w'; go_simp; with_reducible rfl)
                                        rotate_left; ·(simp only [Act.put, sA_, s0_, s1_, i64_w, i32_w]; rfl)
                                        refine take_ (i := 6) (N := some 208) (v := ?_) (a' := ?_) #[Y,Y,Y,Y,Y,Y,Y,Y,Z,Y,Y,Z,Y,Z,Z,Z,Z,Z] rfl rfl (take_ofW HT_.out HW_.out (by kernel_rfl)) (fun _ _ _ h => h) (Or.inl ⟨by rfl, ?_⟩) hHeld ?_ ?_; rotate_left; ·(rintro w' ⟨s0, s1, s2, s3, s4, s5⟩; go_simp; with_reducible rfl)
                                        rotate_left; ·(simp only [Act.put, sA_, s0_, s1_, i64_w, i32_w]; rfl)
                                        refine pure_ (i := 8) (N := some 210) (v := ?_) (a' := ?_) #[Y,Y,Y,Y,Y,Y,Y,Y,Y,Y,Y,Z,Y,Z,Z,Z,Z,Z] rfl rfl (any_of HT_.out (by kernel_rfl)) (fun _ _ _ h => h) (Or.inl ⟨by rfl, ?_⟩) ?_ ?_; rotate_left; ·(intro w'; go_simp; with_reducible rfl)
                                        rotate_left; ·(simp only [Act.put, sA_, s0_, s1_, i64_w, i32_w]; rfl)
                                        refine take_ (i := 11) (N := some 213) (v := ?_) (a' := ?_) #[Y,Y,Y,Y,Y,Y,Y,Y,Y,Y,Y,Y,Y,Z,Z,Z,Z,Z] rfl rfl (take_ofW HT_.out HW_.out (by kernel_rfl)) (fun _ _ _ h => h) (Or.inl ⟨by rfl, ?_⟩) hHeld ?_ ?_; rotate_left; ·(rintro w' ⟨s0, s1, s2, s3, s4, s5⟩; go_simp; with_reducible rfl)
                                        rotate_left; ·(simp only [Act.put, sA_, s0_, s1_, i64_w, i32_w]; rfl)
                                        refine take_ (i := 13) (N := some 215) (v := ?_) (a' := ?_) #[Y,Y,Y,Y,Y,Y,Y,Y,Y,Y,Y,Y,Y,Y,Z,Z,Z,Z] rfl rfl (take_ofW HT_.out HW_.out (by kernel_rfl)) (fun _ _ _ h => h) (Or.inl ⟨by rfl, ?_⟩) hHeld ?_ ?_; rotate_left; ·(rintro w' ⟨s0, s1, s2, s3, s4, s5⟩; go_simp; with_reducible rfl)
                                        rotate_left; ·(simp only [Act.put, sA_, s0_, s1_, i64_w, i32_w]; rfl)
                                        refine pure_ (i := 14) (N := some 216) (v := ?_) (a' := ?_) #[Y,Y,Y,Y,Y,Y,Y,Y,Y,Y,Y,Y,Y,Y,Y,Z,Z,Z] rfl rfl (any_of HT_.out (by kernel_rfl)) (fun _ _ _ h => h) (Or.inl ⟨by rfl, ?_⟩) ?_ ?_; rotate_left; ·(intro w'; go_simp; with_reducible rfl)
                                        rotate_left; ·(simp only [Act.put, sA_, s0_, s1_, i64_w, i32_w]; rfl)
                                        refine take_ (i := 15) (N := some 217) (v := ?_) (a' := ?_) #[Y,Y,Y,Y,Y,Y,Y,Y,Y,Y,Y,Y,Y,Y,Y,Y,Z,Z] rfl rfl (take_ofW HT_.out HW_.out (by kernel_rfl)) (fun _ _ _ h => h) (Or.inl ⟨by rfl, ?_⟩) hHeld ?_ ?_; rotate_left; ·(rintro w' ⟨s0, s1, s2, s3, s4, s5⟩; go_simp; with_reducible rfl)
                                        rotate_left; ·(simp only [Act.put, sA_, s0_, s1_, i64_w, i32_w]; rfl)
                                        refine pure_ (i := 16) (N := some 218) (v := ?_) (a' := ?_) #[Y,Y,Y,Y,Y,Y,Y,Y,Y,Y,Y,Y,Y,Y,Y,Y,Y,Z] rfl rfl (any_of HT_.out (by kernel_rfl)) (fun _ _ _ h => h) (Or.inl ⟨by rfl, ?_⟩) ?_ ?_; rotate_left; ·(intro w'; go_simp; with_reducible rfl)
                                        rotate_left; ·(simp only [Act.put, sA_, s0_, s1_, i64_w, i32_w]; rfl)
                                        refine pure_ (i := 17) (N := some 13) (v := ?_) (a' := ?_) #[Y,Y,Y,Y,Y,Y,Y,Y,Y,Y,Y,Y,Y,Y,Y,Y,Y,Y] rfl rfl (any_of HT_.out (by kernel_rfl)) (fun _ _ _ h => h) (Or.inl ⟨by rfl, ?_⟩) ?_ ?_; rotate_left; ·(intro w'; go_simp; with_reducible rfl)
                                        rotate_left; ·(simp only [Act.put, sA_, s0_, s1_, i64_w, i32_w]; rfl)
                                        refine done_ (done_of HT_.out (by kernel_rfl)) ?_
                                        have hnb147 := NB388_376.out
                                        have hnc147 := NB376_388.out
                                        have hnb148 := NB388_377.out
                                        have hnc148 := NB377_388.out
                                        have hnb149 := NB388_378.out
                                        have hnc149 := NB378_388.out
                                        have hcz150_0 : w141.cell? ⟨gb388, 0, none⟩ = some (.int .i64 t385) := (blk_cell BK388.out 0).trans rfl
                                        have hcz150_1 : w141.cell? ⟨gb388, 1, none⟩ = some (.int .i64 t386) := (blk_cell BK388.out 1).trans rfl
                                        have hfz150_0 := blk_frozen BK388.out 0
                                        have hfz150_1 := blk_frozen BK388.out 1
                                        try go_wp2_with (first | (go_at_call 12; (with_reducible refine (mummerlaw03_awake.calls kj64  t402 _ hrt A140.out ⟨Sc.Tab.stay HT.out (by repeat (first | (with_reducible first | exact HB.out | apply wA | apply wN | apply wD) | exact HB.out | (refine below_set ?_ (by assumption)) | (refine below_set ?_ (Aside0.out (by assumption)))))⟩).mono ?_); rintro e w151 ⟨rfl, hb⟩; have n0_ := ak (blk_below (g := gb376) (o := .cells #[.int .i64 a2_0, .int .i64 a2_1, .int .i64 a2_2, .int .i64 a2_3] 46 (0, 0)) (by (with_reducible repeat (first | refine bN ?_ _ | refine bD ?_ | refine bA ?_ _)); exact BK376.out) hb); have n1_ := ak (blk_below (g := gb377) (o := .cells #[.int .i64 a2_0, .int .i64 a2_1] 24 (0, 0)) (by (with_reducible repeat (first | refine bN ?_ _ | refine bD ?_ | refine bA ?_ _)); exact BK377.out) hb); have n2_ := ak (blk_below (g := gb378) (o := .cells #[.int .i64 a2_2, .int .i64 a2_3] 24 (0, 0)) (by (with_reducible repeat (first | refine bN ?_ _ | refine bD ?_ | refine bA ?_ _)); exact BK378.out) hb); have n3_ := ak (blk_below (g := gb388) (o := .cells #[.int .i64 t385, .int .i64 t386] 24 (0, 0)) (by (with_reducible repeat (first | refine bN ?_ _ | refine bD ?_ | refine bA ?_ _)); exact BK388.out) hb); have n4_ := ak (below_step (by repeat (first | (with_reducible first | exact HB.out | apply wA | apply wN | apply wD | refine below_set ?_ GE376.out | refine below_set ?_ GE377.out | refine below_set ?_ GE378.out | refine below_set ?_ GE388.out) | exact HB.out)) hb); clear BK376; clear BK377; clear BK378; clear BK388; clear HB; have BK376 := n0_; have BK377 := n1_; have BK378 := n2_; have BK388 := n3_; have HB := n4_; clear n0_ n1_ n2_ n3_ n4_; (try clear hb); (try clear hb2); (try clear hk); (try clear hi)))
                                        go_ret
                                        exact ⟨by first | rfl | (simp [errW_none, errW_some] <;> rfl) | (simp [*, errW_none, errW_some] <;> rfl), by repeat (first | (with_reducible first | exact HB.out | apply wA | apply wN | apply wD | refine below_set ?_ GE376.out | refine below_set ?_ GE377.out | refine below_set ?_ GE378.out | refine below_set ?_ GE388.out) | exact HB.out)⟩
                                       ·rw [if_neg c139] at H
                                        have c139b0 : ((X9_.extract (t385 : Int).toNat (t386 : Int).toNat).toList == (((strOfNums ((l0.take (a2_2 : Int).toNat).drop (a2_0 : Int).toNat)) ++ a1) ++ (strOfNums ((l0.take (a2_1 : Int).toNat).drop (a2_3 : Int).toNat))).toList) = false := beq_eq_false_iff_ne.mpr c139
                                        have c139b1 : ((X9_.extract (t385 : Int).toNat (t386 : Int).toNat).toList != (((strOfNums ((l0.take (a2_2 : Int).toNat).drop (a2_0 : Int).toNat)) ++ a1) ++ (strOfNums ((l0.take (a2_1 : Int).toNat).drop (a2_3 : Int).toNat))).toList) = true := bne_iff_ne.mpr c139
                                        exact absurd ((Option.some.inj H).trans hrt.out) (by decide)
                                      ·rw [if_neg c138] at H
                                       exact absurd H (by simp)
                                     ·rw [if_neg c137] at H
                                      exact absurd H (by simp)
                                    ·rw [if_neg c136] at H
                                     exact absurd H (by simp)
                                   ·rw [if_neg c135] at H
                                    exact absurd H (by simp)
                                  ·rw [if_neg c134] at H
                                   exact absurd H (by simp)
                                 ·rw [if_neg c133] at H
                                  exact absurd H (by simp)
                                ·rw [if_neg c132] at H
                                 exact absurd H (by simp)
                               ·rw [if_neg c131] at H
                                exact absurd H (by simp)
                              ·rw [if_neg c130] at H
                               exact absurd H (by simp)
                             ·rw [if_neg c129] at H
                              exact absurd H (by simp)
                            ·rw [if_neg c128] at H
                             exact absurd H (by simp)
                      ·rw [if_neg c64] at H
                       have c64b0 : (t397 == 0) = false := beq_eq_false_iff_ne.mpr c64
                       have c64b1 : (t397 != 0) = true := bne_iff_ne.mpr c64
                       exact absurd ((Option.some.inj H).trans hrt.out) (by decide)
                     ·rw [if_neg c62] at H
                      have c62b0 : (t396 == 0) = false := beq_eq_false_iff_ne.mpr c62
                      have c62b1 : (t396 != 0) = true := bne_iff_ne.mpr c62
                      exact absurd ((Option.some.inj H).trans hrt.out) (by decide)
                    ·rw [if_neg c61] at H
                     have c61b0 : (t394 == 0) = false := beq_eq_false_iff_ne.mpr c61
                     have c61b1 : (t394 != 0) = true := bne_iff_ne.mpr c61
                     exact absurd ((Option.some.inj H).trans hrt.out) (by decide)
                   ·rw [if_neg c58] at H
                    exact absurd H (by simp)
                  ·rw [if_neg c57] at H
                   exact absurd H (by simp)
                 ·rw [if_neg c56] at H
                  exact absurd H (by simp)
                ·rw [if_neg c55] at H
                 have c55b0 : (t387 == 0) = false := beq_eq_false_iff_ne.mpr c55
                 have c55b1 : (t387 != 0) = true := bne_iff_ne.mpr c55
                 obtain ⟨ji152, hji152⟩ : ∃ j_ : Int, (mx a2_0 a2_2) = j_ := ⟨_, rfl⟩
                 replace H : (if (ji152) < (mn a2_1 a2_3) then (if a2_2 < a2_0 then (if t387 = 4 then ((mummerlaw03_awake.f kj3).bind fun t389 => (some t389)) else (some false)) else (if t387 = 4 then (if a2_3 > a2_1 then ((mummerlaw03_awake.f kj3).bind fun t390 => (some t390)) else (some false)) else (some false))) else (if t387 = 4 then (some false) else (some false))) = some r := by first | (rw [hji152] at H; exact H) | (simp only [hji152] at H ⊢; exact H)
                 (try rw [hji152] at A54)
                 have hji152_ : (if a2_0 < a2_2 then a2_2 else a2_0) = ji152 := hji152
                 obtain ⟨ji153, hji153⟩ : ∃ j_ : Int, (mn a2_1 a2_3) = j_ := ⟨_, rfl⟩
                 replace H : (if (ji152) < (ji153) then (if a2_2 < a2_0 then (if t387 = 4 then ((mummerlaw03_awake.f kj3).bind fun t389 => (some t389)) else (some false)) else (if t387 = 4 then (if a2_3 > a2_1 then ((mummerlaw03_awake.f kj3).bind fun t390 => (some t390)) else (some false)) else (some false))) else (if t387 = 4 then (some false) else (some false))) = some r := by first | (rw [hji153] at H; exact H) | (simp only [hji153] at H ⊢; exact H)
                 (try rw [hji153] at A54)
                 have hji153_ : (if a2_3 < a2_1 then a2_3 else a2_1) = ji153 := hji153
                 by_cases c154 : (ji152) < (ji153)
                 ·rw [if_pos c154] at H
                  have c154b0 : decide ((ji152) < (ji153)) = true := decide_eq_true c154
                  clear c154
                  by_cases c155 : a2_2 < a2_0
                  ·rw [if_pos c155] at H
                   have c155b0 : decide (a2_2 < a2_0) = true := decide_eq_true c155
                   clear c155
                   by_cases c156 : t387 = 4
                   ·rw [if_pos c156] at H
                    have c156b0 : (t387 == 4) = true := beq_iff_eq.mpr c156
                    have c156b1 : (t387 != 4) = false := bne_eq_false_iff_eq.mpr c156
                    clear c156
                    replace H := Option.bind_eq_some_iff.mp H
                    obtain ⟨t389, A1570, H⟩ := H
                    replace H : (some t389) = some r := H
                    have A157 := ak A1570
                    clear A1570
                    obtain rfl := Option.some.inj H
                    have hnb158 := NB377_376.out
                    have hnc158 := NB376_377.out
                    have hnb159 := NB377_378.out
                    have hnc159 := NB378_377.out
                    have hcz160_0 : wc.cell? ⟨gb377, 0, none⟩ = some (.int .i64 a2_0) := (blk_cell BK377.out 0).trans rfl
                    have hcz160_1 : wc.cell? ⟨gb377, 1, none⟩ = some (.int .i64 a2_1) := (blk_cell BK377.out 1).trans rfl
                    have hfz160_0 := blk_frozen BK377.out 0
                    have hfz160_1 := blk_frozen BK377.out 1
                    have hnb161 := NB378_376.out
                    have hnc161 := NB376_378.out
                    have hcz162_0 : wc.cell? ⟨gb378, 0, none⟩ = some (.int .i64 a2_2) := (blk_cell BK378.out 0).trans rfl
                    have hcz162_1 : wc.cell? ⟨gb378, 1, none⟩ = some (.int .i64 a2_3) := (blk_cell BK378.out 1).trans rfl
                    have hfz162_0 := blk_frozen BK378.out 0
                    have hfz162_1 := blk_frozen BK378.out 1
                    try go_wp2
                    have n0_ := ak (bD BK376.out)
                    have n1_ := ak (bD BK377.out)
                    have n2_ := ak (bD BK378.out)
                    have n3_ := ak (wD HB.out)
                    clear BK376 BK377 BK378 HB
                    have BK376 := n0_
                    have BK377 := n1_
                    have BK378 := n2_
                    have HB := n3_
                    clear n0_ n1_ n2_ n3_
                    obtain ⟨i0164, hi0164, _, hsz164, _⟩ := info_parts info5
                    obtain ⟨hcut164, hA164, hC164⟩ := print_take_of (P := Tryd.prog) (Value.int .u8) 0 45 5 .i64 Tryd.underlying45 hi0164 hsz164 A0 c0 l0 a2_2 (of_decide_eq_true (by first | (with_reducible assumption) | assumption)) (of_decide_eq_true (by first | (with_reducible assumption) | assumption)) HC0.out
                    have HR383 := ak (Kd.C_of_reads (h1 := fun _ => rfl) (hA164 _ (Kd.reads_of_C HR0.out)))
                    have HC383 := ak hC164
                    clear hA164 hC164 hi0164 hsz164
                    obtain ⟨i0165, hi0165, _, hsz165, _⟩ := info_parts info5
                    obtain ⟨A165, hcut165, hA165, hC165⟩ := print_drop_of (P := Tryd.prog) (Value.int .u8) 0 45 5 .i64 Tryd.underlying45 hi0165 hsz165 A0 c0 l0 a2_3 (of_decide_eq_true (by first | (with_reducible assumption) | assumption)) (of_decide_eq_true (by first | (with_reducible assumption) | assumption)) HC0.out
                    have HR384 := ak (Kd.C_of_reads (h1 := fun _ => rfl) (hA165 _ (Kd.reads_of_C HR0.out)))
                    have HC384 := ak hC165
                    clear hA165 hC165 hi0165 hsz165
                    have hcv166 := Kd.C_string (P := Tryd.prog) (A := A0) (c := c0) Tryd.underlying45 Tryd.underlying5 Tryd.underlying9 (Kd.C_below HR383.out HB.out)
                    have hcv167 := Kd.C_string (P := Tryd.prog) (A := A165) (c := (c0 - a2_3.toNat)) Tryd.underlying45 Tryd.underlying5 Tryd.underlying9 (Kd.C_below HR384.out HB.out)
                    refine start_ (n := 14) (S := fun w' => w'.cell? ⟨gb378, 0, none⟩ = some (.int .i64 a2_2) ∧ w'.cell? ⟨gb378, 1, none⟩ = some (.int .i64 a2_3) ∧ (convert 45 9 (.slice A0 a2_2.toNat c0)).run Tryd.prog w' = .ok (.string (strOfNums (l0.take a2_2.toNat))) w' ∧ (convert 45 9 (.slice A165 (l0.length - a2_3.toNat) (c0 - a2_3.toNat))).run Tryd.prog w' = .ok (.string (strOfNums (l0.drop a2_3.toNat))) w') (ds := []) q6_0 (by kernel_rfl) rfl rfl ⟨(blk_cell BK378.out 0).trans rfl, (blk_cell BK378.out 1).trans rfl, (by have hle_ : a2_2 ≤ (l0.length : Int) := of_decide_eq_true (by first | (with_reducible assumption) | assumption); have h_ := hcv166; rw [List.length_take, Nat.min_eq_left (by omega)] at h_; exact h_), (by have h_ := hcv167; rw [List.length_drop] at h_; exact h_)⟩ (fun hHeld => ?_); refine with_tabW mummerlaw03_SpansEdits.tab6 mummerlaw03_SpansEdits.bits6 (fun HT_ HW_ => ?_)
                    generalize wc.drew = w163 at BK376 BK377 BK378 HB HR383 HR384 hHeld ⊢
                    refine pure_ (i := 0) (N := some 88) (v := ?_) (a' := ?_) q6_1 rfl rfl (any_of HT_.out (by kernel_rfl)) (fun _ _ _ h => h) (Or.inl ⟨by rfl, ?_⟩) ?_ ?_; rotate_left; ·(intro w'; go_simp; with_reducible rfl)
                    rotate_left; ·(simp only [Act.put, sA_, s0_, s1_, i64_w, i32_w]; rfl)
                    refine pure_ (i := 1) (N := some 89) (v := ?_) (a' := ?_) q6_2 rfl rfl (any_of HT_.out (by kernel_rfl)) (fun _ _ _ h => h) (Or.inl ⟨by rfl, ?_⟩) ?_ ?_; rotate_left; ·(intro w'; go_simp; with_reducible rfl)
                    rotate_left; ·(simp only [Act.put, sA_, s0_, s1_, i64_w, i32_w]; rfl)
                    refine pure_ (i := 5) (N := some 93) (v := ?_) (a' := ?_) q6_3 rfl rfl (any_of HT_.out (by kernel_rfl)) (fun _ _ _ h => h) (Or.inl ⟨by rfl, ?_⟩) ?_ ?_; rotate_left; ·(intro w'; go_simp; with_reducible rfl)
                    rotate_left; ·(simp only [Act.put, sA_, s0_, s1_, i64_w, i32_w]; rfl)
                    refine pure_ (i := 7) (N := some 95) (v := ?_) (a' := ?_) q6_4 rfl rfl (any_of HT_.out (by kernel_rfl)) (fun _ _ _ h => h) (Or.inl ⟨by rfl, ?_⟩) ?_ ?_; rotate_left; ·(intro w'; go_simp; with_reducible rfl)
                    rotate_left; ·(simp only [Act.put, sA_, s0_, s1_, i64_w, i32_w]; rfl)
                    refine pure_ (i := 8) (N := some 96) (v := ?_) (a' := ?_) q6_5 rfl rfl (any_of HT_.out (by kernel_rfl)) (fun _ _ _ h => h) (Or.inl ⟨by rfl, ?_⟩) ?_ ?_; rotate_left; ·(intro w'; go_simp; with_reducible rfl)
                    rotate_left; ·(simp only [Act.put, sA_, s0_, s1_, i64_w, i32_w]; rfl)
                    refine take_ (i := 2) (N := some 90) (v := ?_) (a' := ?_) q6_6 rfl rfl (take_ofW HT_.out HW_.out (by kernel_rfl)) (fun _ _ _ h => h) (Or.inl ⟨by rfl, ?_⟩) hHeld ?_ ?_; rotate_left; ·(rintro w' ⟨s0, s1, s2, s3⟩; go_simp; with_reducible rfl)
                    rotate_left; ·(simp only [Act.put, sA_, s0_, s1_, i64_w, i32_w]; rfl)
                    refine pure_ (i := 3) (N := some 91) (v := ?_) (a' := ?_) q6_7 rfl rfl (any_of HT_.out (by kernel_rfl)) (fun _ _ _ h => h) (Or.inl ⟨by rfl, ?_⟩) ?_ ?_; rotate_left; ·(intro w'; go_simp; with_reducible rfl)
                    rotate_left; ·(simp only [Act.put, sA_, s0_, s1_, i64_w, i32_w]; rfl)
                    refine take_ (i := 4) (N := some 92) (v := ?_) (a' := ?_) q6_8 rfl rfl (take_ofW HT_.out HW_.out (by kernel_rfl)) (fun _ _ _ h => h) (Or.inl ⟨by rfl, ?_⟩) hHeld ?_ ?_; rotate_left; ·(rintro w' ⟨s0, s1, s2, s3⟩; go_simp; with_reducible rfl)
                    rotate_left; ·(simp only [Act.put, sA_, s0_, s1_, i64_w, i32_w]; rfl)
                    refine pure_ (i := 6) (N := some 94) (v := ?_) (a' := ?_) q6_9 rfl rfl (any_of HT_.out (by kernel_rfl)) (fun _ _ _ h => h) (Or.inl ⟨by rfl, ?_⟩) ?_ ?_; rotate_left; ·(intro w'; go_simp; with_reducible rfl)
                    rotate_left; ·(simp only [Act.put, sA_, s0_, s1_, i64_w, i32_w]; rfl)
                    refine take_ (i := 9) (N := some 97) (v := ?_) (a' := ?_) q6_10 rfl rfl (take_ofW HT_.out HW_.out (by kernel_rfl)) (fun _ _ _ h => h) (Or.inl ⟨by rfl, ?_⟩) hHeld ?_ ?_; rotate_left; ·(rintro w' ⟨s0, s1, s2, s3⟩; go_simp; with_reducible rfl)
                    rotate_left; ·(simp only [Act.put, sA_, s0_, s1_, i64_w, i32_w]; rfl)
                    refine pure_ (i := 10) (N := some 98) (v := ?_) (a' := ?_) q6_11 rfl rfl (any_of HT_.out (by kernel_rfl)) (fun _ _ _ h => h) (Or.inl ⟨by rfl, ?_⟩) ?_ ?_; rotate_left; ·(intro w'; go_simp; with_reducible rfl)
                    rotate_left; ·(simp only [Act.put, sA_, s0_, s1_, i64_w, i32_w]; rfl)
                    refine take_ (i := 11) (N := some 99) (v := ?_) (a' := ?_) q6_12 rfl rfl (take_ofW HT_.out HW_.out (by kernel_rfl)) (fun _ _ _ h => h) (Or.inl ⟨by rfl, ?_⟩) hHeld ?_ ?_; rotate_left; ·(rintro w' ⟨s0, s1, s2, s3⟩; go_simp; with_reducible rfl)
                    rotate_left; ·(simp only [Act.put, sA_, s0_, s1_, i64_w, i32_w]; rfl)
                    refine pure_ (i := 12) (N := some 100) (v := ?_) (a' := ?_) q6_13 rfl rfl (any_of HT_.out (by kernel_rfl)) (fun _ _ _ h => h) (Or.inl ⟨by rfl, ?_⟩) ?_ ?_; rotate_left; ·(intro w'; go_simp; with_reducible rfl)
                    rotate_left; ·(simp only [Act.put, sA_, s0_, s1_, i64_w, i32_w]; rfl)
                    refine pure_ (i := 13) (N := some 9) (v := ?_) (a' := ?_) q6_14 rfl rfl (any_of HT_.out (by kernel_rfl)) (fun _ _ _ h => h) (Or.inl ⟨by rfl, ?_⟩) ?_ ?_; rotate_left; ·(intro w'; go_simp; with_reducible rfl)
                    rotate_left; ·(simp only [Act.put, sA_, s0_, s1_, i64_w, i32_w]; rfl)
                    refine done_ (done_of HT_.out (by kernel_rfl)) ?_
                    have hcz169_0 : w163.cell? ⟨gb377, 0, none⟩ = some (.int .i64 a2_0) := (blk_cell BK377.out 0).trans rfl
                    have hcz169_1 : w163.cell? ⟨gb377, 1, none⟩ = some (.int .i64 a2_1) := (blk_cell BK377.out 1).trans rfl
                    have hfz169_0 := blk_frozen BK377.out 0
                    have hfz169_1 := blk_frozen BK377.out 1
                    have hcz170_0 : w163.cell? ⟨gb378, 0, none⟩ = some (.int .i64 a2_2) := (blk_cell BK378.out 0).trans rfl
                    have hcz170_1 : w163.cell? ⟨gb378, 1, none⟩ = some (.int .i64 a2_3) := (blk_cell BK378.out 1).trans rfl
                    have hfz170_0 := blk_frozen BK378.out 0
                    have hfz170_1 := blk_frozen BK378.out 1
                    try go_wp2_with (first | ((with_reducible refine gate_callee (f := 13) rfl ?_); refine goesL_ (some 106) rfl rfl Tryd.func13 (by kernel_rfl) rfl #[.agg #[.int .i64 a2_0, .int .i64 a2_1], .agg #[.int .i64 a2_2, .int .i64 a2_3], .int .i64 (a1.size : Int)] rfl (by (try simp only [List.map_toArray, List.map_cons, List.map_nil]); first | done | rfl | (simp only [List.length_drop, List.length_take]; rfl)) ?_; (with_reducible refine (spans_Shift.calls kj3 a2_0 a2_1 a2_2 a2_3 (a1.size : Int) t385 t386 t387 _ A54.out).mono ?_); rintro e w171 ⟨rfl, hb⟩; refine ⟨_, rfl, ?_⟩; have n0_ := ak (blk_below (g := gb376) (o := .cells #[.int .i64 a2_0, .int .i64 a2_1, .int .i64 a2_2, .int .i64 a2_3] 46 (0, 0)) (by (with_reducible repeat (first | refine bN ?_ _ | refine bD ?_ | refine bA ?_ _)); exact BK376.out) hb); have n1_ := ak (blk_below (g := gb377) (o := .cells #[.int .i64 a2_0, .int .i64 a2_1] 24 (0, 0)) (by (with_reducible repeat (first | refine bN ?_ _ | refine bD ?_ | refine bA ?_ _)); exact BK377.out) hb); have n2_ := ak (blk_below (g := gb378) (o := .cells #[.int .i64 a2_2, .int .i64 a2_3] 24 (0, 0)) (by (with_reducible repeat (first | refine bN ?_ _ | refine bD ?_ | refine bA ?_ _)); exact BK378.out) hb); have n3_ := ak (below_step (by repeat (first | (with_reducible first | exact HB.out | apply wA | apply wN | apply wD | refine below_set ?_ GE376.out | refine below_set ?_ GE377.out | refine below_set ?_ GE378.out) | exact HB.out)) hb); clear BK376; clear BK377; clear BK378; clear HB; have BK376 := n0_; have BK377 := n1_; have BK378 := n2_; have HB := n3_; clear n0_ n1_ n2_ n3_; (try clear hb); (try clear hb2); (try clear hk); (try clear hi)) | ((with_reducible refine gate_dst (N := 10) rfl ?_); (try (refine gate_guard (by rfl) ?_; dsimp only)); refine box_event ?hg (N := 10) ?hd (cs := #[.int .i64 0, .int .i64 0]) (t := 24) ?hr ?_; (case hd => rfl); (case hg => rfl); (case hr => first | (go_simp; done) | (go_simp; rfl)); intro gb388 hg w172 hbox hb; have n0_ := ak (blk_below (g := gb376) (o := .cells #[.int .i64 a2_0, .int .i64 a2_1, .int .i64 a2_2, .int .i64 a2_3] 46 (0, 0)) (by (with_reducible repeat (first | refine bN ?_ _ | refine bD ?_ | refine bA ?_ _)); exact BK376.out) hb); have n1_ := ak (blk_below (g := gb377) (o := .cells #[.int .i64 a2_0, .int .i64 a2_1] 24 (0, 0)) (by (with_reducible repeat (first | refine bN ?_ _ | refine bD ?_ | refine bA ?_ _)); exact BK377.out) hb); have n2_ := ak (blk_below (g := gb378) (o := .cells #[.int .i64 a2_2, .int .i64 a2_3] 24 (0, 0)) (by (with_reducible repeat (first | refine bN ?_ _ | refine bD ?_ | refine bA ?_ _)); exact BK378.out) hb); have n3_ := ak (below_step (by repeat (first | (with_reducible first | exact HB.out | apply wA | apply wN | apply wD | refine below_set ?_ GE376.out | refine below_set ?_ GE377.out | refine below_set ?_ GE378.out) | exact HB.out)) hb); have n4_ := ak (hbox); have n5_ := ak ((by rw [hg]; exact (below_size (by repeat (first | (with_reducible first | exact HB.out | apply wA | apply wN | apply wD | refine below_set ?_ GE376.out | refine below_set ?_ GE377.out | refine below_set ?_ GE378.out) | exact HB.out))) : w.heap.size ≤ gb388)); have n6_ := ak ((by rw [hg]; exact (below_size (by repeat (first | (with_reducible first | exact HB.out | apply wA | apply wN | apply wD | refine below_set ?_ GE376.out | refine below_set ?_ GE377.out | refine below_set ?_ GE378.out) | exact HB.out))) : w.heap.size ≤ gb388)); have n7_ := ak ((by rw [hg]; exact Nat.ne_of_lt (blk_lt (g := gb376) (o := .cells #[.int .i64 a2_0, .int .i64 a2_1, .int .i64 a2_2, .int .i64 a2_3] 46 (0, 0)) (by (with_reducible repeat (first | refine bN ?_ _ | refine bD ?_ | refine bA ?_ _)); exact BK376.out)) : gb376 ≠ gb388)); have n8_ := ak ((by rw [hg]; exact Nat.ne_of_gt (blk_lt (g := gb376) (o := .cells #[.int .i64 a2_0, .int .i64 a2_1, .int .i64 a2_2, .int .i64 a2_3] 46 (0, 0)) (by (with_reducible repeat (first | refine bN ?_ _ | refine bD ?_ | refine bA ?_ _)); exact BK376.out)) : gb388 ≠ gb376)); have n9_ := ak ((by rw [hg]; exact Nat.ne_of_lt (blk_lt (g := gb377) (o := .cells #[.int .i64 a2_0, .int .i64 a2_1] 24 (0, 0)) (by (with_reducible repeat (first | refine bN ?_ _ | refine bD ?_ | refine bA ?_ _)); exact BK377.out)) : gb377 ≠ gb388)); have n10_ := ak ((by rw [hg]; exact Nat.ne_of_gt (blk_lt (g := gb377) (o := .cells #[.int .i64 a2_0, .int .i64 a2_1] 24 (0, 0)) (by (with_reducible repeat (first | refine bN ?_ _ | refine bD ?_ | refine bA ?_ _)); exact BK377.out)) : gb388 ≠ gb377)); have n11_ := ak ((by rw [hg]; exact Nat.ne_of_lt (blk_lt (g := gb378) (o := .cells #[.int .i64 a2_2, .int .i64 a2_3] 24 (0, 0)) (by (with_reducible repeat (first | refine bN ?_ _ | refine bD ?_ | refine bA ?_ _)); exact BK378.out)) : gb378 ≠ gb388)); have n12_ := ak ((by rw [hg]; exact Nat.ne_of_gt (blk_lt (g := gb378) (o := .cells #[.int .i64 a2_2, .int .i64 a2_3] 24 (0, 0)) (by (with_reducible repeat (first | refine bN ?_ _ | refine bD ?_ | refine bA ?_ _)); exact BK378.out)) : gb388 ≠ gb378)); clear BK376; clear BK377; clear BK378; clear HB; have BK376 := n0_; have BK377 := n1_; have BK378 := n2_; have HB := n3_; have BK388 := n4_; have GW388 := n5_; have GE388 := n6_; have NB376_388 := n7_; have NB388_376 := n8_; have NB377_388 := n9_; have NB388_377 := n10_; have NB378_388 := n11_; have NB388_378 := n12_; clear n0_ n1_ n2_ n3_ n4_ n5_ n6_ n7_ n8_ n9_ n10_ n11_ n12_; clear hb hbox hg; have hnb173 := NB388_376.out; have hnc173 := NB376_388.out; have hnb174 := NB388_377.out; have hnc174 := NB377_388.out; have hnb175 := NB388_378.out; have hnc175 := NB378_388.out; have hcz176_0 : w172.cell? ⟨gb388, 0, none⟩ = some (.int .i64 0) := (blk_cell BK388.out 0).trans rfl; have hcz176_1 : w172.cell? ⟨gb388, 1, none⟩ = some (.int .i64 0) := (blk_cell BK388.out 1).trans rfl; have hfz176_0 := blk_frozen BK388.out 0; have hfz176_1 := blk_frozen BK388.out 1; have hcz177_0 : w172.cell? ⟨gb377, 0, none⟩ = some (.int .i64 a2_0) := (blk_cell BK377.out 0).trans rfl; have hcz177_1 : w172.cell? ⟨gb377, 1, none⟩ = some (.int .i64 a2_1) := (blk_cell BK377.out 1).trans rfl; have hfz177_0 := blk_frozen BK377.out 0; have hfz177_1 := blk_frozen BK377.out 1; have hcz178_0 : w172.cell? ⟨gb378, 0, none⟩ = some (.int .i64 a2_2) := (blk_cell BK378.out 0).trans rfl; have hcz178_1 : w172.cell? ⟨gb378, 1, none⟩ = some (.int .i64 a2_3) := (blk_cell BK378.out 1).trans rfl; have hfz178_0 := blk_frozen BK378.out 0; have hfz178_1 := blk_frozen BK378.out 1) | (go_at_call 12; (with_reducible refine (mummerlaw03_awake.calls kj3  t389 _ hrt A157.out ⟨Sc.Tab.stay HT.out (by repeat (first | (with_reducible first | exact HB.out | apply wA | apply wN | apply wD) | exact HB.out | (refine below_set ?_ (by assumption)) | (refine below_set ?_ (Aside0.out (by assumption)))))⟩).mono ?_); rintro e w179 ⟨rfl, hb⟩; have n0_ := ak (blk_below (g := gb376) (o := .cells #[.int .i64 a2_0, .int .i64 a2_1, .int .i64 a2_2, .int .i64 a2_3] 46 (0, 0)) (by (with_reducible repeat (first | refine bN ?_ _ | refine bD ?_ | refine bA ?_ _)); refine blk_far ?_ NB376_388.out _; (with_reducible repeat (first | refine bN ?_ _ | refine bD ?_ | refine bA ?_ _)); refine blk_far ?_ NB376_388.out _; (with_reducible repeat (first | refine bN ?_ _ | refine bD ?_ | refine bA ?_ _)); exact BK376.out) hb); have n1_ := ak (blk_below (g := gb377) (o := .cells #[.int .i64 a2_0, .int .i64 a2_1] 24 (0, 0)) (by (with_reducible repeat (first | refine bN ?_ _ | refine bD ?_ | refine bA ?_ _)); refine blk_far ?_ NB377_388.out _; (with_reducible repeat (first | refine bN ?_ _ | refine bD ?_ | refine bA ?_ _)); refine blk_far ?_ NB377_388.out _; (with_reducible repeat (first | refine bN ?_ _ | refine bD ?_ | refine bA ?_ _)); exact BK377.out) hb); have n2_ := ak (blk_below (g := gb378) (o := .cells #[.int .i64 a2_2, .int .i64 a2_3] 24 (0, 0)) (by (with_reducible repeat (first | refine bN ?_ _ | refine bD ?_ | refine bA ?_ _)); refine blk_far ?_ NB378_388.out _; (with_reducible repeat (first | refine bN ?_ _ | refine bD ?_ | refine bA ?_ _)); refine blk_far ?_ NB378_388.out _; (with_reducible repeat (first | refine bN ?_ _ | refine bD ?_ | refine bA ?_ _)); exact BK378.out) hb); have n3_ := ak (blk_below (g := gb388) (o := .cells #[.int .i64 t385, .int .i64 t386] 24 (0, 0)) (by (with_reducible repeat (first | refine bN ?_ _ | refine bD ?_ | refine bA ?_ _)); refine blk_put (cs := #[.int .i64 t385, .int .i64 0]) ?_ 1 _ rfl; (with_reducible repeat (first | refine bN ?_ _ | refine bD ?_ | refine bA ?_ _)); refine blk_put (cs := #[.int .i64 0, .int .i64 0]) ?_ 0 _ rfl; (with_reducible repeat (first | refine bN ?_ _ | refine bD ?_ | refine bA ?_ _)); exact BK388.out) hb); have n4_ := ak (below_step (by repeat (first | (with_reducible first | exact HB.out | apply wA | apply wN | apply wD | refine below_set ?_ GE376.out | refine below_set ?_ GE377.out | refine below_set ?_ GE378.out | refine below_set ?_ GE388.out) | exact HB.out)) hb); clear BK376; clear BK377; clear BK378; clear BK388; clear HB; have BK376 := n0_; have BK377 := n1_; have BK378 := n2_; have BK388 := n3_; have HB := n4_; clear n0_ n1_ n2_ n3_ n4_; (try clear hb); (try clear hb2); (try clear hk); (try clear hi)))
                    go_ret
                    exact ⟨by first | rfl | (simp [errW_none, errW_some] <;> rfl) | (simp only [← hji152, ← hji153]; first | rfl | (simp [errW_none, errW_some] <;> rfl)) | (simp [*, errW_none, errW_some] <;> rfl), by repeat (first | (with_reducible first | exact HB.out | apply wA | apply wN | apply wD | refine below_set ?_ GE376.out | refine below_set ?_ GE377.out | refine below_set ?_ GE378.out | refine below_set ?_ GE388.out) | exact HB.out)⟩
                   ·rw [if_neg c156] at H
                    have c156b0 : (t387 == 4) = false := beq_eq_false_iff_ne.mpr c156
                    have c156b1 : (t387 != 4) = true := bne_iff_ne.mpr c156
                    exact absurd ((Option.some.inj H).trans hrt.out) (by decide)
                  ·rw [if_neg c155] at H
                   have c155b0 : decide (a2_2 < a2_0) = false := decide_eq_false c155
                   clear c155
                   by_cases c180 : t387 = 4
                   ·rw [if_pos c180] at H
                    have c180b0 : (t387 == 4) = true := beq_iff_eq.mpr c180
                    have c180b1 : (t387 != 4) = false := bne_eq_false_iff_eq.mpr c180
                    clear c180
                    by_cases c181 : a2_3 > a2_1
                    ·rw [if_pos c181] at H
                     have c181b0 : decide (a2_1 < a2_3) = true := decide_eq_true c181
                     clear c181
                     replace H := Option.bind_eq_some_iff.mp H
                     obtain ⟨t390, A1820, H⟩ := H
                     replace H : (some t390) = some r := H
                     have A182 := ak A1820
                     clear A1820
                     obtain rfl := Option.some.inj H
                     have hnb183 := NB377_376.out
                     have hnc183 := NB376_377.out
                     have hnb184 := NB377_378.out
                     have hnc184 := NB378_377.out
                     have hcz185_0 : wc.cell? ⟨gb377, 0, none⟩ = some (.int .i64 a2_0) := (blk_cell BK377.out 0).trans rfl
                     have hcz185_1 : wc.cell? ⟨gb377, 1, none⟩ = some (.int .i64 a2_1) := (blk_cell BK377.out 1).trans rfl
                     have hfz185_0 := blk_frozen BK377.out 0
                     have hfz185_1 := blk_frozen BK377.out 1
                     have hnb186 := NB378_376.out
                     have hnc186 := NB376_378.out
                     have hcz187_0 : wc.cell? ⟨gb378, 0, none⟩ = some (.int .i64 a2_2) := (blk_cell BK378.out 0).trans rfl
                     have hcz187_1 : wc.cell? ⟨gb378, 1, none⟩ = some (.int .i64 a2_3) := (blk_cell BK378.out 1).trans rfl
                     have hfz187_0 := blk_frozen BK378.out 0
                     have hfz187_1 := blk_frozen BK378.out 1
                     try go_wp2
                     have n0_ := ak (bD BK376.out)
                     have n1_ := ak (bD BK377.out)
                     have n2_ := ak (bD BK378.out)
                     have n3_ := ak (wD HB.out)
                     clear BK376 BK377 BK378 HB
                     have BK376 := n0_
                     have BK377 := n1_
                     have BK378 := n2_
                     have HB := n3_
                     clear n0_ n1_ n2_ n3_
                     obtain ⟨i0189, hi0189, _, hsz189, _⟩ := info_parts info5
                     obtain ⟨hcut189, hA189, hC189⟩ := print_take_of (P := Tryd.prog) (Value.int .u8) 0 45 5 .i64 Tryd.underlying45 hi0189 hsz189 A0 c0 l0 a2_2 (of_decide_eq_true (by first | (with_reducible assumption) | assumption)) (of_decide_eq_true (by first | (with_reducible assumption) | assumption)) HC0.out
                     have HR383 := ak (Kd.C_of_reads (h1 := fun _ => rfl) (hA189 _ (Kd.reads_of_C HR0.out)))
                     have HC383 := ak hC189
                     clear hA189 hC189 hi0189 hsz189
                     obtain ⟨i0190, hi0190, _, hsz190, _⟩ := info_parts info5
                     obtain ⟨A190, hcut190, hA190, hC190⟩ := print_drop_of (P := Tryd.prog) (Value.int .u8) 0 45 5 .i64 Tryd.underlying45 hi0190 hsz190 A0 c0 l0 a2_3 (of_decide_eq_true (by first | (with_reducible assumption) | assumption)) (of_decide_eq_true (by first | (with_reducible assumption) | assumption)) HC0.out
                     have HR384 := ak (Kd.C_of_reads (h1 := fun _ => rfl) (hA190 _ (Kd.reads_of_C HR0.out)))
                     have HC384 := ak hC190
                     clear hA190 hC190 hi0190 hsz190
                     have hcv191 := Kd.C_string (P := Tryd.prog) (A := A0) (c := c0) Tryd.underlying45 Tryd.underlying5 Tryd.underlying9 (Kd.C_below HR383.out HB.out)
                     have hcv192 := Kd.C_string (P := Tryd.prog) (A := A190) (c := (c0 - a2_3.toNat)) Tryd.underlying45 Tryd.underlying5 Tryd.underlying9 (Kd.C_below HR384.out HB.out)
                     refine start_ (n := 14) (S := fun w' => w'.cell? ⟨gb378, 0, none⟩ = some (.int .i64 a2_2) ∧ w'.cell? ⟨gb378, 1, none⟩ = some (.int .i64 a2_3) ∧ (convert 45 9 (.slice A0 a2_2.toNat c0)).run Tryd.prog w' = .ok (.string (strOfNums (l0.take a2_2.toNat))) w' ∧ (convert 45 9 (.slice A190 (l0.length - a2_3.toNat) (c0 - a2_3.toNat))).run Tryd.prog w' = .ok (.string (strOfNums (l0.drop a2_3.toNat))) w') (ds := []) q6_0 (by kernel_rfl) rfl rfl ⟨(blk_cell BK378.out 0).trans rfl, (blk_cell BK378.out 1).trans rfl, (by have hle_ : a2_2 ≤ (l0.length : Int) := of_decide_eq_true (by first | (with_reducible assumption) | assumption); have h_ := hcv191; rw [List.length_take, Nat.min_eq_left (by omega)] at h_; exact h_), (by have h_ := hcv192; rw [List.length_drop] at h_; exact h_)⟩ (fun hHeld => ?_); refine with_tabW mummerlaw03_SpansEdits.tab6 mummerlaw03_SpansEdits.bits6 (fun HT_ HW_ => ?_)
                     generalize wc.drew = w188 at BK376 BK377 BK378 HB HR383 HR384 hHeld ⊢
                     refine pure_ (i := 0) (N := some 88) (v := ?_) (a' := ?_) q6_1 rfl rfl (any_of HT_.out (by kernel_rfl)) (fun _ _ _ h => h) (Or.inl ⟨by rfl, ?_⟩) ?_ ?_; rotate_left; ·(intro w'; go_simp; with_reducible rfl)
                     rotate_left; ·(simp only [Act.put, sA_, s0_, s1_, i64_w, i32_w]; rfl)
                     refine pure_ (i := 1) (N := some 89) (v := ?_) (a' := ?_) q6_2 rfl rfl (any_of HT_.out (by kernel_rfl)) (fun _ _ _ h => h) (Or.inl ⟨by rfl, ?_⟩) ?_ ?_; rotate_left; ·(intro w'; go_simp; with_reducible rfl)
                     rotate_left; ·(simp only [Act.put, sA_, s0_, s1_, i64_w, i32_w]; rfl)
                     refine pure_ (i := 5) (N := some 93) (v := ?_) (a' := ?_) q6_3 rfl rfl (any_of HT_.out (by kernel_rfl)) (fun _ _ _ h => h) (Or.inl ⟨by rfl, ?_⟩) ?_ ?_; rotate_left; ·(intro w'; go_simp; with_reducible rfl)
                     rotate_left; ·(simp only [Act.put, sA_, s0_, s1_, i64_w, i32_w]; rfl)
                     refine pure_ (i := 7) (N := some 95) (v := ?_) (a' := ?_) q6_4 rfl rfl (any_of HT_.out (by kernel_rfl)) (fun _ _ _ h => h) (Or.inl ⟨by rfl, ?_⟩) ?_ ?_; rotate_left; ·(intro w'; go_simp; with_reducible rfl)
                     rotate_left; ·(simp only [Act.put, sA_, s0_, s1_, i64_w, i32_w]; rfl)
                     refine pure_ (i := 8) (N := some 96) (v := ?_) (a' := ?_) q6_5 rfl rfl (any_of HT_.out (by kernel_rfl)) (fun _ _ _ h => h) (Or.inl ⟨by rfl, ?_⟩) ?_ ?_; rotate_left; ·(intro w'; go_simp; with_reducible rfl)
                     rotate_left; ·(simp only [Act.put, sA_, s0_, s1_, i64_w, i32_w]; rfl)
                     refine take_ (i := 2) (N := some 90) (v := ?_) (a' := ?_) q6_6 rfl rfl (take_ofW HT_.out HW_.out (by kernel_rfl)) (fun _ _ _ h => h) (Or.inl ⟨by rfl, ?_⟩) hHeld ?_ ?_; rotate_left; ·(rintro w' ⟨s0, s1, s2, s3⟩; go_simp; with_reducible rfl)
                     rotate_left; ·(simp only [Act.put, sA_, s0_, s1_, i64_w, i32_w]; rfl)
                     refine pure_ (i := 3) (N := some 91) (v := ?_) (a' := ?_) q6_7 rfl rfl (any_of HT_.out (by kernel_rfl)) (fun _ _ _ h => h) (Or.inl ⟨by rfl, ?_⟩) ?_ ?_; rotate_left; ·(intro w'; go_simp; with_reducible rfl)
                     rotate_left; ·(simp only [Act.put, sA_, s0_, s1_, i64_w, i32_w]; rfl)
                     refine take_ (i := 4) (N := some 92) (v := ?_) (a' := ?_) q6_8 rfl rfl (take_ofW HT_.out HW_.out (by kernel_rfl)) (fun _ _ _ h => h) (Or.inl ⟨by rfl, ?_⟩) hHeld ?_ ?_; rotate_left; ·(rintro w' ⟨s0, s1, s2, s3⟩; go_simp; with_reducible rfl)
                     rotate_left; ·(simp only [Act.put, sA_, s0_, s1_, i64_w, i32_w]; rfl)
                     refine pure_ (i := 6) (N := some 94) (v := ?_) (a' := ?_) q6_9 rfl rfl (any_of HT_.out (by kernel_rfl)) (fun _ _ _ h => h) (Or.inl ⟨by rfl, ?_⟩) ?_ ?_; rotate_left; ·(intro w'; go_simp; with_reducible rfl)
                     rotate_left; ·(simp only [Act.put, sA_, s0_, s1_, i64_w, i32_w]; rfl)
                     refine take_ (i := 9) (N := some 97) (v := ?_) (a' := ?_) q6_10 rfl rfl (take_ofW HT_.out HW_.out (by kernel_rfl)) (fun _ _ _ h => h) (Or.inl ⟨by rfl, ?_⟩) hHeld ?_ ?_; rotate_left; ·(rintro w' ⟨s0, s1, s2, s3⟩; go_simp; with_reducible rfl)
                     rotate_left; ·(simp only [Act.put, sA_, s0_, s1_, i64_w, i32_w]; rfl)
                     refine pure_ (i := 10) (N := some 98) (v := ?_) (a' := ?_) q6_11 rfl rfl (any_of HT_.out (by kernel_rfl)) (fun _ _ _ h => h) (Or.inl ⟨by rfl, ?_⟩) ?_ ?_; rotate_left; ·(intro w'; go_simp; with_reducible rfl)
                     rotate_left; ·(simp only [Act.put, sA_, s0_, s1_, i64_w, i32_w]; rfl)
                     refine take_ (i := 11) (N := some 99) (v := ?_) (a' := ?_) q6_12 rfl rfl (take_ofW HT_.out HW_.out (by kernel_rfl)) (fun _ _ _ h => h) (Or.inl ⟨by rfl, ?_⟩) hHeld ?_ ?_; rotate_left; ·(rintro w' ⟨s0, s1, s2, s3⟩; go_simp; with_reducible rfl)
                     rotate_left; ·(simp only [Act.put, sA_, s0_, s1_, i64_w, i32_w]; rfl)
                     refine pure_ (i := 12) (N := some 100) (v := ?_) (a' := ?_) q6_13 rfl rfl (any_of HT_.out (by kernel_rfl)) (fun _ _ _ h => h) (Or.inl ⟨by rfl, ?_⟩) ?_ ?_; rotate_left; ·(intro w'; go_simp; with_reducible rfl)
                     rotate_left; ·(simp only [Act.put, sA_, s0_, s1_, i64_w, i32_w]; rfl)
                     refine pure_ (i := 13) (N := some 9) (v := ?_) (a' := ?_) q6_14 rfl rfl (any_of HT_.out (by kernel_rfl)) (fun _ _ _ h => h) (Or.inl ⟨by rfl, ?_⟩) ?_ ?_; rotate_left; ·(intro w'; go_simp; with_reducible rfl)
                     rotate_left; ·(simp only [Act.put, sA_, s0_, s1_, i64_w, i32_w]; rfl)
                     refine done_ (done_of HT_.out (by kernel_rfl)) ?_
                     have hcz194_0 : w188.cell? ⟨gb377, 0, none⟩ = some (.int .i64 a2_0) := (blk_cell BK377.out 0).trans rfl
                     have hcz194_1 : w188.cell? ⟨gb377, 1, none⟩ = some (.int .i64 a2_1) := (blk_cell BK377.out 1).trans rfl
                     have hfz194_0 := blk_frozen BK377.out 0
                     have hfz194_1 := blk_frozen BK377.out 1
                     have hcz195_0 : w188.cell? ⟨gb378, 0, none⟩ = some (.int .i64 a2_2) := (blk_cell BK378.out 0).trans rfl
                     have hcz195_1 : w188.cell? ⟨gb378, 1, none⟩ = some (.int .i64 a2_3) := (blk_cell BK378.out 1).trans rfl
                     have hfz195_0 := blk_frozen BK378.out 0
                     have hfz195_1 := blk_frozen BK378.out 1
                     try go_wp2_with (first | ((with_reducible refine gate_callee (f := 13) rfl ?_); refine goesL_ (some 106) rfl rfl Tryd.func13 (by kernel_rfl) rfl #[.agg #[.int .i64 a2_0, .int .i64 a2_1], .agg #[.int .i64 a2_2, .int .i64 a2_3], .int .i64 (a1.size : Int)] rfl (by (try simp only [List.map_toArray, List.map_cons, List.map_nil]); first | done | rfl | (simp only [List.length_drop, List.length_take]; rfl)) ?_; (with_reducible refine (spans_Shift.calls kj3 a2_0 a2_1 a2_2 a2_3 (a1.size : Int) t385 t386 t387 _ A54.out).mono ?_); rintro e w196 ⟨rfl, hb⟩; refine ⟨_, rfl, ?_⟩; have n0_ := ak (blk_below (g := gb376) (o := .cells #[.int .i64 a2_0, .int .i64 a2_1, .int .i64 a2_2, .int .i64 a2_3] 46 (0, 0)) (by (with_reducible repeat (first | refine bN ?_ _ | refine bD ?_ | refine bA ?_ _)); exact BK376.out) hb); have n1_ := ak (blk_below (g := gb377) (o := .cells #[.int .i64 a2_0, .int .i64 a2_1] 24 (0, 0)) (by (with_reducible repeat (first | refine bN ?_ _ | refine bD ?_ | refine bA ?_ _)); exact BK377.out) hb); have n2_ := ak (blk_below (g := gb378) (o := .cells #[.int .i64 a2_2, .int .i64 a2_3] 24 (0, 0)) (by (with_reducible repeat (first | refine bN ?_ _ | refine bD ?_ | refine bA ?_ _)); exact BK378.out) hb); have n3_ := ak (below_step (by repeat (first | (with_reducible first | exact HB.out | apply wA | apply wN | apply wD | refine below_set ?_ GE376.out | refine below_set ?_ GE377.out | refine below_set ?_ GE378.out) | exact HB.out)) hb); clear BK376; clear BK377; clear BK378; clear HB; have BK376 := n0_; have BK377 := n1_; have BK378 := n2_; have HB := n3_; clear n0_ n1_ n2_ n3_; (try clear hb); (try clear hb2); (try clear hk); (try clear hi)) | ((with_reducible refine gate_dst (N := 10) rfl ?_); (try (refine gate_guard (by rfl) ?_; dsimp only)); refine box_event ?hg (N := 10) ?hd (cs := #[.int .i64 0, .int .i64 0]) (t := 24) ?hr ?_; (case hd => rfl); (case hg => rfl); (case hr => first | (go_simp; done) | (go_simp; rfl)); intro gb388 hg w197 hbox hb; have n0_ := ak (blk_below (g := gb376) (o := .cells #[.int .i64 a2_0, .int .i64 a2_1, .int .i64 a2_2, .int .i64 a2_3] 46 (0, 0)) (by (with_reducible repeat (first | refine bN ?_ _ | refine bD ?_ | refine bA ?_ _)); exact BK376.out) hb); have n1_ := ak (blk_below (g := gb377) (o := .cells #[.int .i64 a2_0, .int .i64 a2_1] 24 (0, 0)) (by (with_reducible repeat (first | refine bN ?_ _ | refine bD ?_ | refine bA ?_ _)); exact BK377.out) hb); have n2_ := ak (blk_below (g := gb378) (o := .cells #[.int .i64 a2_2, .int .i64 a2_3] 24 (0, 0)) (by (with_reducible repeat (first | refine bN ?_ _ | refine bD ?_ | refine bA ?_ _)); exact BK378.out) hb); have n3_ := ak (below_step (by repeat (first | (with_reducible first | exact HB.out | apply wA | apply wN | apply wD | refine below_set ?_ GE376.out | refine below_set ?_ GE377.out | refine below_set ?_ GE378.out) | exact HB.out)) hb); have n4_ := ak (hbox); have n5_ := ak ((by rw [hg]; exact (below_size (by repeat (first | (with_reducible first | exact HB.out | apply wA | apply wN | apply wD | refine below_set ?_ GE376.out | refine below_set ?_ GE377.out | refine below_set ?_ GE378.out) | exact HB.out))) : w.heap.size ≤ gb388)); have n6_ := ak ((by rw [hg]; exact (below_size (by repeat (first | (with_reducible first | exact HB.out | apply wA | apply wN | apply wD | refine below_set ?_ GE376.out | refine below_set ?_ GE377.out | refine below_set ?_ GE378.out) | exact HB.out))) : w.heap.size ≤ gb388)); have n7_ := ak ((by rw [hg]; exact Nat.ne_of_lt (blk_lt (g := gb376) (o := .cells #[.int .i64 a2_0, .int .i64 a2_1, .int .i64 a2_2, .int .i64 a2_3] 46 (0, 0)) (by (with_reducible repeat (first | refine bN ?_ _ | refine bD ?_ | refine bA ?_ _)); exact BK376.out)) : gb376 ≠ gb388)); have n8_ := ak ((by rw [hg]; exact Nat.ne_of_gt (blk_lt (g := gb376) (o := .cells #[.int .i64 a2_0, .int .i64 a2_1, .int .i64 a2_2, .int .i64 a2_3] 46 (0, 0)) (by (with_reducible repeat (first | refine bN ?_ _ | refine bD ?_ | refine bA ?_ _)); exact BK376.out)) : gb388 ≠ gb376)); have n9_ := ak ((by rw [hg]; exact Nat.ne_of_lt (blk_lt (g := gb377) (o := .cells #[.int .i64 a2_0, .int .i64 a2_1] 24 (0, 0)) (by (with_reducible repeat (first | refine bN ?_ _ | refine bD ?_ | refine bA ?_ _)); exact BK377.out)) : gb377 ≠ gb388)); have n10_ := ak ((by rw [hg]; exact Nat.ne_of_gt (blk_lt (g := gb377) (o := .cells #[.int .i64 a2_0, .int .i64 a2_1] 24 (0, 0)) (by (with_reducible repeat (first | refine bN ?_ _ | refine bD ?_ | refine bA ?_ _)); exact BK377.out)) : gb388 ≠ gb377)); have n11_ := ak ((by rw [hg]; exact Nat.ne_of_lt (blk_lt (g := gb378) (o := .cells #[.int .i64 a2_2, .int .i64 a2_3] 24 (0, 0)) (by (with_reducible repeat (first | refine bN ?_ _ | refine bD ?_ | refine bA ?_ _)); exact BK378.out)) : gb378 ≠ gb388)); have n12_ := ak ((by rw [hg]; exact Nat.ne_of_gt (blk_lt (g := gb378) (o := .cells #[.int .i64 a2_2, .int .i64 a2_3] 24 (0, 0)) (by (with_reducible repeat (first | refine bN ?_ _ | refine bD ?_ | refine bA ?_ _)); exact BK378.out)) : gb388 ≠ gb378)); clear BK376; clear BK377; clear BK378; clear HB; have BK376 := n0_; have BK377 := n1_; have BK378 := n2_; have HB := n3_; have BK388 := n4_; have GW388 := n5_; have GE388 := n6_; have NB376_388 := n7_; have NB388_376 := n8_; have NB377_388 := n9_; have NB388_377 := n10_; have NB378_388 := n11_; have NB388_378 := n12_; clear n0_ n1_ n2_ n3_ n4_ n5_ n6_ n7_ n8_ n9_ n10_ n11_ n12_; clear hb hbox hg; have hnb198 := NB388_376.out; have hnc198 := NB376_388.out; have hnb199 := NB388_377.out; have hnc199 := NB377_388.out; have hnb200 := NB388_378.out; have hnc200 := NB378_388.out; have hcz201_0 : w197.cell? ⟨gb388, 0, none⟩ = some (.int .i64 0) := (blk_cell BK388.out 0).trans rfl; have hcz201_1 : w197.cell? ⟨gb388, 1, none⟩ = some (.int .i64 0) := (blk_cell BK388.out 1).trans rfl; have hfz201_0 := blk_frozen BK388.out 0; have hfz201_1 := blk_frozen BK388.out 1; have hcz202_0 : w197.cell? ⟨gb377, 0, none⟩ = some (.int .i64 a2_0) := (blk_cell BK377.out 0).trans rfl; have hcz202_1 : w197.cell? ⟨gb377, 1, none⟩ = some (.int .i64 a2_1) := (blk_cell BK377.out 1).trans rfl; have hfz202_0 := blk_frozen BK377.out 0; have hfz202_1 := blk_frozen BK377.out 1; have hcz203_0 : w197.cell? ⟨gb378, 0, none⟩ = some (.int .i64 a2_2) := (blk_cell BK378.out 0).trans rfl; have hcz203_1 : w197.cell? ⟨gb378, 1, none⟩ = some (.int .i64 a2_3) := (blk_cell BK378.out 1).trans rfl; have hfz203_0 := blk_frozen BK378.out 0; have hfz203_1 := blk_frozen BK378.out 1) | (go_at_call 12; (with_reducible refine (mummerlaw03_awake.calls kj3  t390 _ hrt A182.out ⟨Sc.Tab.stay HT.out (by repeat (first | (with_reducible first | exact HB.out | apply wA | apply wN | apply wD) | exact HB.out | (refine below_set ?_ (by assumption)) | (refine below_set ?_ (Aside0.out (by assumption)))))⟩).mono ?_); rintro e w204 ⟨rfl, hb⟩; have n0_ := ak (blk_below (g := gb376) (o := .cells #[.int .i64 a2_0, .int .i64 a2_1, .int .i64 a2_2, .int .i64 a2_3] 46 (0, 0)) (by (with_reducible repeat (first | refine bN ?_ _ | refine bD ?_ | refine bA ?_ _)); refine blk_far ?_ NB376_388.out _; (with_reducible repeat (first | refine bN ?_ _ | refine bD ?_ | refine bA ?_ _)); refine blk_far ?_ NB376_388.out _; (with_reducible repeat (first | refine bN ?_ _ | refine bD ?_ | refine bA ?_ _)); exact BK376.out) hb); have n1_ := ak (blk_below (g := gb377) (o := .cells #[.int .i64 a2_0, .int .i64 a2_1] 24 (0, 0)) (by (with_reducible repeat (first | refine bN ?_ _ | refine bD ?_ | refine bA ?_ _)); refine blk_far ?_ NB377_388.out _; (with_reducible repeat (first | refine bN ?_ _ | refine bD ?_ | refine bA ?_ _)); refine blk_far ?_ NB377_388.out _; (with_reducible repeat (first | refine bN ?_ _ | refine bD ?_ | refine bA ?_ _)); exact BK377.out) hb); have n2_ := ak (blk_below (g := gb378) (o := .cells #[.int .i64 a2_2, .int .i64 a2_3] 24 (0, 0)) (by (with_reducible repeat (first | refine bN ?_ _ | refine bD ?_ | refine bA ?_ _)); refine blk_far ?_ NB378_388.out _; (with_reducible repeat (first | refine bN ?_ _ | refine bD ?_ | refine bA ?_ _)); refine blk_far ?_ NB378_388.out _; (with_reducible repeat (first | refine bN ?_ _ | refine bD ?_ | refine bA ?_ _)); exact BK378.out) hb); have n3_ := ak (blk_below (g := gb388) (o := .cells #[.int .i64 t385, .int .i64 t386] 24 (0, 0)) (by (with_reducible repeat (first | refine bN ?_ _ | refine bD ?_ | refine bA ?_ _)); refine blk_put (cs := #[.int .i64 t385, .int .i64 0]) ?_ 1 _ rfl; (with_reducible repeat (first | refine bN ?_ _ | refine bD ?_ | refine bA ?_ _)); refine blk_put (cs := #[.int .i64 0, .int .i64 0]) ?_ 0 _ rfl; (with_reducible repeat (first | refine bN ?_ _ | refine bD ?_ | refine bA ?_ _)); exact BK388.out) hb); have n4_ := ak (below_step (by repeat (first | (with_reducible first | exact HB.out | apply wA | apply wN | apply wD | refine below_set ?_ GE376.out | refine below_set ?_ GE377.out | refine below_set ?_ GE378.out | refine below_set ?_ GE388.out) | exact HB.out)) hb); clear BK376; clear BK377; clear BK378; clear BK388; clear HB; have BK376 := n0_; have BK377 := n1_; have BK378 := n2_; have BK388 := n3_; have HB := n4_; clear n0_ n1_ n2_ n3_ n4_; (try clear hb); (try clear hb2); (try clear hk); (try clear hi)))
                     go_ret
                     exact ⟨by first | rfl | (simp [errW_none, errW_some] <;> rfl) | (simp only [← hji152, ← hji153]; first | rfl | (simp [errW_none, errW_some] <;> rfl)) | (simp [*, errW_none, errW_some] <;> rfl), by repeat (first | (with_reducible first | exact HB.out | apply wA | apply wN | apply wD | refine below_set ?_ GE376.out | refine below_set ?_ GE377.out | refine below_set ?_ GE378.out | refine below_set ?_ GE388.out) | exact HB.out)⟩
                    ·rw [if_neg c181] at H
                     have c181b0 : decide (a2_1 < a2_3) = false := decide_eq_false c181
                     clear c181
                     exact absurd ((Option.some.inj H).trans hrt.out) (by decide)
                   ·rw [if_neg c180] at H
                    have c180b0 : (t387 == 4) = false := beq_eq_false_iff_ne.mpr c180
                    have c180b1 : (t387 != 4) = true := bne_iff_ne.mpr c180
                    exact absurd ((Option.some.inj H).trans hrt.out) (by decide)
                 ·rw [if_neg c154] at H
                  have c154b0 : decide ((ji152) < (ji153)) = false := decide_eq_false c154
                  clear c154
                  by_cases c205 : t387 = 4
                  ·rw [if_pos c205] at H
                   have c205b0 : (t387 == 4) = true := beq_iff_eq.mpr c205
                   have c205b1 : (t387 != 4) = false := bne_eq_false_iff_eq.mpr c205
                   clear c205
                   exact absurd ((Option.some.inj H).trans hrt.out) (by decide)
                  ·rw [if_neg c205] at H
                   have c205b0 : (t387 == 4) = false := beq_eq_false_iff_ne.mpr c205
                   have c205b1 : (t387 != 4) = true := bne_iff_ne.mpr c205
                   exact absurd ((Option.some.inj H).trans hrt.out) (by decide)
               ·rw [if_neg c53] at H
                exact absurd H (by simp)
              ·rw [if_neg c52] at H
               exact absurd H (by simp)
             ·rw [if_neg c51] at H
              exact absurd H (by simp)
            ·rw [if_neg c50] at H
             exact absurd H (by simp)
           ·rw [if_neg c49] at H
            exact absurd H (by simp)
          ·rw [if_neg c48] at H
           exact absurd H (by simp)
end Go.Proofs.YtnkfdobcmfdhfaaDoor.P
namespace Go.Proofs.YtnkfdobcmfdhfaaDoor.P
open Go.RowKit Go.Proofs.YtnkfdobcmfdhfaaDoorW.PrintWords Go.Proofs.YtnkfdobcmfdhfaaDoorW.PrintLast Sc
set_option linter.unusedVariables false
set_option linter.unusedSimpArgs false
set_option maxRecDepth 20000
theorem awake60 : mummerlaw03_awake.f 60 = some true := by decide +kernel
theorem awake_f (k : Nat) (h : 60 ≤ k) : mummerlaw03_awake.f k = some true := by
  induction h with
  | refl => exact awake60
  | step _ ih => exact mummerlaw03_awake.mono _ _ ih
end Go.Proofs.YtnkfdobcmfdhfaaDoor.P
