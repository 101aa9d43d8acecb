import Derived.Test.YtnkfdobcmfdhfaaDoorKP26
import Derived.Test.YtnkfdobcmfdhfaaDoorKP28
namespace Go.Proofs.YtnkfdobcmfdhfaaDoor.P
open Go.RowKit Go.Proofs.YtnkfdobcmfdhfaaDoorW.PrintWords Go.Proofs.YtnkfdobcmfdhfaaDoorW.PrintLast Go.Proofs.YtnkfdobcmfdhfaaDoorW.PrintMore
attribute [local go_sem] max2_int min2_int max_two min_two max_three min_three max_four min_four   -- for this text's walks alone
set_option linter.unusedVariables false
set_option linter.unusedSimpArgs false
def mummerref03_Within.f (a0_0 : Int) (a0_1 : Int) (a1_0 : Int) (a1_1 : Int) : Option (Bool × Int) := (mummerref03_is.f a0_0 a0_1).bind fun t561 => (if t561 = true then ((mummerref03_is.f a1_0 a1_1).bind fun t562 => (if t562 = true then ((mummerref03_within.f a0_0 a0_1 a1_0 a1_1).bind fun t563 => (some (t563, 0))) else (some (false, 6)))) else (some (false, 6)))
set_option maxHeartbeats 8000000 in
set_option maxRecDepth 100000 in
theorem mummerref03_Within.calls (a0_0 : Int) (a0_1 : Int) (a1_0 : Int) (a1_1 : Int) (r1 : Bool) (r2 : Int) (w : World) (h : mummerref03_Within.f a0_0 a0_1 a1_0 a1_1 = some (r1, r2)) :
    Calls Tryd.prog 37 #[.agg #[.int .i64 a0_0, .int .i64 a0_1], .agg #[.int .i64 a1_0, .int .i64 a1_1]] w fun e w' => e = .returned (.tuple #[.bool r1, .int .i64 r2]) ∧ Below w.heap.size w w' := by
  have hu24 := Tryd.underlying24
  have HB := ak (Below.refl w.heap.size w)
  have H : ((mummerref03_is.f a0_0 a0_1).bind fun t561 => (if t561 = true then ((mummerref03_is.f a1_0 a1_1).bind fun t562 => (if t562 = true then ((mummerref03_within.f a0_0 a0_1 a1_0 a1_1).bind fun t563 => (some (t563, 0))) else (some (false, 6)))) else (some (false, 6)))) = some (r1, r2) := h
  clear h
  replace H := Option.bind_eq_some_iff.mp H
  obtain ⟨t561, A30, H⟩ := H
  replace H : (if t561 = true then ((mummerref03_is.f a1_0 a1_1).bind fun t562 => (if t562 = true then ((mummerref03_within.f a0_0 a0_1 a1_0 a1_1).bind fun t563 => (some (t563, 0))) else (some (false, 6)))) else (some (false, 6))) = some (r1, r2) := H
  have A3 := ak A30
  clear A30
  by_cases c4 : t561 = true
  · subst c4
    have H1 : ((mummerref03_is.f a1_0 a1_1).bind fun t562 => (if t562 = true then ((mummerref03_within.f a0_0 a0_1 a1_0 a1_1).bind fun t563 => (some (t563, 0))) else (some (false, 6)))) = some (r1, r2) := by rw [if_pos rfl] at H; exact H
    clear H
    have H := H1
    clear H1
    replace H := Option.bind_eq_some_iff.mp H
    obtain ⟨t562, A50, H⟩ := H
    replace H : (if t562 = true then ((mummerref03_within.f a0_0 a0_1 a1_0 a1_1).bind fun t563 => (some (t563, 0))) else (some (false, 6))) = some (r1, r2) := H
    have A5 := ak A50
    clear A50
    by_cases c6 : t562 = true
    · subst c6
      have H1 : ((mummerref03_within.f a0_0 a0_1 a1_0 a1_1).bind fun t563 => (some (t563, 0))) = some (r1, r2) := by rw [if_pos rfl] at H; exact H
      clear H
      have H := H1
      clear H1
      replace H := Option.bind_eq_some_iff.mp H
      obtain ⟨t563, A70, H⟩ := H
      replace H : (some (t563, 0)) = some (r1, r2) := H
      have A7 := ak A70
      clear A70
      simp only [Option.some.injEq, Prod.mk.injEq] at H
      obtain ⟨rfl, rfl⟩ := H
      go_enter Tryd.func37, Tryd.ntmps37
      go_wp2_with (first | ((with_reducible refine gate_dst (N := 2) rfl ?_); refine box_event ?hg (N := 2) ?hd (cs := #[.int .i64 a0_0, .int .i64 a0_1]) (t := 24) ?hr ?_; (case hd => rfl); (case hg => rfl); (case hr => first | (go_simp; done) | (go_simp; rfl)); intro gb559 hg w8 hbox hb; have n0_ := ak (below_step (by repeat (first | (with_reducible first | exact HB.out | apply wA | apply wN | apply wD) | exact HB.out)) hb); have n1_ := ak (hbox); have n2_ := ak ((by rw [hg]; exact (below_size (by repeat (first | (with_reducible first | exact HB.out | apply wA | apply wN | apply wD) | exact HB.out))) : w.heap.size ≤ gb559)); have n3_ := ak ((by rw [hg]; exact (below_size (by repeat (first | (with_reducible first | exact HB.out | apply wA | apply wN | apply wD) | exact HB.out))) : w.heap.size ≤ gb559)); clear HB; have HB := n0_; have BK559 := n1_; have GW559 := n2_; have GE559 := n3_; clear n0_ n1_ n2_ n3_; clear hb hbox hg) | ((with_reducible refine gate_dst (N := 3) rfl ?_); refine box_event ?hg (N := 3) ?hd (cs := #[.int .i64 a1_0, .int .i64 a1_1]) (t := 24) ?hr ?_; (case hd => rfl); (case hg => rfl); (case hr => first | (go_simp; done) | (go_simp; rfl)); intro gb560 hg w9 hbox hb; have n0_ := ak (blk_below (g := gb559) (o := .cells #[.int .i64 a0_0, .int .i64 a0_1] 24 (0, 0)) (by (with_reducible repeat (first | refine bN ?_ _ | refine bD ?_ | refine bA ?_ _)); exact BK559.out) hb); have n1_ := ak (below_step (by repeat (first | (with_reducible first | exact HB.out | apply wA | apply wN | apply wD | refine below_set ?_ GE559.out) | exact HB.out)) hb); have n2_ := ak (hbox); have n3_ := ak ((by rw [hg]; exact (below_size (by repeat (first | (with_reducible first | exact HB.out | apply wA | apply wN | apply wD | refine below_set ?_ GE559.out) | exact HB.out))) : w.heap.size ≤ gb560)); have n4_ := ak ((by rw [hg]; exact (below_size (by repeat (first | (with_reducible first | exact HB.out | apply wA | apply wN | apply wD | refine below_set ?_ GE559.out) | exact HB.out))) : w.heap.size ≤ gb560)); have n5_ := ak ((by rw [hg]; exact Nat.ne_of_lt (blk_lt (g := gb559) (o := .cells #[.int .i64 a0_0, .int .i64 a0_1] 24 (0, 0)) (by (with_reducible repeat (first | refine bN ?_ _ | refine bD ?_ | refine bA ?_ _)); exact BK559.out)) : gb559 ≠ gb560)); have n6_ := ak ((by rw [hg]; exact Nat.ne_of_gt (blk_lt (g := gb559) (o := .cells #[.int .i64 a0_0, .int .i64 a0_1] 24 (0, 0)) (by (with_reducible repeat (first | refine bN ?_ _ | refine bD ?_ | refine bA ?_ _)); exact BK559.out)) : gb560 ≠ gb559)); clear BK559; clear HB; have BK559 := n0_; have HB := n1_; have BK560 := n2_; have GW560 := n3_; have GE560 := n4_; have NB559_560 := n5_; have NB560_559 := n6_; clear n0_ n1_ n2_ n3_ n4_ n5_ n6_; clear hb hbox hg; have hnb10 := NB559_560.out; have hnc10 := NB560_559.out; have hcz11_0 : w9.cell? ⟨gb559, 0, none⟩ = some (.int .i64 a0_0) := (blk_cell BK559.out 0).trans rfl; have hcz11_1 : w9.cell? ⟨gb559, 1, none⟩ = some (.int .i64 a0_1) := (blk_cell BK559.out 1).trans rfl; have hfz11_0 := blk_frozen BK559.out 0; have hfz11_1 := blk_frozen BK559.out 1) | ((with_reducible refine gate_callee (f := 43) rfl ?_); refine goesL_ (some 7) rfl rfl Tryd.func43 (by kernel_rfl) rfl #[.agg #[.int .i64 a0_0, .int .i64 a0_1]] rfl (by (try simp only [List.map_toArray, List.map_cons, List.map_nil]); first | done | rfl | (simp only [List.length_drop, List.length_take]; rfl)) ?_; (with_reducible refine (mummerref03_is.calls a0_0 a0_1 true _ A3.out).mono ?_); rintro e w12 ⟨rfl, hb⟩; refine ⟨_, rfl, ?_⟩; have n0_ := ak (blk_below (g := gb559) (o := .cells #[.int .i64 a0_0, .int .i64 a0_1] 24 (0, 0)) (by (with_reducible repeat (first | refine bN ?_ _ | refine bD ?_ | refine bA ?_ _)); exact BK559.out) hb); have n1_ := ak (blk_below (g := gb560) (o := .cells #[.int .i64 a1_0, .int .i64 a1_1] 24 (0, 0)) (by (with_reducible repeat (first | refine bN ?_ _ | refine bD ?_ | refine bA ?_ _)); exact BK560.out) hb); have n2_ := ak (below_step (by repeat (first | (with_reducible first | exact HB.out | apply wA | apply wN | apply wD | refine below_set ?_ GE559.out | refine below_set ?_ GE560.out) | exact HB.out)) hb); clear BK559; clear BK560; clear HB; have BK559 := n0_; have BK560 := n1_; have HB := n2_; clear n0_ n1_ n2_; (try clear hb); (try clear hb2); (try clear hk); (try clear hi); have hcz13_0 : w12.cell? ⟨gb560, 0, none⟩ = some (.int .i64 a1_0) := (blk_cell BK560.out 0).trans rfl; have hcz13_1 : w12.cell? ⟨gb560, 1, none⟩ = some (.int .i64 a1_1) := (blk_cell BK560.out 1).trans rfl; have hfz13_0 := blk_frozen BK560.out 0; have hfz13_1 := blk_frozen BK560.out 1) | (go_at_call 43; (with_reducible refine (mummerref03_is.calls a1_0 a1_1 true _ A5.out).mono ?_); rintro e w14 ⟨rfl, hb⟩; have n0_ := ak (blk_below (g := gb559) (o := .cells #[.int .i64 a0_0, .int .i64 a0_1] 24 (0, 0)) (by (with_reducible repeat (first | refine bN ?_ _ | refine bD ?_ | refine bA ?_ _)); exact BK559.out) hb); have n1_ := ak (blk_below (g := gb560) (o := .cells #[.int .i64 a1_0, .int .i64 a1_1] 24 (0, 0)) (by (with_reducible repeat (first | refine bN ?_ _ | refine bD ?_ | refine bA ?_ _)); exact BK560.out) hb); have n2_ := ak (below_step (by repeat (first | (with_reducible first | exact HB.out | apply wA | apply wN | apply wD | refine below_set ?_ GE559.out | refine below_set ?_ GE560.out) | exact HB.out)) hb); clear BK559; clear BK560; clear HB; have BK559 := n0_; have BK560 := n1_; have HB := n2_; clear n0_ n1_ n2_; (try clear hb); (try clear hb2); (try clear hk); (try clear hi); have hcz15_0 : w14.cell? ⟨gb559, 0, none⟩ = some (.int .i64 a0_0) := (blk_cell BK559.out 0).trans rfl; have hcz15_1 : w14.cell? ⟨gb559, 1, none⟩ = some (.int .i64 a0_1) := (blk_cell BK559.out 1).trans rfl; have hfz15_0 := blk_frozen BK559.out 0; have hfz15_1 := blk_frozen BK559.out 1; have hcz16_0 : w14.cell? ⟨gb560, 0, none⟩ = some (.int .i64 a1_0) := (blk_cell BK560.out 0).trans rfl; have hcz16_1 : w14.cell? ⟨gb560, 1, none⟩ = some (.int .i64 a1_1) := (blk_cell BK560.out 1).trans rfl; have hfz16_0 := blk_frozen BK560.out 0; have hfz16_1 := blk_frozen BK560.out 1) | ((with_reducible refine gate_callee (f := 45) rfl ?_); refine goesL_ (some 16) rfl rfl Tryd.func45 (by kernel_rfl) rfl #[.agg #[.int .i64 a0_0, .int .i64 a0_1], .agg #[.int .i64 a1_0, .int .i64 a1_1]] rfl (by (try simp only [List.map_toArray, List.map_cons, List.map_nil]); first | done | rfl | (simp only [List.length_drop, List.length_take]; rfl)) ?_; (with_reducible refine (mummerref03_within.calls a0_0 a0_1 a1_0 a1_1 t563 _ A7.out).mono ?_); rintro e w17 ⟨rfl, hb⟩; refine ⟨_, rfl, ?_⟩; have n0_ := ak (blk_below (g := gb559) (o := .cells #[.int .i64 a0_0, .int .i64 a0_1] 24 (0, 0)) (by (with_reducible repeat (first | refine bN ?_ _ | refine bD ?_ | refine bA ?_ _)); exact BK559.out) hb); have n1_ := ak (blk_below (g := gb560) (o := .cells #[.int .i64 a1_0, .int .i64 a1_1] 24 (0, 0)) (by (with_reducible repeat (first | refine bN ?_ _ | refine bD ?_ | refine bA ?_ _)); exact BK560.out) hb); have n2_ := ak (below_step (by repeat (first | (with_reducible first | exact HB.out | apply wA | apply wN | apply wD | refine below_set ?_ GE559.out | refine below_set ?_ GE560.out) | exact HB.out)) hb); clear BK559; clear BK560; clear HB; have BK559 := n0_; have BK560 := n1_; have HB := n2_; clear n0_ n1_ n2_; (try clear hb); (try clear hb2); (try clear hk); (try clear hi)))
      go_ret2
      exact ⟨by first | rfl | (simp [errW_none, errW_some] <;> rfl) | (simp [*, errW_none, errW_some] <;> rfl), by repeat (first | (with_reducible first | exact HB.out | apply wA | apply wN | apply wD | refine below_set ?_ GE559.out | refine below_set ?_ GE560.out) | exact HB.out)⟩
    · replace c6 := Bool.eq_false_iff.mpr c6
      subst c6
      have H1 : (some (false, 6)) = some (r1, r2) := by rw [if_neg (show ¬ (false = true) by decide)] at H; exact H
      clear H
      have H := H1
      clear H1
      simp only [Option.some.injEq, Prod.mk.injEq] at H
      obtain ⟨rfl, rfl⟩ := H
      go_enter Tryd.func37, Tryd.ntmps37
      go_wp2_with (first | ((with_reducible refine gate_dst (N := 2) rfl ?_); refine box_event ?hg (N := 2) ?hd (cs := #[.int .i64 a0_0, .int .i64 a0_1]) (t := 24) ?hr ?_; (case hd => rfl); (case hg => rfl); (case hr => first | (go_simp; done) | (go_simp; rfl)); intro gb559 hg w18 hbox hb; have n0_ := ak (below_step (by repeat (first | (with_reducible first | exact HB.out | apply wA | apply wN | apply wD) | exact HB.out)) hb); have n1_ := ak (hbox); have n2_ := ak ((by rw [hg]; exact (below_size (by repeat (first | (with_reducible first | exact HB.out | apply wA | apply wN | apply wD) | exact HB.out))) : w.heap.size ≤ gb559)); have n3_ := ak ((by rw [hg]; exact (below_size (by repeat (first | (with_reducible first | exact HB.out | apply wA | apply wN | apply wD) | exact HB.out))) : w.heap.size ≤ gb559)); clear HB; have HB := n0_; have BK559 := n1_; have GW559 := n2_; have GE559 := n3_; clear n0_ n1_ n2_ n3_; clear hb hbox hg) | ((with_reducible refine gate_dst (N := 3) rfl ?_); refine box_event ?hg (N := 3) ?hd (cs := #[.int .i64 a1_0, .int .i64 a1_1]) (t := 24) ?hr ?_; (case hd => rfl); (case hg => rfl); (case hr => first | (go_simp; done) | (go_simp; rfl)); intro gb560 hg w19 hbox hb; have n0_ := ak (blk_below (g := gb559) (o := .cells #[.int .i64 a0_0, .int .i64 a0_1] 24 (0, 0)) (by (with_reducible repeat (first | refine bN ?_ _ | refine bD ?_ | refine bA ?_ _)); exact BK559.out) hb); have n1_ := ak (below_step (by repeat (first | (with_reducible first | exact HB.out | apply wA | apply wN | apply wD | refine below_set ?_ GE559.out) | exact HB.out)) hb); have n2_ := ak (hbox); have n3_ := ak ((by rw [hg]; exact (below_size (by repeat (first | (with_reducible first | exact HB.out | apply wA | apply wN | apply wD | refine below_set ?_ GE559.out) | exact HB.out))) : w.heap.size ≤ gb560)); have n4_ := ak ((by rw [hg]; exact (below_size (by repeat (first | (with_reducible first | exact HB.out | apply wA | apply wN | apply wD | refine below_set ?_ GE559.out) | exact HB.out))) : w.heap.size ≤ gb560)); have n5_ := ak ((by rw [hg]; exact Nat.ne_of_lt (blk_lt (g := gb559) (o := .cells #[.int .i64 a0_0, .int .i64 a0_1] 24 (0, 0)) (by (with_reducible repeat (first | refine bN ?_ _ | refine bD ?_ | refine bA ?_ _)); exact BK559.out)) : gb559 ≠ gb560)); have n6_ := ak ((by rw [hg]; exact Nat.ne_of_gt (blk_lt (g := gb559) (o := .cells #[.int .i64 a0_0, .int .i64 a0_1] 24 (0, 0)) (by (with_reducible repeat (first | refine bN ?_ _ | refine bD ?_ | refine bA ?_ _)); exact BK559.out)) : gb560 ≠ gb559)); clear BK559; clear HB; have BK559 := n0_; have HB := n1_; have BK560 := n2_; have GW560 := n3_; have GE560 := n4_; have NB559_560 := n5_; have NB560_559 := n6_; clear n0_ n1_ n2_ n3_ n4_ n5_ n6_; clear hb hbox hg; have hnb20 := NB559_560.out; have hnc20 := NB560_559.out; have hcz21_0 : w19.cell? ⟨gb559, 0, none⟩ = some (.int .i64 a0_0) := (blk_cell BK559.out 0).trans rfl; have hcz21_1 : w19.cell? ⟨gb559, 1, none⟩ = some (.int .i64 a0_1) := (blk_cell BK559.out 1).trans rfl; have hfz21_0 := blk_frozen BK559.out 0; have hfz21_1 := blk_frozen BK559.out 1) | ((with_reducible refine gate_callee (f := 43) rfl ?_); refine goesL_ (some 7) rfl rfl Tryd.func43 (by kernel_rfl) rfl #[.agg #[.int .i64 a0_0, .int .i64 a0_1]] rfl (by (try simp only [List.map_toArray, List.map_cons, List.map_nil]); first | done | rfl | (simp only [List.length_drop, List.length_take]; rfl)) ?_; (with_reducible refine (mummerref03_is.calls a0_0 a0_1 true _ A3.out).mono ?_); rintro e w22 ⟨rfl, hb⟩; refine ⟨_, rfl, ?_⟩; have n0_ := ak (blk_below (g := gb559) (o := .cells #[.int .i64 a0_0, .int .i64 a0_1] 24 (0, 0)) (by (with_reducible repeat (first | refine bN ?_ _ | refine bD ?_ | refine bA ?_ _)); exact BK559.out) hb); have n1_ := ak (blk_below (g := gb560) (o := .cells #[.int .i64 a1_0, .int .i64 a1_1] 24 (0, 0)) (by (with_reducible repeat (first | refine bN ?_ _ | refine bD ?_ | refine bA ?_ _)); exact BK560.out) hb); have n2_ := ak (below_step (by repeat (first | (with_reducible first | exact HB.out | apply wA | apply wN | apply wD | refine below_set ?_ GE559.out | refine below_set ?_ GE560.out) | exact HB.out)) hb); clear BK559; clear BK560; clear HB; have BK559 := n0_; have BK560 := n1_; have HB := n2_; clear n0_ n1_ n2_; (try clear hb); (try clear hb2); (try clear hk); (try clear hi); have hcz23_0 : w22.cell? ⟨gb560, 0, none⟩ = some (.int .i64 a1_0) := (blk_cell BK560.out 0).trans rfl; have hcz23_1 : w22.cell? ⟨gb560, 1, none⟩ = some (.int .i64 a1_1) := (blk_cell BK560.out 1).trans rfl; have hfz23_0 := blk_frozen BK560.out 0; have hfz23_1 := blk_frozen BK560.out 1) | (go_at_call 43; (with_reducible refine (mummerref03_is.calls a1_0 a1_1 false _ A5.out).mono ?_); rintro e w24 ⟨rfl, hb⟩; have n0_ := ak (blk_below (g := gb559) (o := .cells #[.int .i64 a0_0, .int .i64 a0_1] 24 (0, 0)) (by (with_reducible repeat (first | refine bN ?_ _ | refine bD ?_ | refine bA ?_ _)); exact BK559.out) hb); have n1_ := ak (blk_below (g := gb560) (o := .cells #[.int .i64 a1_0, .int .i64 a1_1] 24 (0, 0)) (by (with_reducible repeat (first | refine bN ?_ _ | refine bD ?_ | refine bA ?_ _)); exact BK560.out) hb); have n2_ := ak (below_step (by repeat (first | (with_reducible first | exact HB.out | apply wA | apply wN | apply wD | refine below_set ?_ GE559.out | refine below_set ?_ GE560.out) | exact HB.out)) hb); clear BK559; clear BK560; clear HB; have BK559 := n0_; have BK560 := n1_; have HB := n2_; clear n0_ n1_ n2_; (try clear hb); (try clear hb2); (try clear hk); (try clear hi)))
      go_ret2
      exact ⟨by first | rfl | (simp [errW_none, errW_some] <;> rfl) | (simp [*, errW_none, errW_some] <;> rfl), by repeat (first | (with_reducible first | exact HB.out | apply wA | apply wN | apply wD | refine below_set ?_ GE559.out | refine below_set ?_ GE560.out) | exact HB.out)⟩
  · replace c4 := Bool.eq_false_iff.mpr c4
    subst c4
    have H1 : (some (false, 6)) = some (r1, r2) := by rw [if_neg (show ¬ (false = true) by decide)] at H; exact H
    clear H
    have H := H1
    clear H1
    simp only [Option.some.injEq, Prod.mk.injEq] at H
    obtain ⟨rfl, rfl⟩ := H
    go_enter Tryd.func37, Tryd.ntmps37
    go_wp2_with (first | ((with_reducible refine gate_dst (N := 2) rfl ?_); refine box_event ?hg (N := 2) ?hd (cs := #[.int .i64 a0_0, .int .i64 a0_1]) (t := 24) ?hr ?_; (case hd => rfl); (case hg => rfl); (case hr => first | (go_simp; done) | (go_simp; rfl)); intro gb559 hg w25 hbox hb; have n0_ := ak (below_step (by repeat (first | (with_reducible first | exact HB.out | apply wA | apply wN | apply wD) | exact HB.out)) hb); have n1_ := ak (hbox); have n2_ := ak ((by rw [hg]; exact (below_size (by repeat (first | (with_reducible first | exact HB.out | apply wA | apply wN | apply wD) | exact HB.out))) : w.heap.size ≤ gb559)); have n3_ := ak ((by rw [hg]; exact (below_size (by repeat (first | (with_reducible first | exact HB.out | apply wA | apply wN | apply wD) | exact HB.out))) : w.heap.size ≤ gb559)); clear HB; have HB := n0_; have BK559 := n1_; have GW559 := n2_; have GE559 := n3_; clear n0_ n1_ n2_ n3_; clear hb hbox hg) | ((with_reducible refine gate_dst (N := 3) rfl ?_); refine box_event ?hg (N := 3) ?hd (cs := #[.int .i64 a1_0, .int .i64 a1_1]) (t := 24) ?hr ?_; (case hd => rfl); (case hg => rfl); (case hr => first | (go_simp; done) | (go_simp; rfl)); intro gb560 hg w26 hbox hb; have n0_ := ak (blk_below (g := gb559) (o := .cells #[.int .i64 a0_0, .int .i64 a0_1] 24 (0, 0)) (by (with_reducible repeat (first | refine bN ?_ _ | refine bD ?_ | refine bA ?_ _)); exact BK559.out) hb); have n1_ := ak (below_step (by repeat (first | (with_reducible first | exact HB.out | apply wA | apply wN | apply wD | refine below_set ?_ GE559.out) | exact HB.out)) hb); have n2_ := ak (hbox); have n3_ := ak ((by rw [hg]; exact (below_size (by repeat (first | (with_reducible first | exact HB.out | apply wA | apply wN | apply wD | refine below_set ?_ GE559.out) | exact HB.out))) : w.heap.size ≤ gb560)); have n4_ := ak ((by rw [hg]; exact (below_size (by repeat (first | (with_reducible first | exact HB.out | apply wA | apply wN | apply wD | refine below_set ?_ GE559.out) | exact HB.out))) : w.heap.size ≤ gb560)); have n5_ := ak ((by rw [hg]; exact Nat.ne_of_lt (blk_lt (g := gb559) (o := .cells #[.int .i64 a0_0, .int .i64 a0_1] 24 (0, 0)) (by (with_reducible repeat (first | refine bN ?_ _ | refine bD ?_ | refine bA ?_ _)); exact BK559.out)) : gb559 ≠ gb560)); have n6_ := ak ((by rw [hg]; exact Nat.ne_of_gt (blk_lt (g := gb559) (o := .cells #[.int .i64 a0_0, .int .i64 a0_1] 24 (0, 0)) (by (with_reducible repeat (first | refine bN ?_ _ | refine bD ?_ | refine bA ?_ _)); exact BK559.out)) : gb560 ≠ gb559)); clear BK559; clear HB; have BK559 := n0_; have HB := n1_; have BK560 := n2_; have GW560 := n3_; have GE560 := n4_; have NB559_560 := n5_; have NB560_559 := n6_; clear n0_ n1_ n2_ n3_ n4_ n5_ n6_; clear hb hbox hg; have hnb27 := NB559_560.out; have hnc27 := NB560_559.out; have hcz28_0 : w26.cell? ⟨gb559, 0, none⟩ = some (.int .i64 a0_0) := (blk_cell BK559.out 0).trans rfl; have hcz28_1 : w26.cell? ⟨gb559, 1, none⟩ = some (.int .i64 a0_1) := (blk_cell BK559.out 1).trans rfl; have hfz28_0 := blk_frozen BK559.out 0; have hfz28_1 := blk_frozen BK559.out 1) | ((with_reducible refine gate_callee (f := 43) rfl ?_); refine goesL_ (some 7) rfl rfl Tryd.func43 (by kernel_rfl) rfl #[.agg #[.int .i64 a0_0, .int .i64 a0_1]] rfl (by (try simp only [List.map_toArray, List.map_cons, List.map_nil]); first | done | rfl | (simp only [List.length_drop, List.length_take]; rfl)) ?_; (with_reducible refine (mummerref03_is.calls a0_0 a0_1 false _ A3.out).mono ?_); rintro e w29 ⟨rfl, hb⟩; refine ⟨_, rfl, ?_⟩; have n0_ := ak (blk_below (g := gb559) (o := .cells #[.int .i64 a0_0, .int .i64 a0_1] 24 (0, 0)) (by (with_reducible repeat (first | refine bN ?_ _ | refine bD ?_ | refine bA ?_ _)); exact BK559.out) hb); have n1_ := ak (blk_below (g := gb560) (o := .cells #[.int .i64 a1_0, .int .i64 a1_1] 24 (0, 0)) (by (with_reducible repeat (first | refine bN ?_ _ | refine bD ?_ | refine bA ?_ _)); exact BK560.out) hb); have n2_ := ak (below_step (by repeat (first | (with_reducible first | exact HB.out | apply wA | apply wN | apply wD | refine below_set ?_ GE559.out | refine below_set ?_ GE560.out) | exact HB.out)) hb); clear BK559; clear BK560; clear HB; have BK559 := n0_; have BK560 := n1_; have HB := n2_; clear n0_ n1_ n2_; (try clear hb); (try clear hb2); (try clear hk); (try clear hi)))
    go_ret2
    exact ⟨by first | rfl | (simp [errW_none, errW_some] <;> rfl) | (simp [*, errW_none, errW_some] <;> rfl), by repeat (first | (with_reducible first | exact HB.out | apply wA | apply wN | apply wD | refine below_set ?_ GE559.out | refine below_set ?_ GE560.out) | exact HB.out)⟩
def mummerref03_Before.f (a0_0 : Int) (a0_1 : Int) (a1_0 : Int) (a1_1 : Int) : Option (Bool × Int) := (mummerref03_is.f a0_0 a0_1).bind fun t566 => (if t566 = true then ((mummerref03_is.f a1_0 a1_1).bind fun t567 => (if t567 = true then ((mummerref03_before.f a0_0 a0_1 a1_0 a1_1).bind fun t568 => (some (t568, 0))) else (some (false, 6)))) else (some (false, 6)))
set_option maxHeartbeats 8000000 in
set_option maxRecDepth 100000 in
theorem mummerref03_Before.calls (a0_0 : Int) (a0_1 : Int) (a1_0 : Int) (a1_1 : Int) (r1 : Bool) (r2 : Int) (w : World) (h : mummerref03_Before.f a0_0 a0_1 a1_0 a1_1 = some (r1, r2)) :
    Calls Tryd.prog 38 #[.agg #[.int .i64 a0_0, .int .i64 a0_1], .agg #[.int .i64 a1_0, .int .i64 a1_1]] w fun e w' => e = .returned (.tuple #[.bool r1, .int .i64 r2]) ∧ Below w.heap.size w w' := by
  have hu24 := Tryd.underlying24
  have HB := ak (Below.refl w.heap.size w)
  have H : ((mummerref03_is.f a0_0 a0_1).bind fun t566 => (if t566 = true then ((mummerref03_is.f a1_0 a1_1).bind fun t567 => (if t567 = true then ((mummerref03_before.f a0_0 a0_1 a1_0 a1_1).bind fun t568 => (some (t568, 0))) else (some (false, 6)))) else (some (false, 6)))) = some (r1, r2) := h
  clear h
  replace H := Option.bind_eq_some_iff.mp H
  obtain ⟨t566, A30, H⟩ := H
  replace H : (if t566 = true then ((mummerref03_is.f a1_0 a1_1).bind fun t567 => (if t567 = true then ((mummerref03_before.f a0_0 a0_1 a1_0 a1_1).bind fun t568 => (some (t568, 0))) else (some (false, 6)))) else (some (false, 6))) = some (r1, r2) := H
  have A3 := ak A30
  clear A30
  by_cases c4 : t566 = true
  · subst c4
    have H1 : ((mummerref03_is.f a1_0 a1_1).bind fun t567 => (if t567 = true then ((mummerref03_before.f a0_0 a0_1 a1_0 a1_1).bind fun t568 => (some (t568, 0))) else (some (false, 6)))) = some (r1, r2) := by rw [if_pos rfl] at H; exact H
    clear H
    have H := H1
    clear H1
    replace H := Option.bind_eq_some_iff.mp H
    obtain ⟨t567, A50, H⟩ := H
    replace H : (if t567 = true then ((mummerref03_before.f a0_0 a0_1 a1_0 a1_1).bind fun t568 => (some (t568, 0))) else (some (false, 6))) = some (r1, r2) := H
    have A5 := ak A50
    clear A50
    by_cases c6 : t567 = true
    · subst c6
      have H1 : ((mummerref03_before.f a0_0 a0_1 a1_0 a1_1).bind fun t568 => (some (t568, 0))) = some (r1, r2) := by rw [if_pos rfl] at H; exact H
      clear H
      have H := H1
      clear H1
      replace H := Option.bind_eq_some_iff.mp H
      obtain ⟨t568, A70, H⟩ := H
      replace H : (some (t568, 0)) = some (r1, r2) := H
      have A7 := ak A70
      clear A70
      simp only [Option.some.injEq, Prod.mk.injEq] at H
      obtain ⟨rfl, rfl⟩ := H
      go_enter Tryd.func38, Tryd.ntmps38
      go_wp2_with (first | ((with_reducible refine gate_dst (N := 2) rfl ?_); refine box_event ?hg (N := 2) ?hd (cs := #[.int .i64 a0_0, .int .i64 a0_1]) (t := 24) ?hr ?_; (case hd => rfl); (case hg => rfl); (case hr => first | (go_simp; done) | (go_simp; rfl)); intro gb564 hg w8 hbox hb; have n0_ := ak (below_step (by repeat (first | (with_reducible first | exact HB.out | apply wA | apply wN | apply wD) | exact HB.out)) hb); have n1_ := ak (hbox); have n2_ := ak ((by rw [hg]; exact (below_size (by repeat (first | (with_reducible first | exact HB.out | apply wA | apply wN | apply wD) | exact HB.out))) : w.heap.size ≤ gb564)); have n3_ := ak ((by rw [hg]; exact (below_size (by repeat (first | (with_reducible first | exact HB.out | apply wA | apply wN | apply wD) | exact HB.out))) : w.heap.size ≤ gb564)); clear HB; have HB := n0_; have BK564 := n1_; have GW564 := n2_; have GE564 := n3_; clear n0_ n1_ n2_ n3_; clear hb hbox hg) | ((with_reducible refine gate_dst (N := 3) rfl ?_); refine box_event ?hg (N := 3) ?hd (cs := #[.int .i64 a1_0, .int .i64 a1_1]) (t := 24) ?hr ?_; (case hd => rfl); (case hg => rfl); (case hr => first | (go_simp; done) | (go_simp; rfl)); intro gb565 hg w9 hbox hb; have n0_ := ak (blk_below (g := gb564) (o := .cells #[.int .i64 a0_0, .int .i64 a0_1] 24 (0, 0)) (by (with_reducible repeat (first | refine bN ?_ _ | refine bD ?_ | refine bA ?_ _)); exact BK564.out) hb); have n1_ := ak (below_step (by repeat (first | (with_reducible first | exact HB.out | apply wA | apply wN | apply wD | refine below_set ?_ GE564.out) | exact HB.out)) hb); have n2_ := ak (hbox); have n3_ := ak ((by rw [hg]; exact (below_size (by repeat (first | (with_reducible first | exact HB.out | apply wA | apply wN | apply wD | refine below_set ?_ GE564.out) | exact HB.out))) : w.heap.size ≤ gb565)); have n4_ := ak ((by rw [hg]; exact (below_size (by repeat (first | (with_reducible first | exact HB.out | apply wA | apply wN | apply wD | refine below_set ?_ GE564.out) | exact HB.out))) : w.heap.size ≤ gb565)); have n5_ := ak ((by rw [hg]; exact Nat.ne_of_lt (blk_lt (g := gb564) (o := .cells #[.int .i64 a0_0, .int .i64 a0_1] 24 (0, 0)) (by (with_reducible repeat (first | refine bN ?_ _ | refine bD ?_ | refine bA ?_ _)); exact BK564.out)) : gb564 ≠ gb565)); have n6_ := ak ((by rw [hg]; exact Nat.ne_of_gt (blk_lt (g := gb564) (o := .cells #[.int .i64 a0_0, .int .i64 a0_1] 24 (0, 0)) (by (with_reducible repeat (first | refine bN ?_ _ | refine bD ?_ | refine bA ?_ _)); exact BK564.out)) : gb565 ≠ gb564)); clear BK564; clear HB; have BK564 := n0_; have HB := n1_; have BK565 := n2_; have GW565 := n3_; have GE565 := n4_; have NB564_565 := n5_; have NB565_564 := n6_; clear n0_ n1_ n2_ n3_ n4_ n5_ n6_; clear hb hbox hg; have hnb10 := NB564_565.out; have hnc10 := NB565_564.out; have hcz11_0 : w9.cell? ⟨gb564, 0, none⟩ = some (.int .i64 a0_0) := (blk_cell BK564.out 0).trans rfl; have hcz11_1 : w9.cell? ⟨gb564, 1, none⟩ = some (.int .i64 a0_1) := (blk_cell BK564.out 1).trans rfl; have hfz11_0 := blk_frozen BK564.out 0; have hfz11_1 := blk_frozen BK564.out 1) | ((with_reducible refine gate_callee (f := 43) rfl ?_); refine goesL_ (some 7) rfl rfl Tryd.func43 (by kernel_rfl) rfl #[.agg #[.int .i64 a0_0, .int .i64 a0_1]] rfl (by (try simp only [List.map_toArray, List.map_cons, List.map_nil]); first | done | rfl | (simp only [List.length_drop, List.length_take]; rfl)) ?_; (with_reducible refine (mummerref03_is.calls a0_0 a0_1 true _ A3.out).mono ?_); rintro e w12 ⟨rfl, hb⟩; refine ⟨_, rfl, ?_⟩; have n0_ := ak (blk_below (g := gb564) (o := .cells #[.int .i64 a0_0, .int .i64 a0_1] 24 (0, 0)) (by (with_reducible repeat (first | refine bN ?_ _ | refine bD ?_ | refine bA ?_ _)); exact BK564.out) hb); have n1_ := ak (blk_below (g := gb565) (o := .cells #[.int .i64 a1_0, .int .i64 a1_1] 24 (0, 0)) (by (with_reducible repeat (first | refine bN ?_ _ | refine bD ?_ | refine bA ?_ _)); exact BK565.out) hb); have n2_ := ak (below_step (by repeat (first | (with_reducible first | exact HB.out | apply wA | apply wN | apply wD | refine below_set ?_ GE564.out | refine below_set ?_ GE565.out) | exact HB.out)) hb); clear BK564; clear BK565; clear HB; have BK564 := n0_; have BK565 := n1_; have HB := n2_; clear n0_ n1_ n2_; (try clear hb); (try clear hb2); (try clear hk); (try clear hi); have hcz13_0 : w12.cell? ⟨gb565, 0, none⟩ = some (.int .i64 a1_0) := (blk_cell BK565.out 0).trans rfl; have hcz13_1 : w12.cell? ⟨gb565, 1, none⟩ = some (.int .i64 a1_1) := (blk_cell BK565.out 1).trans rfl; have hfz13_0 := blk_frozen BK565.out 0; have hfz13_1 := blk_frozen BK565.out 1) | (go_at_call 43; (with_reducible refine (mummerref03_is.calls a1_0 a1_1 true _ A5.out).mono ?_); rintro e w14 ⟨rfl, hb⟩; have n0_ := ak (blk_below (g := gb564) (o := .cells #[.int .i64 a0_0, .int .i64 a0_1] 24 (0, 0)) (by (with_reducible repeat (first | refine bN ?_ _ | refine bD ?_ | refine bA ?_ _)); exact BK564.out) hb); have n1_ := ak (blk_below (g := gb565) (o := .cells #[.int .i64 a1_0, .int .i64 a1_1] 24 (0, 0)) (by (with_reducible repeat (first | refine bN ?_ _ | refine bD ?_ | refine bA ?_ _)); exact BK565.out) hb); have n2_ := ak (below_step (by repeat (first | (with_reducible first | exact HB.out | apply wA | apply wN | apply wD | refine below_set ?_ GE564.out | refine below_set ?_ GE565.out) | exact HB.out)) hb); clear BK564; clear BK565; clear HB; have BK564 := n0_; have BK565 := n1_; have HB := n2_; clear n0_ n1_ n2_; (try clear hb); (try clear hb2); (try clear hk); (try clear hi); have hcz15_0 : w14.cell? ⟨gb564, 0, none⟩ = some (.int .i64 a0_0) := (blk_cell BK564.out 0).trans rfl; have hcz15_1 : w14.cell? ⟨gb564, 1, none⟩ = some (.int .i64 a0_1) := (blk_cell BK564.out 1).trans rfl; have hfz15_0 := blk_frozen BK564.out 0; have hfz15_1 := blk_frozen BK564.out 1; have hcz16_0 : w14.cell? ⟨gb565, 0, none⟩ = some (.int .i64 a1_0) := (blk_cell BK565.out 0).trans rfl; have hcz16_1 : w14.cell? ⟨gb565, 1, none⟩ = some (.int .i64 a1_1) := (blk_cell BK565.out 1).trans rfl; have hfz16_0 := blk_frozen BK565.out 0; have hfz16_1 := blk_frozen BK565.out 1) | ((with_reducible refine gate_callee (f := 46) rfl ?_); refine goesL_ (some 16) rfl rfl Tryd.func46 (by kernel_rfl) rfl #[.agg #[.int .i64 a0_0, .int .i64 a0_1], .agg #[.int .i64 a1_0, .int .i64 a1_1]] rfl (by (try simp only [List.map_toArray, List.map_cons, List.map_nil]); first | done | rfl | (simp only [List.length_drop, List.length_take]; rfl)) ?_; (with_reducible refine (mummerref03_before.calls a0_0 a0_1 a1_0 a1_1 t568 _ A7.out).mono ?_); rintro e w17 ⟨rfl, hb⟩; refine ⟨_, rfl, ?_⟩; have n0_ := ak (blk_below (g := gb564) (o := .cells #[.int .i64 a0_0, .int .i64 a0_1] 24 (0, 0)) (by (with_reducible repeat (first | refine bN ?_ _ | refine bD ?_ | refine bA ?_ _)); exact BK564.out) hb); have n1_ := ak (blk_below (g := gb565) (o := .cells #[.int .i64 a1_0, .int .i64 a1_1] 24 (0, 0)) (by (with_reducible repeat (first | refine bN ?_ _ | refine bD ?_ | refine bA ?_ _)); exact BK565.out) hb); have n2_ := ak (below_step (by repeat (first | (with_reducible first | exact HB.out | apply wA | apply wN | apply wD | refine below_set ?_ GE564.out | refine below_set ?_ GE565.out) | exact HB.out)) hb); clear BK564; clear BK565; clear HB; have BK564 := n0_; have BK565 := n1_; have HB := n2_; clear n0_ n1_ n2_; (try clear hb); (try clear hb2); (try clear hk); (try clear hi)))
      go_ret2
      exact ⟨by first | rfl | (simp [errW_none, errW_some] <;> rfl) | (simp [*, errW_none, errW_some] <;> rfl), by repeat (first | (with_reducible first | exact HB.out | apply wA | apply wN | apply wD | refine below_set ?_ GE564.out | refine below_set ?_ GE565.out) | exact HB.out)⟩
    · replace c6 := Bool.eq_false_iff.mpr c6
      subst c6
      have H1 : (some (false, 6)) = some (r1, r2) := by rw [if_neg (show ¬ (false = true) by decide)] at H; exact H
      clear H
      have H := H1
      clear H1
      simp only [Option.some.injEq, Prod.mk.injEq] at H
      obtain ⟨rfl, rfl⟩ := H
      go_enter Tryd.func38, Tryd.ntmps38
      go_wp2_with (first | ((with_reducible refine gate_dst (N := 2) rfl ?_); refine box_event ?hg (N := 2) ?hd (cs := #[.int .i64 a0_0, .int .i64 a0_1]) (t := 24) ?hr ?_; (case hd => rfl); (case hg => rfl); (case hr => first | (go_simp; done) | (go_simp; rfl)); intro gb564 hg w18 hbox hb; have n0_ := ak (below_step (by repeat (first | (with_reducible first | exact HB.out | apply wA | apply wN | apply wD) | exact HB.out)) hb); have n1_ := ak (hbox); have n2_ := ak ((by rw [hg]; exact (below_size (by repeat (first | (with_reducible first | exact HB.out | apply wA | apply wN | apply wD) | exact HB.out))) : w.heap.size ≤ gb564)); have n3_ := ak ((by rw [hg]; exact (below_size (by repeat (first | (with_reducible first | exact HB.out | apply wA | apply wN | apply wD) | exact HB.out))) : w.heap.size ≤ gb564)); clear HB; have HB := n0_; have BK564 := n1_; have GW564 := n2_; have GE564 := n3_; clear n0_ n1_ n2_ n3_; clear hb hbox hg) | ((with_reducible refine gate_dst (N := 3) rfl ?_); refine box_event ?hg (N := 3) ?hd (cs := #[.int .i64 a1_0, .int .i64 a1_1]) (t := 24) ?hr ?_; (case hd => rfl); (case hg => rfl); (case hr => first | (go_simp; done) | (go_simp; rfl)); intro gb565 hg w19 hbox hb; have n0_ := ak (blk_below (g := gb564) (o := .cells #[.int .i64 a0_0, .int .i64 a0_1] 24 (0, 0)) (by (with_reducible repeat (first | refine bN ?_ _ | refine bD ?_ | refine bA ?_ _)); exact BK564.out) hb); have n1_ := ak (below_step (by repeat (first | (with_reducible first | exact HB.out | apply wA | apply wN | apply wD | refine below_set ?_ GE564.out) | exact HB.out)) hb); have n2_ := ak (hbox); have n3_ := ak ((by rw [hg]; exact (below_size (by repeat (first | (with_reducible first | exact HB.out | apply wA | apply wN | apply wD | refine below_set ?_ GE564.out) | exact HB.out))) : w.heap.size ≤ gb565)); have n4_ := ak ((by rw [hg]; exact (below_size (by repeat (first | (with_reducible first | exact HB.out | apply wA | apply wN | apply wD | refine below_set ?_ GE564.out) | exact HB.out))) : w.heap.size ≤ gb565)); have n5_ := ak ((by rw [hg]; exact Nat.ne_of_lt (blk_lt (g := gb564) (o := .cells #[.int .i64 a0_0, .int .i64 a0_1] 24 (0, 0)) (by (with_reducible repeat (first | refine bN ?_ _ | refine bD ?_ | refine bA ?_ _)); exact BK564.out)) : gb564 ≠ gb565)); have n6_ := ak ((by rw [hg]; exact Nat.ne_of_gt (blk_lt (g := gb564) (o := .cells #[.int .i64 a0_0, .int .i64 a0_1] 24 (0, 0)) (by (with_reducible repeat (first | refine bN ?_ _ | refine bD ?_ | refine bA ?_ _)); exact BK564.out)) : gb565 ≠ gb564)); clear BK564; clear HB; have BK564 := n0_; have HB := n1_; have BK565 := n2_; have GW565 := n3_; have GE565 := n4_; have NB564_565 := n5_; have NB565_564 := n6_; clear n0_ n1_ n2_ n3_ n4_ n5_ n6_; clear hb hbox hg; have hnb20 := NB564_565.out; have hnc20 := NB565_564.out; have hcz21_0 : w19.cell? ⟨gb564, 0, none⟩ = some (.int .i64 a0_0) := (blk_cell BK564.out 0).trans rfl; have hcz21_1 : w19.cell? ⟨gb564, 1, none⟩ = some (.int .i64 a0_1) := (blk_cell BK564.out 1).trans rfl; have hfz21_0 := blk_frozen BK564.out 0; have hfz21_1 := blk_frozen BK564.out 1) | ((with_reducible refine gate_callee (f := 43) rfl ?_); refine goesL_ (some 7) rfl rfl Tryd.func43 (by kernel_rfl) rfl #[.agg #[.int .i64 a0_0, .int .i64 a0_1]] rfl (by (try simp only [List.map_toArray, List.map_cons, List.map_nil]); first | done | rfl | (simp only [List.length_drop, List.length_take]; rfl)) ?_; (with_reducible refine (mummerref03_is.calls a0_0 a0_1 true _ A3.out).mono ?_); rintro e w22 ⟨rfl, hb⟩; refine ⟨_, rfl, ?_⟩; have n0_ := ak (blk_below (g := gb564) (o := .cells #[.int .i64 a0_0, .int .i64 a0_1] 24 (0, 0)) (by (with_reducible repeat (first | refine bN ?_ _ | refine bD ?_ | refine bA ?_ _)); exact BK564.out) hb); have n1_ := ak (blk_below (g := gb565) (o := .cells #[.int .i64 a1_0, .int .i64 a1_1] 24 (0, 0)) (by (with_reducible repeat (first | refine bN ?_ _ | refine bD ?_ | refine bA ?_ _)); exact BK565.out) hb); have n2_ := ak (below_step (by repeat (first | (with_reducible first | exact HB.out | apply wA | apply wN | apply wD | refine below_set ?_ GE564.out | refine below_set ?_ GE565.out) | exact HB.out)) hb); clear BK564; clear BK565; clear HB; have BK564 := n0_; have BK565 := n1_; have HB := n2_; clear n0_ n1_ n2_; (try clear hb); (try clear hb2); (try clear hk); (try clear hi); have hcz23_0 : w22.cell? ⟨gb565, 0, none⟩ = some (.int .i64 a1_0) := (blk_cell BK565.out 0).trans rfl; have hcz23_1 : w22.cell? ⟨gb565, 1, none⟩ = some (.int .i64 a1_1) := (blk_cell BK565.out 1).trans rfl; have hfz23_0 := blk_frozen BK565.out 0; have hfz23_1 := blk_frozen BK565.out 1) | (go_at_call 43; (with_reducible refine (mummerref03_is.calls a1_0 a1_1 false _ A5.out).mono ?_); rintro e w24 ⟨rfl, hb⟩; have n0_ := ak (blk_below (g := gb564) (o := .cells #[.int .i64 a0_0, .int .i64 a0_1] 24 (0, 0)) (by (with_reducible repeat (first | refine bN ?_ _ | refine bD ?_ | refine bA ?_ _)); exact BK564.out) hb); have n1_ := ak (blk_below (g := gb565) (o := .cells #[.int .i64 a1_0, .int .i64 a1_1] 24 (0, 0)) (by (with_reducible repeat (first | refine bN ?_ _ | refine bD ?_ | refine bA ?_ _)); exact BK565.out) hb); have n2_ := ak (below_step (by repeat (first | (with_reducible first | exact HB.out | apply wA | apply wN | apply wD | refine below_set ?_ GE564.out | refine below_set ?_ GE565.out) | exact HB.out)) hb); clear BK564; clear BK565; clear HB; have BK564 := n0_; have BK565 := n1_; have HB := n2_; clear n0_ n1_ n2_; (try clear hb); (try clear hb2); (try clear hk); (try clear hi)))
      go_ret2
      exact ⟨by first | rfl | (simp [errW_none, errW_some] <;> rfl) | (simp [*, errW_none, errW_some] <;> rfl), by repeat (first | (with_reducible first | exact HB.out | apply wA | apply wN | apply wD | refine below_set ?_ GE564.out | refine below_set ?_ GE565.out) | exact HB.out)⟩
  · replace c4 := Bool.eq_false_iff.mpr c4
    subst c4
    have H1 : (some (false, 6)) = some (r1, r2) := by rw [if_neg (show ¬ (false = true) by decide)] at H; exact H
    clear H
    have H := H1
    clear H1
    simp only [Option.some.injEq, Prod.mk.injEq] at H
    obtain ⟨rfl, rfl⟩ := H
    go_enter Tryd.func38, Tryd.ntmps38
    go_wp2_with (first | ((with_reducible refine gate_dst (N := 2) rfl ?_); refine box_event ?hg (N := 2) ?hd (cs := #[.int .i64 a0_0, .int .i64 a0_1]) (t := 24) ?hr ?_; (case hd => rfl); (case hg => rfl); (case hr => first | (go_simp; done) | (go_simp; rfl)); intro gb564 hg w25 hbox hb; have n0_ := ak (below_step (by repeat (first | (with_reducible first | exact HB.out | apply wA | apply wN | apply wD) | exact HB.out)) hb); have n1_ := ak (hbox); have n2_ := ak ((by rw [hg]; exact (below_size (by repeat (first | (with_reducible first | exact HB.out | apply wA | apply wN | apply wD) | exact HB.out))) : w.heap.size ≤ gb564)); have n3_ := ak ((by rw [hg]; exact (below_size (by repeat (first | (with_reducible first | exact HB.out | apply wA | apply wN | apply wD) | exact HB.out))) : w.heap.size ≤ gb564)); clear HB; have HB := n0_; have BK564 := n1_; have GW564 := n2_; have GE564 := n3_; clear n0_ n1_ n2_ n3_; clear hb hbox hg) | ((with_reducible refine gate_dst (N := 3) rfl ?_); refine box_event ?hg (N := 3) ?hd (cs := #[.int .i64 a1_0, .int .i64 a1_1]) (t := 24) ?hr ?_; (case hd => rfl); (case hg => rfl); (case hr => first | (go_simp; done) | (go_simp; rfl)); intro gb565 hg w26 hbox hb; have n0_ := ak (blk_below (g := gb564) (o := .cells #[.int .i64 a0_0, .int .i64 a0_1] 24 (0, 0)) (by (with_reducible repeat (first | refine bN ?_ _ | refine bD ?_ | refine bA ?_ _)); exact BK564.out) hb); have n1_ := ak (below_step (by repeat (first | (with_reducible first | exact HB.out | apply wA | apply wN | apply wD | refine below_set ?_ GE564.out) | exact HB.out)) hb); have n2_ := ak (hbox); have n3_ := ak ((by rw [hg]; exact (below_size (by repeat (first | (with_reducible first | exact HB.out | apply wA | apply wN | apply wD | refine below_set ?_ GE564.out) | exact HB.out))) : w.heap.size ≤ gb565)); have n4_ := ak ((by rw [hg]; exact (below_size (by repeat (first | (with_reducible first | exact HB.out | apply wA | apply wN | apply wD | refine below_set ?_ GE564.out) | exact HB.out))) : w.heap.size ≤ gb565)); have n5_ := ak ((by rw [hg]; exact Nat.ne_of_lt (blk_lt (g := gb564) (o := .cells #[.int .i64 a0_0, .int .i64 a0_1] 24 (0, 0)) (by (with_reducible repeat (first | refine bN ?_ _ | refine bD ?_ | refine bA ?_ _)); exact BK564.out)) : gb564 ≠ gb565)); have n6_ := ak ((by rw [hg]; exact Nat.ne_of_gt (blk_lt (g := gb564) (o := .cells #[.int .i64 a0_0, .int .i64 a0_1] 24 (0, 0)) (by (with_reducible repeat (first | refine bN ?_ _ | refine bD ?_ | refine bA ?_ _)); exact BK564.out)) : gb565 ≠ gb564)); clear BK564; clear HB; have BK564 := n0_; have HB := n1_; have BK565 := n2_; have GW565 := n3_; have GE565 := n4_; have NB564_565 := n5_; have NB565_564 := n6_; clear n0_ n1_ n2_ n3_ n4_ n5_ n6_; clear hb hbox hg; have hnb27 := NB564_565.out; have hnc27 := NB565_564.out; have hcz28_0 : w26.cell? ⟨gb564, 0, none⟩ = some (.int .i64 a0_0) := (blk_cell BK564.out 0).trans rfl; have hcz28_1 : w26.cell? ⟨gb564, 1, none⟩ = some (.int .i64 a0_1) := (blk_cell BK564.out 1).trans rfl; have hfz28_0 := blk_frozen BK564.out 0; have hfz28_1 := blk_frozen BK564.out 1) | ((with_reducible refine gate_callee (f := 43) rfl ?_); refine goesL_ (some 7) rfl rfl Tryd.func43 (by kernel_rfl) rfl #[.agg #[.int .i64 a0_0, .int .i64 a0_1]] rfl (by (try simp only [List.map_toArray, List.map_cons, List.map_nil]); first | done | rfl | (simp only [List.length_drop, List.length_take]; rfl)) ?_; (with_reducible refine (mummerref03_is.calls a0_0 a0_1 false _ A3.out).mono ?_); rintro e w29 ⟨rfl, hb⟩; refine ⟨_, rfl, ?_⟩; have n0_ := ak (blk_below (g := gb564) (o := .cells #[.int .i64 a0_0, .int .i64 a0_1] 24 (0, 0)) (by (with_reducible repeat (first | refine bN ?_ _ | refine bD ?_ | refine bA ?_ _)); exact BK564.out) hb); have n1_ := ak (blk_below (g := gb565) (o := .cells #[.int .i64 a1_0, .int .i64 a1_1] 24 (0, 0)) (by (with_reducible repeat (first | refine bN ?_ _ | refine bD ?_ | refine bA ?_ _)); exact BK565.out) hb); have n2_ := ak (below_step (by repeat (first | (with_reducible first | exact HB.out | apply wA | apply wN | apply wD | refine below_set ?_ GE564.out | refine below_set ?_ GE565.out) | exact HB.out)) hb); clear BK564; clear BK565; clear HB; have BK564 := n0_; have BK565 := n1_; have HB := n2_; clear n0_ n1_ n2_; (try clear hb); (try clear hb2); (try clear hk); (try clear hi)))
    go_ret2
    exact ⟨by first | rfl | (simp [errW_none, errW_some] <;> rfl) | (simp [*, errW_none, errW_some] <;> rfl), by repeat (first | (with_reducible first | exact HB.out | apply wA | apply wN | apply wD | refine below_set ?_ GE564.out | refine below_set ?_ GE565.out) | exact HB.out)⟩
end Go.Proofs.YtnkfdobcmfdhfaaDoor.P
namespace Go.Proofs.YtnkfdobcmfdhfaaDoor.P
open Go.RowKit Go.Proofs.YtnkfdobcmfdhfaaDoorW.PrintWords Go.Proofs.YtnkfdobcmfdhfaaDoorW.PrintLast Go.Proofs.YtnkfdobcmfdhfaaDoorW.PrintMore
attribute [local go_sem] max2_int min2_int max_two min_two max_three min_three max_four min_four   -- for this text's walks alone
set_option linter.unusedVariables false
set_option linter.unusedSimpArgs false
attribute [local go_sem high] eqA24
def mummerlaw03_SpansPairs.l0 : Nat → List (S24) → Int → Int → Option (Bool)
  | 0, _, _, _ => none
  | k + 1, x0, x1, x9 => if x9 < (x0.length : Int) then (if 0 ≤ x9 then (if 0 ≤ (wrap64 ((wrap64 ((x0.length : Int) - 1)) - x9)) then (if (wrap64 ((wrap64 ((x0.length : Int) - 1)) - x9)) < (x0.length : Int) then ((spans_Meet.f k ((rd_T24 x0 x9).f0) ((rd_T24 x0 x9).f1) ((rd_T24 x0 (wrap64 ((wrap64 ((x0.length : Int) - 1)) - x9))).f0) ((rd_T24 x0 (wrap64 ((wrap64 ((x0.length : Int) - 1)) - x9))).f1)).bind fun bt583 => ((mummerref03_Meet.f k ((rd_T24 x0 x9).f0) ((rd_T24 x0 x9).f1) ((rd_T24 x0 (wrap64 ((wrap64 ((x0.length : Int) - 1)) - x9))).f0) ((rd_T24 x0 (wrap64 ((wrap64 ((x0.length : Int) - 1)) - x9))).f1)).bind fun bt588 => ((spans_Within.f k ((rd_T24 x0 x9).f0) ((rd_T24 x0 x9).f1) ((rd_T24 x0 (wrap64 ((wrap64 ((x0.length : Int) - 1)) - x9))).f0) ((rd_T24 x0 (wrap64 ((wrap64 ((x0.length : Int) - 1)) - x9))).f1)).bind fun bt593 => ((mummerref03_Within.f ((rd_T24 x0 x9).f0) ((rd_T24 x0 x9).f1) ((rd_T24 x0 (wrap64 ((wrap64 ((x0.length : Int) - 1)) - x9))).f0) ((rd_T24 x0 (wrap64 ((wrap64 ((x0.length : Int) - 1)) - x9))).f1)).bind fun bt595 => ((spans_Before.f k ((rd_T24 x0 x9).f0) ((rd_T24 x0 x9).f1) ((rd_T24 x0 (wrap64 ((wrap64 ((x0.length : Int) - 1)) - x9))).f0) ((rd_T24 x0 (wrap64 ((wrap64 ((x0.length : Int) - 1)) - x9))).f1)).bind fun bt597 => ((mummerref03_Before.f ((rd_T24 x0 x9).f0) ((rd_T24 x0 x9).f1) ((rd_T24 x0 (wrap64 ((wrap64 ((x0.length : Int) - 1)) - x9))).f0) ((rd_T24 x0 (wrap64 ((wrap64 ((x0.length : Int) - 1)) - x9))).f1)).bind fun bt599 => ((spans_Check.f k x1 ((rd_T24 x0 x9).f0) ((rd_T24 x0 x9).f1)).bind fun t601 => ((mummerref03_Check.f k x1 ((rd_T24 x0 x9).f0) ((rd_T24 x0 x9).f1)).bind fun t602 => (if t601 = t602 then (if (!(bt583.1 == bt588.1) || (!(bt583.2.1 == bt588.2.1))) = true then (some false) else (if (bt583.2.2.1 != bt588.2.2.1) = true then (some false) else (if bt583.2.2.2 = bt588.2.2.2 then (if (bt593.1 != bt595.1) = true then (some false) else (if bt593.2 = bt595.2 then (if (bt597.1 != bt599.1) = true then (some false) else (if bt597.2 = bt599.2 then (mummerlaw03_SpansPairs.l0 k x0 x1 (wrap64 (x9 + 1))) else (some false))) else (some false))) else (some false)))) else (some false)))))))))) else (none)) else (none)) else (none)) else ((mummerlaw03_awake.f k).bind fun t578 => (some t578))
def mummerlaw03_SpansPairs.f (k : Nat) (l0 : List (S24)) (a1 : Int) : Option (Bool) := if (l0.length : Int) > 40 then ((mummerlaw03_awake.f k).bind fun t569 => (some t569)) else ((spans_Cover.f k l0).bind fun bt570 => ((mummerref03_Cover.f k l0).bind fun bt574 => (if (!(bt570.1 == bt574.1) || (!(bt570.2.1 == bt574.2.1))) = true then (some false) else (if bt570.2.2 = bt574.2.2 then (mummerlaw03_SpansPairs.l0 k l0 a1 0) else (some false)))))
def mummerlaw03_SpansPairs.T10 : Bool × List (List Nat × List Nat) := (true, [([], []), ([], []), ([0, 1], [0, 1]), ([2], [2]), ([], []), ([], []), ([5], [5]), ([6], [6]), ([], []), ([7, 8], [7, 8]), ([4, 9], [4, 9]), ([10], [10]), ([], []), ([], []), ([12, 3, 0, 1, 2, 3, 12, 13], [3, 12]), ([13, 11, 14, 0, 1, 2, 3, 4, 5, 6, 7, 8, 9, 10, 11, 12, 13, 14], [11, 13])])
def mummerlaw03_SpansPairs.B10 : List Nat := [0, 0, 3, 7, 0, 0, 32, 96, 0, 480, 1008, 2032, 0, 0, 12303, 32767]
theorem mummerlaw03_SpansPairs.tab10 : rtab .any (opsOf Tryd.f11 10) = mummerlaw03_SpansPairs.T10 := by kernel_rfl
theorem mummerlaw03_SpansPairs.bits10 : waitsOk mummerlaw03_SpansPairs.T10.2 mummerlaw03_SpansPairs.B10 = true := by kernel_rfl
def mummerlaw03_SpansPairs.T17 : Bool × List (List Nat × List Nat) := (true, [([], []), ([], []), ([0, 1], [0, 1]), ([], []), ([], []), ([3, 4, 2], [3, 4]), ([2, 5], [2, 5]), ([6, 5], [6]), ([7], [7]), ([7], [7]), ([8, 9, 7], [7, 8, 9]), ([7, 10], [7, 10]), ([11, 7], [11]), ([12], [12]), ([12], [12]), ([13, 14, 12], [12, 13, 14]), ([12, 15], [12, 15]), ([16, 12], [16]), ([17], [17]), ([17], [17]), ([18, 19, 17], [17, 18, 19]), ([17, 20], [17, 20]), ([21, 17], [21]), ([22], [22]), ([22], [22]), ([23, 24, 22], [22, 23, 24]), ([22, 25], [22, 25]), ([26, 22], [26]), ([27], [27]), ([27], [27]), ([28, 29, 27], [27, 28, 29]), ([27, 30], [27, 30]), ([31, 27], [31]), ([32], [32]), ([32], [32]), ([33, 34, 32], [32, 33, 34]), ([32, 35], [32, 35]), ([36, 32], [36]), ([37], [37]), ([37], [37]), ([38, 39, 37], [37, 38, 39]), ([37, 40], [37, 40])])
def mummerlaw03_SpansPairs.B17 : List Nat := [0, 0, 3, 0, 0, 31, 63, 127, 255, 255, 1023, 2047, 4095, 8191, 8191, 32767, 65535, 131071, 262143, 262143, 1048575, 2097151, 4194303, 8388607, 8388607, 33554431, 67108863, 134217727, 268435455, 268435455, 1073741823, 2147483647, 4294967295, 8589934591, 8589934591, 34359738367, 68719476735, 137438953471, 274877906943, 274877906943, 1099511627775, 2199023255551]
theorem mummerlaw03_SpansPairs.tab17 : rtab .any (opsOf Tryd.f11 17) = mummerlaw03_SpansPairs.T17 := by kernel_rfl
theorem mummerlaw03_SpansPairs.bits17 : waitsOk mummerlaw03_SpansPairs.T17.2 mummerlaw03_SpansPairs.B17 = true := by kernel_rfl
set_option maxHeartbeats 8000000 in
set_option maxRecDepth 100000 in
theorem mummerlaw03_SpansPairs.calls (k : Nat) (A0 : Option Addr) (c0 : Nat) (l0 : List (S24)) (a1 : Int) (r : Bool) (w : World) (hr0 : Kd.C k24 w A0 l0.length l0) (hc0 : l0.length ≤ c0) (hrt : Aside0 (r = true)) (h : mummerlaw03_SpansPairs.f k l0 a1 = some r) (HT : Aside0 (Sc.Tab w)) :
    Calls Tryd.prog 11 #[.slice A0 l0.length c0, .int .i64 a1] w fun e w' => e = .returned (.bool r) ∧ Below w.heap.size w w' := by
  have hu24 := Tryd.underlying24
  have HR0 := ak hr0
  have HC0 := ak hc0
  clear hr0 hc0
  have HB := ak (Below.refl w.heap.size w)
  have H : (if (l0.length : Int) > 40 then ((mummerlaw03_awake.f k).bind fun t569 => (some t569)) else ((spans_Cover.f k l0).bind fun bt570 => ((mummerref03_Cover.f k l0).bind fun bt574 => (if (!(bt570.1 == bt574.1) || (!(bt570.2.1 == bt574.2.1))) = true then (some false) else (if bt570.2.2 = bt574.2.2 then (mummerlaw03_SpansPairs.l0 k l0 a1 0) else (some false)))))) = some r := h
  clear h
  by_cases c3 : (l0.length : Int) > 40
  · rw [if_pos c3] at H
    have c3b0 : decide (40 < (l0.length : Int)) = true := decide_eq_true c3
    have c3b1 : decide (40 < l0.length) = true := decide_eq_true (by omega)
    clear c3
    replace H := Option.bind_eq_some_iff.mp H
    obtain ⟨t569, A40, H⟩ := H
    replace H : (some t569) = some r := H
    have A4 := ak A40
    clear A40
    obtain rfl := Option.some.inj H
    go_enter Tryd.func11, Tryd.ntmps11
    go_wp2_with (first | ((with_reducible refine gate_callee (f := 12) rfl ?_); refine goesL_ (some 29) rfl rfl Tryd.func12 (by kernel_rfl) rfl #[] rfl (by (try simp only [List.map_toArray, List.map_cons, List.map_nil]); first | done | rfl | (simp only [List.length_drop, List.length_take]; rfl)) ?_; (with_reducible refine (mummerlaw03_awake.calls k  t569 _ hrt A4.out ⟨Sc.Tab.stay HT.out (by repeat (first | (with_reducible first | exact HB.out | apply wA | apply wN | apply wD) | exact HB.out | (refine below_set ?_ (by assumption)) | (refine below_set ?_ (Aside0.out (by assumption)))))⟩).mono ?_); rintro e w5 ⟨rfl, hb⟩; refine ⟨_, rfl, ?_⟩; have n0_ := ak (below_step (by repeat (first | (with_reducible first | exact HB.out | apply wA | apply wN | apply wD) | exact HB.out)) hb); clear HB; have HB := n0_; clear n0_; (try clear hb); (try clear hb2); (try clear hk); (try clear hi)))
    go_ret
    exact ⟨by first | rfl | (simp [errW_none, errW_some] <;> rfl) | (simp [*, errW_none, errW_some] <;> rfl), by repeat (first | (with_reducible first | exact HB.out | apply wA | apply wN | apply wD) | exact HB.out)⟩
  · rw [if_neg c3] at H
    have c3b0 : decide (40 < (l0.length : Int)) = false := decide_eq_false c3
    have c3b1 : decide (40 < l0.length) = false := decide_eq_false (by omega)
    clear c3
    replace H := Option.bind_eq_some_iff.mp H
    obtain ⟨⟨t570, t571, t572⟩, A60, H⟩ := H
    replace H : ((mummerref03_Cover.f k l0).bind fun bt574 => (if (!(t570 == bt574.1) || (!(t571 == bt574.2.1))) = true then (some false) else (if t572 = bt574.2.2 then (mummerlaw03_SpansPairs.l0 k l0 a1 0) else (some false)))) = some r := H
    have A6 := ak A60
    clear A60
    replace H := Option.bind_eq_some_iff.mp H
    obtain ⟨⟨t574, t575, t576⟩, A70, H⟩ := H
    replace H : (if (!(t570 == t574) || (!(t571 == t575))) = true then (some false) else (if t572 = t576 then (mummerlaw03_SpansPairs.l0 k l0 a1 0) else (some false))) = some r := H
    have A7 := ak A70
    clear A70
    by_cases c8 : (!(t570 == t574) || (!(t571 == t575))) = true
    · rw [if_pos c8] at H
      have c8b0 : (!(t570 == t574) || (!(t571 == t575))) = true := c8
      clear c8
      exact absurd ((Option.some.inj H).trans hrt.out) (by decide)
    · rw [if_neg c8] at H
      have c8b0 : (!(t570 == t574) || (!(t571 == t575))) = false := by simpa using c8
      clear c8
      by_cases c9 : t572 = t576
      · rw [if_pos c9] at H
        have c9b0 : (t572 == t576) = true := beq_iff_eq.mpr c9
        have c9b1 : (t572 != t576) = false := bne_eq_false_iff_eq.mpr c9
        clear c9
        have H' := ak H
        clear H
        go_enter Tryd.func11, Tryd.ntmps11
        go_wp2_with (first | ((with_reducible refine gate_callee (f := 23) rfl ?_); refine goesL_ (some 32) rfl rfl Tryd.func23 (by kernel_rfl) rfl #[.slice A0 l0.length c0] rfl (by (try simp only [List.map_toArray, List.map_cons, List.map_nil]); first | done | rfl | (simp only [List.length_drop, List.length_take]; rfl)) ?_; (with_reducible refine (spans_Cover.calls k _ _ l0 t570 t571 t572 _ ?side1 ?side2 A6.out).mono ?_); (case side1 => repeat (first | exact HR0.out | (with_reducible refine Kd.C_alloc ?_ _) | (with_reducible refine Kd.C_drewN ?_ _) | (with_reducible refine Kd.C_drew ?_))); (case side2 => exact HC0.out); rintro e w10 ⟨rfl, hb⟩; refine ⟨_, rfl, ?_⟩; have n0_ := ak (below_step (by repeat (first | (with_reducible first | exact HB.out | apply wA | apply wN | apply wD) | exact HB.out)) hb); clear HB; have HB := n0_; clear n0_; (try clear hb); (try clear hb2); (try clear hk); (try clear hi)) | ((with_reducible refine gate_dst (N := 5) rfl ?_); refine box_event ?hg (N := 5) ?hd (cs := #[.int .i64 0, .int .i64 0]) (t := 24) ?hr ?_; (case hd => rfl); (case hg => rfl); (case hr => first | (go_simp; done) | (go_simp; rfl)); intro gb573 hg w11 hbox hb; have n0_ := ak (below_step (by repeat (first | (with_reducible first | exact HB.out | apply wA | apply wN | apply wD) | exact HB.out)) hb); have n1_ := ak (hbox); have n2_ := ak ((by rw [hg]; exact (below_size (by repeat (first | (with_reducible first | exact HB.out | apply wA | apply wN | apply wD) | exact HB.out))) : w.heap.size ≤ gb573)); have n3_ := ak ((by rw [hg]; exact (below_size (by repeat (first | (with_reducible first | exact HB.out | apply wA | apply wN | apply wD) | exact HB.out))) : w.heap.size ≤ gb573)); clear HB; have HB := n0_; have BK573 := n1_; have GW573 := n2_; have GE573 := n3_; clear n0_ n1_ n2_ n3_; clear hb hbox hg; have hcz12_0 : w11.cell? ⟨gb573, 0, none⟩ = some (.int .i64 0) := (blk_cell BK573.out 0).trans rfl; have hcz12_1 : w11.cell? ⟨gb573, 1, none⟩ = some (.int .i64 0) := (blk_cell BK573.out 1).trans rfl; have hfz12_0 := blk_frozen BK573.out 0; have hfz12_1 := blk_frozen BK573.out 1) | ((with_reducible refine gate_callee (f := 35) rfl ?_); refine goesL_ (some 37) rfl rfl Tryd.func35 (by kernel_rfl) rfl #[.slice A0 l0.length c0] rfl (by (try simp only [List.map_toArray, List.map_cons, List.map_nil]); first | done | rfl | (simp only [List.length_drop, List.length_take]; rfl)) ?_; (with_reducible refine (mummerref03_Cover.calls k _ _ l0 t574 t575 t576 _ ?side1 ?side2 A7.out).mono ?_); (case side1 => exact Kd.C_below HR0.out (by repeat (first | (with_reducible first | exact HB.out | apply wA | apply wN | apply wD | refine below_set ?_ GE573.out) | exact HB.out))); (case side2 => exact HC0.out); rintro e w13 ⟨rfl, hb⟩; refine ⟨_, rfl, ?_⟩; have n0_ := ak (blk_below (g := gb573) (o := .cells #[.int .i64 t570, .int .i64 t571] 24 (0, 0)) (by (with_reducible repeat (first | refine bN ?_ _ | refine bD ?_ | refine bA ?_ _)); refine blk_put (cs := #[.int .i64 t570, .int .i64 0]) ?_ 1 _ rfl; (with_reducible repeat (first | refine bN ?_ _ | refine bD ?_ | refine bA ?_ _)); refine blk_put (cs := #[.int .i64 0, .int .i64 0]) ?_ 0 _ rfl; (with_reducible repeat (first | refine bN ?_ _ | refine bD ?_ | refine bA ?_ _)); exact BK573.out) hb); have n1_ := ak (below_step (by repeat (first | (with_reducible first | exact HB.out | apply wA | apply wN | apply wD | refine below_set ?_ GE573.out) | exact HB.out)) hb); clear BK573; clear HB; have BK573 := n0_; have HB := n1_; clear n0_ n1_; (try clear hb); (try clear hb2); (try clear hk); (try clear hi)) | ((with_reducible refine gate_dst (N := 7) rfl ?_); refine box_event ?hg (N := 7) ?hd (cs := #[.int .i64 0, .int .i64 0]) (t := 24) ?hr ?_; (case hd => rfl); (case hg => rfl); (case hr => first | (go_simp; done) | (go_simp; rfl)); intro gb577 hg w14 hbox hb; have n0_ := ak (blk_below (g := gb573) (o := .cells #[.int .i64 t570, .int .i64 t571] 24 (0, 0)) (by (with_reducible repeat (first | refine bN ?_ _ | refine bD ?_ | refine bA ?_ _)); exact BK573.out) hb); have n1_ := ak (below_step (by repeat (first | (with_reducible first | exact HB.out | apply wA | apply wN | apply wD | refine below_set ?_ GE573.out) | exact HB.out)) hb); have n2_ := ak (hbox); have n3_ := ak ((by rw [hg]; exact (below_size (by repeat (first | (with_reducible first | exact HB.out | apply wA | apply wN | apply wD | refine below_set ?_ GE573.out) | exact HB.out))) : w.heap.size ≤ gb577)); have n4_ := ak ((by rw [hg]; exact (below_size (by repeat (first | (with_reducible first | exact HB.out | apply wA | apply wN | apply wD | refine below_set ?_ GE573.out) | exact HB.out))) : w.heap.size ≤ gb577)); have n5_ := ak ((by rw [hg]; exact Nat.ne_of_lt (blk_lt (g := gb573) (o := .cells #[.int .i64 t570, .int .i64 t571] 24 (0, 0)) (by (with_reducible repeat (first | refine bN ?_ _ | refine bD ?_ | refine bA ?_ _)); exact BK573.out)) : gb573 ≠ gb577)); have n6_ := ak ((by rw [hg]; exact Nat.ne_of_gt (blk_lt (g := gb573) (o := .cells #[.int .i64 t570, .int .i64 t571] 24 (0, 0)) (by (with_reducible repeat (first | refine bN ?_ _ | refine bD ?_ | refine bA ?_ _)); exact BK573.out)) : gb577 ≠ gb573)); clear BK573; clear HB; have BK573 := n0_; have HB := n1_; have BK577 := n2_; have GW577 := n3_; have GE577 := n4_; have NB573_577 := n5_; have NB577_573 := n6_; clear n0_ n1_ n2_ n3_ n4_ n5_ n6_; clear hb hbox hg; have hnb15 := NB577_573.out; have hnc15 := NB573_577.out; have hcz16_0 : w14.cell? ⟨gb577, 0, none⟩ = some (.int .i64 0) := (blk_cell BK577.out 0).trans rfl; have hcz16_1 : w14.cell? ⟨gb577, 1, none⟩ = some (.int .i64 0) := (blk_cell BK577.out 1).trans rfl; have hfz16_0 := blk_frozen BK577.out 0; have hfz16_1 := blk_frozen BK577.out 1; have hcz17_0 : w14.cell? ⟨gb573, 0, none⟩ = some (.int .i64 t570) := (blk_cell BK573.out 0).trans rfl; have hcz17_1 : w14.cell? ⟨gb573, 1, none⟩ = some (.int .i64 t571) := (blk_cell BK573.out 1).trans rfl; have hfz17_0 := blk_frozen BK573.out 0; have hfz17_1 := blk_frozen BK573.out 1))
        go_loopg [9] k (fun kq v9 w' => ∃ (x9_1 : Int), v9 = .int .i64 x9_1 ∧ Aside0 (mummerlaw03_SpansPairs.l0 kq l0 a1 x9_1 = some r) ∧ Aside0 (kq ≤ k) ∧ Aside0 (w'.heap[gb573]? = some (.cells #[.int .i64 t570, .int .i64 t571] 24 (0, 0))) ∧ Aside0 (w'.heap[gb577]? = some (.cells #[.int .i64 t574, .int .i64 t575] 24 (0, 0))) ∧ Aside0 (Below w.heap.size w w'))
        case atStart => exact ⟨(0), (by first | rfl | (simp; done) | (simp [*]; done)), H', ⟨Nat.le_refl _⟩, ⟨by (with_reducible repeat (first | refine bN ?_ _ | refine bD ?_ | refine bA ?_ _)); refine blk_far ?_ NB573_577.out _; (with_reducible repeat (first | refine bN ?_ _ | refine bD ?_ | refine bA ?_ _)); refine blk_far ?_ NB573_577.out _; (with_reducible repeat (first | refine bN ?_ _ | refine bD ?_ | refine bA ?_ _)); exact BK573.out⟩, ⟨by (with_reducible repeat (first | refine bN ?_ _ | refine bD ?_ | refine bA ?_ _)); refine blk_put (cs := #[.int .i64 t574, .int .i64 0]) ?_ 1 _ rfl; (with_reducible repeat (first | refine bN ?_ _ | refine bD ?_ | refine bA ?_ _)); refine blk_put (cs := #[.int .i64 0, .int .i64 0]) ?_ 0 _ rfl; (with_reducible repeat (first | refine bN ?_ _ | refine bD ?_ | refine bA ?_ _)); exact BK577.out⟩, ⟨by repeat (first | (with_reducible first | exact HB.out | apply wA | apply wN | apply wD | refine below_set ?_ GE573.out | refine below_set ?_ GE577.out) | exact HB.out)⟩⟩
        case round =>
          clear H'
          try clear c1
          try clear c2
          try clear p2
          try clear c3
          try clear c3b0
          try clear c3b1
          try clear c8
          try clear c8b0
          try clear c9
          try clear c9b0
          try clear c9b1
          try clear c11
          try clear c12
          try clear c15
          try clear hcz12_0
          try clear hcz12_1
          try clear hcz16_0
          try clear hcz16_1
          try clear hcz17_0
          try clear hcz17_1
          try clear hfz12_0
          try clear hfz12_1
          try clear hfz16_0
          try clear hfz16_1
          try clear hfz17_0
          try clear hfz17_1
          obtain ⟨x9_1, rfl, HA, HK1, BK573, BK577, HB⟩ := hrel
          cases gk with
          | zero => exact absurd HA.out (by simp [mummerlaw03_SpansPairs.l0])
          | succ k1 =>
            have H := HA.out
            clear HA
            simp only [mummerlaw03_SpansPairs.l0] at H
            by_cases c18 : x9_1 < (l0.length : Int)
            · rw [if_pos c18] at H
              have c18b0 : decide (x9_1 < (l0.length : Int)) = true := decide_eq_true c18
              clear c18
              by_cases c19 : 0 ≤ x9_1
              · rw [if_pos c19] at H
                have c19b0 : decide (0 ≤ x9_1) = true := decide_eq_true c19
                clear c19
                obtain ⟨ji20, hji20⟩ : ∃ j_ : Int, (wrap64 ((wrap64 ((l0.length : Int) - 1)) - x9_1)) = j_ := ⟨_, rfl⟩
                replace H : (if 0 ≤ (ji20) then (if (ji20) < (l0.length : Int) then ((spans_Meet.f k1 ((rd_T24 l0 x9_1).f0) ((rd_T24 l0 x9_1).f1) ((rd_T24 l0 (ji20)).f0) ((rd_T24 l0 (ji20)).f1)).bind fun bt583 => ((mummerref03_Meet.f k1 ((rd_T24 l0 x9_1).f0) ((rd_T24 l0 x9_1).f1) ((rd_T24 l0 (ji20)).f0) ((rd_T24 l0 (ji20)).f1)).bind fun bt588 => ((spans_Within.f k1 ((rd_T24 l0 x9_1).f0) ((rd_T24 l0 x9_1).f1) ((rd_T24 l0 (ji20)).f0) ((rd_T24 l0 (ji20)).f1)).bind fun bt593 => ((mummerref03_Within.f ((rd_T24 l0 x9_1).f0) ((rd_T24 l0 x9_1).f1) ((rd_T24 l0 (ji20)).f0) ((rd_T24 l0 (ji20)).f1)).bind fun bt595 => ((spans_Before.f k1 ((rd_T24 l0 x9_1).f0) ((rd_T24 l0 x9_1).f1) ((rd_T24 l0 (ji20)).f0) ((rd_T24 l0 (ji20)).f1)).bind fun bt597 => ((mummerref03_Before.f ((rd_T24 l0 x9_1).f0) ((rd_T24 l0 x9_1).f1) ((rd_T24 l0 (ji20)).f0) ((rd_T24 l0 (ji20)).f1)).bind fun bt599 => ((spans_Check.f k1 a1 ((rd_T24 l0 x9_1).f0) ((rd_T24 l0 x9_1).f1)).bind fun t601 => ((mummerref03_Check.f k1 a1 ((rd_T24 l0 x9_1).f0) ((rd_T24 l0 x9_1).f1)).bind fun t602 => (if t601 = t602 then (if (!(bt583.1 == bt588.1) || (!(bt583.2.1 == bt588.2.1))) = true then (some false) else (if (bt583.2.2.1 != bt588.2.2.1) = true then (some false) else (if bt583.2.2.2 = bt588.2.2.2 then (if (bt593.1 != bt595.1) = true then (some false) else (if bt593.2 = bt595.2 then (if (bt597.1 != bt599.1) = true then (some false) else (if bt597.2 = bt599.2 then (mummerlaw03_SpansPairs.l0 k1 l0 a1 (wrap64 (x9_1 + 1))) else (some false))) else (some false))) else (some false)))) else (some false)))))))))) else (none)) else (none)) = some r := by first | (rw [hji20] at H; exact H) | (simp only [hji20] at H ⊢; exact H)
                have hji20w : (IntKind.i64.wrap ((wrap64 ((l0.length : Int) - 1)) - x9_1)) = ji20 := (i64_w _).trans hji20
                by_cases c21 : 0 ≤ (ji20)
                · rw [if_pos c21] at H
                  have c21b0 : decide (0 ≤ (ji20)) = true := decide_eq_true c21
                  clear c21
                  by_cases c22 : (ji20) < (l0.length : Int)
                  · rw [if_pos c22] at H
                    have c22b0 : decide ((ji20) < (l0.length : Int)) = true := decide_eq_true c22
                    clear c22
                    replace H := Option.bind_eq_some_iff.mp H
                    obtain ⟨⟨t583, t584, t585, t586⟩, A230, H⟩ := H
                    replace H : ((mummerref03_Meet.f k1 ((rd_T24 l0 x9_1).f0) ((rd_T24 l0 x9_1).f1) ((rd_T24 l0 (ji20)).f0) ((rd_T24 l0 (ji20)).f1)).bind fun bt588 => ((spans_Within.f k1 ((rd_T24 l0 x9_1).f0) ((rd_T24 l0 x9_1).f1) ((rd_T24 l0 (ji20)).f0) ((rd_T24 l0 (ji20)).f1)).bind fun bt593 => ((mummerref03_Within.f ((rd_T24 l0 x9_1).f0) ((rd_T24 l0 x9_1).f1) ((rd_T24 l0 (ji20)).f0) ((rd_T24 l0 (ji20)).f1)).bind fun bt595 => ((spans_Before.f k1 ((rd_T24 l0 x9_1).f0) ((rd_T24 l0 x9_1).f1) ((rd_T24 l0 (ji20)).f0) ((rd_T24 l0 (ji20)).f1)).bind fun bt597 => ((mummerref03_Before.f ((rd_T24 l0 x9_1).f0) ((rd_T24 l0 x9_1).f1) ((rd_T24 l0 (ji20)).f0) ((rd_T24 l0 (ji20)).f1)).bind fun bt599 => ((spans_Check.f k1 a1 ((rd_T24 l0 x9_1).f0) ((rd_T24 l0 x9_1).f1)).bind fun t601 => ((mummerref03_Check.f k1 a1 ((rd_T24 l0 x9_1).f0) ((rd_T24 l0 x9_1).f1)).bind fun t602 => (if t601 = t602 then (if (!(t583 == bt588.1) || (!(t584 == bt588.2.1))) = true then (some false) else (if (t585 != bt588.2.2.1) = true then (some false) else (if t586 = bt588.2.2.2 then (if (bt593.1 != bt595.1) = true then (some false) else (if bt593.2 = bt595.2 then (if (bt597.1 != bt599.1) = true then (some false) else (if bt597.2 = bt599.2 then (mummerlaw03_SpansPairs.l0 k1 l0 a1 (wrap64 (x9_1 + 1))) else (some false))) else (some false))) else (some false)))) else (some false))))))))) = some r := H
                    have A23 := ak A230
                    clear A230
                    replace H := Option.bind_eq_some_iff.mp H
                    obtain ⟨⟨t588, t589, t590, t591⟩, A240, H⟩ := H
                    replace H : ((spans_Within.f k1 ((rd_T24 l0 x9_1).f0) ((rd_T24 l0 x9_1).f1) ((rd_T24 l0 (ji20)).f0) ((rd_T24 l0 (ji20)).f1)).bind fun bt593 => ((mummerref03_Within.f ((rd_T24 l0 x9_1).f0) ((rd_T24 l0 x9_1).f1) ((rd_T24 l0 (ji20)).f0) ((rd_T24 l0 (ji20)).f1)).bind fun bt595 => ((spans_Before.f k1 ((rd_T24 l0 x9_1).f0) ((rd_T24 l0 x9_1).f1) ((rd_T24 l0 (ji20)).f0) ((rd_T24 l0 (ji20)).f1)).bind fun bt597 => ((mummerref03_Before.f ((rd_T24 l0 x9_1).f0) ((rd_T24 l0 x9_1).f1) ((rd_T24 l0 (ji20)).f0) ((rd_T24 l0 (ji20)).f1)).bind fun bt599 => ((spans_Check.f k1 a1 ((rd_T24 l0 x9_1).f0) ((rd_T24 l0 x9_1).f1)).bind fun t601 => ((mummerref03_Check.f k1 a1 ((rd_T24 l0 x9_1).f0) ((rd_T24 l0 x9_1).f1)).bind fun t602 => (if t601 = t602 then (if (!(t583 == t588) || (!(t584 == t589))) = true then (some false) else (if (t585 != t590) = true then (some false) else (if t586 = t591 then (if (bt593.1 != bt595.1) = true then (some false) else (if bt593.2 = bt595.2 then (if (bt597.1 != bt599.1) = true then (some false) else (if bt597.2 = bt599.2 then (mummerlaw03_SpansPairs.l0 k1 l0 a1 (wrap64 (x9_1 + 1))) else (some false))) else (some false))) else (some false)))) else (some false)))))))) = some r := H
                    have A24 := ak A240
                    clear A240
                    replace H := Option.bind_eq_some_iff.mp H
                    obtain ⟨⟨t593, t594⟩, A250, H⟩ := H
                    replace H : ((mummerref03_Within.f ((rd_T24 l0 x9_1).f0) ((rd_T24 l0 x9_1).f1) ((rd_T24 l0 (ji20)).f0) ((rd_T24 l0 (ji20)).f1)).bind fun bt595 => ((spans_Before.f k1 ((rd_T24 l0 x9_1).f0) ((rd_T24 l0 x9_1).f1) ((rd_T24 l0 (ji20)).f0) ((rd_T24 l0 (ji20)).f1)).bind fun bt597 => ((mummerref03_Before.f ((rd_T24 l0 x9_1).f0) ((rd_T24 l0 x9_1).f1) ((rd_T24 l0 (ji20)).f0) ((rd_T24 l0 (ji20)).f1)).bind fun bt599 => ((spans_Check.f k1 a1 ((rd_T24 l0 x9_1).f0) ((rd_T24 l0 x9_1).f1)).bind fun t601 => ((mummerref03_Check.f k1 a1 ((rd_T24 l0 x9_1).f0) ((rd_T24 l0 x9_1).f1)).bind fun t602 => (if t601 = t602 then (if (!(t583 == t588) || (!(t584 == t589))) = true then (some false) else (if (t585 != t590) = true then (some false) else (if t586 = t591 then (if (t593 != bt595.1) = true then (some false) else (if t594 = bt595.2 then (if (bt597.1 != bt599.1) = true then (some false) else (if bt597.2 = bt599.2 then (mummerlaw03_SpansPairs.l0 k1 l0 a1 (wrap64 (x9_1 + 1))) else (some false))) else (some false))) else (some false)))) else (some false))))))) = some r := H
                    have A25 := ak A250
                    clear A250
                    replace H := Option.bind_eq_some_iff.mp H
                    obtain ⟨⟨t595, t596⟩, A260, H⟩ := H
                    replace H : ((spans_Before.f k1 ((rd_T24 l0 x9_1).f0) ((rd_T24 l0 x9_1).f1) ((rd_T24 l0 (ji20)).f0) ((rd_T24 l0 (ji20)).f1)).bind fun bt597 => ((mummerref03_Before.f ((rd_T24 l0 x9_1).f0) ((rd_T24 l0 x9_1).f1) ((rd_T24 l0 (ji20)).f0) ((rd_T24 l0 (ji20)).f1)).bind fun bt599 => ((spans_Check.f k1 a1 ((rd_T24 l0 x9_1).f0) ((rd_T24 l0 x9_1).f1)).bind fun t601 => ((mummerref03_Check.f k1 a1 ((rd_T24 l0 x9_1).f0) ((rd_T24 l0 x9_1).f1)).bind fun t602 => (if t601 = t602 then (if (!(t583 == t588) || (!(t584 == t589))) = true then (some false) else (if (t585 != t590) = true then (some false) else (if t586 = t591 then (if (t593 != t595) = true then (some false) else (if t594 = t596 then (if (bt597.1 != bt599.1) = true then (some false) else (if bt597.2 = bt599.2 then (mummerlaw03_SpansPairs.l0 k1 l0 a1 (wrap64 (x9_1 + 1))) else (some false))) else (some false))) else (some false)))) else (some false)))))) = some r := H
                    have A26 := ak A260
                    clear A260
                    replace H := Option.bind_eq_some_iff.mp H
                    obtain ⟨⟨t597, t598⟩, A270, H⟩ := H
                    replace H : ((mummerref03_Before.f ((rd_T24 l0 x9_1).f0) ((rd_T24 l0 x9_1).f1) ((rd_T24 l0 (ji20)).f0) ((rd_T24 l0 (ji20)).f1)).bind fun bt599 => ((spans_Check.f k1 a1 ((rd_T24 l0 x9_1).f0) ((rd_T24 l0 x9_1).f1)).bind fun t601 => ((mummerref03_Check.f k1 a1 ((rd_T24 l0 x9_1).f0) ((rd_T24 l0 x9_1).f1)).bind fun t602 => (if t601 = t602 then (if (!(t583 == t588) || (!(t584 == t589))) = true then (some false) else (if (t585 != t590) = true then (some false) else (if t586 = t591 then (if (t593 != t595) = true then (some false) else (if t594 = t596 then (if (t597 != bt599.1) = true then (some false) else (if t598 = bt599.2 then (mummerlaw03_SpansPairs.l0 k1 l0 a1 (wrap64 (x9_1 + 1))) else (some false))) else (some false))) else (some false)))) else (some false))))) = some r := H
                    have A27 := ak A270
                    clear A270
                    replace H := Option.bind_eq_some_iff.mp H
                    obtain ⟨⟨t599, t600⟩, A280, H⟩ := H
                    replace H : ((spans_Check.f k1 a1 ((rd_T24 l0 x9_1).f0) ((rd_T24 l0 x9_1).f1)).bind fun t601 => ((mummerref03_Check.f k1 a1 ((rd_T24 l0 x9_1).f0) ((rd_T24 l0 x9_1).f1)).bind fun t602 => (if t601 = t602 then (if (!(t583 == t588) || (!(t584 == t589))) = true then (some false) else (if (t585 != t590) = true then (some false) else (if t586 = t591 then (if (t593 != t595) = true then (some false) else (if t594 = t596 then (if (t597 != t599) = true then (some false) else (if t598 = t600 then (mummerlaw03_SpansPairs.l0 k1 l0 a1 (wrap64 (x9_1 + 1))) else (some false))) else (some false))) else (some false)))) else (some false)))) = some r := H
                    have A28 := ak A280
                    clear A280
                    replace H := Option.bind_eq_some_iff.mp H
                    obtain ⟨t601, A290, H⟩ := H
                    replace H : ((mummerref03_Check.f k1 a1 ((rd_T24 l0 x9_1).f0) ((rd_T24 l0 x9_1).f1)).bind fun t602 => (if t601 = t602 then (if (!(t583 == t588) || (!(t584 == t589))) = true then (some false) else (if (t585 != t590) = true then (some false) else (if t586 = t591 then (if (t593 != t595) = true then (some false) else (if t594 = t596 then (if (t597 != t599) = true then (some false) else (if t598 = t600 then (mummerlaw03_SpansPairs.l0 k1 l0 a1 (wrap64 (x9_1 + 1))) else (some false))) else (some false))) else (some false)))) else (some false))) = some r := H
                    have A29 := ak A290
                    clear A290
                    replace H := Option.bind_eq_some_iff.mp H
                    obtain ⟨t602, A300, H⟩ := H
                    replace H : (if t601 = t602 then (if (!(t583 == t588) || (!(t584 == t589))) = true then (some false) else (if (t585 != t590) = true then (some false) else (if t586 = t591 then (if (t593 != t595) = true then (some false) else (if t594 = t596 then (if (t597 != t599) = true then (some false) else (if t598 = t600 then (mummerlaw03_SpansPairs.l0 k1 l0 a1 (wrap64 (x9_1 + 1))) else (some false))) else (some false))) else (some false)))) else (some false)) = some r := H
                    have A30 := ak A300
                    clear A300
                    by_cases c31 : t601 = t602
                    · rw [if_pos c31] at H
                      have c31b0 : (t601 == t602) = true := beq_iff_eq.mpr c31
                      have c31b1 : (t601 != t602) = false := bne_eq_false_iff_eq.mpr c31
                      clear c31
                      by_cases c32 : (!(t583 == t588) || (!(t584 == t589))) = true
                      · rw [if_pos c32] at H
                        have c32b0 : (!(t583 == t588) || (!(t584 == t589))) = true := c32
                        clear c32
                        exact absurd ((Option.some.inj H).trans hrt.out) (by decide)
                      · rw [if_neg c32] at H
                        have c32b0 : (!(t583 == t588) || (!(t584 == t589))) = false := by simpa using c32
                        clear c32
                        by_cases c33 : (t585 != t590) = true
                        · rw [if_pos c33] at H
                          have c33b0 : (t585 != t590) = true := c33
                          (try (have c33b1 : decide (t585 = t590) = false := by simpa using c33))
                          (try (have c33b2 : (t585 == t590) = false := by simpa using c33))
                          (try (have c33b3 : ¬ (t585 = t590) := by simpa using c33))
                          clear c33
                          exact absurd ((Option.some.inj H).trans hrt.out) (by decide)
                        · rw [if_neg c33] at H
                          have c33b0 : (t585 != t590) = false := by simpa using c33
                          (try (have c33b1 : decide (t585 = t590) = true := by simpa using c33))
                          (try (have c33b2 : (t585 == t590) = true := by simpa using c33))
                          clear c33
                          by_cases c34 : t586 = t591
                          · rw [if_pos c34] at H
                            have c34b0 : (t586 == t591) = true := beq_iff_eq.mpr c34
                            have c34b1 : (t586 != t591) = false := bne_eq_false_iff_eq.mpr c34
                            clear c34
                            by_cases c35 : (t593 != t595) = true
                            · rw [if_pos c35] at H
                              have c35b0 : (t593 != t595) = true := c35
                              (try (have c35b1 : decide (t593 = t595) = false := by simpa using c35))
                              (try (have c35b2 : (t593 == t595) = false := by simpa using c35))
                              (try (have c35b3 : ¬ (t593 = t595) := by simpa using c35))
                              clear c35
                              exact absurd ((Option.some.inj H).trans hrt.out) (by decide)
                            · rw [if_neg c35] at H
                              have c35b0 : (t593 != t595) = false := by simpa using c35
                              (try (have c35b1 : decide (t593 = t595) = true := by simpa using c35))
                              (try (have c35b2 : (t593 == t595) = true := by simpa using c35))
                              clear c35
                              by_cases c36 : t594 = t596
                              · rw [if_pos c36] at H
                                have c36b0 : (t594 == t596) = true := beq_iff_eq.mpr c36
                                have c36b1 : (t594 != t596) = false := bne_eq_false_iff_eq.mpr c36
                                clear c36
                                by_cases c37 : (t597 != t599) = true
                                · rw [if_pos c37] at H
                                  have c37b0 : (t597 != t599) = true := c37
                                  (try (have c37b1 : decide (t597 = t599) = false := by simpa using c37))
                                  (try (have c37b2 : (t597 == t599) = false := by simpa using c37))
                                  (try (have c37b3 : ¬ (t597 = t599) := by simpa using c37))
                                  clear c37
                                  exact absurd ((Option.some.inj H).trans hrt.out) (by decide)
                                · rw [if_neg c37] at H
                                  have c37b0 : (t597 != t599) = false := by simpa using c37
                                  (try (have c37b1 : decide (t597 = t599) = true := by simpa using c37))
                                  (try (have c37b2 : (t597 == t599) = true := by simpa using c37))
                                  clear c37
                                  by_cases c38 : t598 = t600
                                  · rw [if_pos c38] at H
                                    have c38b0 : (t598 == t600) = true := beq_iff_eq.mpr c38
                                    have c38b1 : (t598 != t600) = false := bne_eq_false_iff_eq.mpr c38
                                    clear c38
                                    have H' := ak H
                                    clear H
                                    try go_wp2
                                    have n0_ := ak (bD BK573.out)
                                    have n1_ := ak (bD BK577.out)
                                    have n2_ := ak (wD HB.out)
                                    clear BK573 BK577 HB
                                    have BK573 := n0_
                                    have BK577 := n1_
                                    have HB := n2_
                                    clear n0_ n1_ n2_
                                    have p579 : 0 ≤ (x9_1 : Int) := of_decide_eq_true (by first | (with_reducible assumption) | assumption)
                                    have q579 : x9_1 < (l0.length : Int) := of_decide_eq_true (by first | (with_reducible assumption) | assumption)
                                    obtain ⟨ad579, e579, hx579_0, hx579_1⟩ := at_T24 HR0.out x9_1 p579 q579
                                    have hw579_1 := hx579_1
                                    have hw579_0 := hx579_0
                                    cases e579
                                    replace hx579_0 := (HB.out.cell (World.block_lt_of_cell? w _ hx579_0)).trans hx579_0
                                    replace hx579_1 := (HB.out.cell (World.block_lt_of_cell? w _ hx579_1)).trans hx579_1
                                    replace p579 := eq_true p579
                                    replace q579 := eq_true q579
                                    have p580 : 0 ≤ ((ji20) : Int) := of_decide_eq_true (by first | (with_reducible assumption) | assumption)
                                    have q580 : (ji20) < (l0.length : Int) := of_decide_eq_true (by first | (with_reducible assumption) | assumption)
                                    obtain ⟨ad580, e580, hx580_0, hx580_1⟩ := at_T24 HR0.out (ji20) p580 q580
                                    have hw580_1 := hx580_1
                                    have hw580_0 := hx580_0
                                    obtain rfl : ad579 = ad580 := (by injection e580)
                                    replace hx580_0 := (HB.out.cell (World.block_lt_of_cell? w _ hx580_0)).trans hx580_0
                                    replace hx580_1 := (HB.out.cell (World.block_lt_of_cell? w _ hx580_1)).trans hx580_1
                                    replace p580 := eq_true p580
                                    replace q580 := eq_true q580
                                    refine start_ (n := 16) (S := fun w' => w'.cell? (ad579.add ((x9_1).toNat * 2)) = some (.int .i64 ((rd_T24 l0 x9_1).f0)) ∧ w'.cell? ⟨(ad579.add ((x9_1).toNat * 2)).block, (ad579.add ((x9_1).toNat * 2)).off + 1, none⟩ = some (.int .i64 ((rd_T24 l0 x9_1).f1)) ∧ w'.cell? (ad579.add (((ji20)).toNat * 2)) = some (.int .i64 ((rd_T24 l0 (ji20)).f0)) ∧ w'.cell? ⟨(ad579.add (((ji20)).toNat * 2)).block, (ad579.add (((ji20)).toNat * 2)).off + 1, none⟩ = some (.int .i64 ((rd_T24 l0 (ji20)).f1))) (ds := []) #[false, false, false, false, false, false, false, false, false, false, false, false, false, false, false, false] (by kernel_rfl) rfl rfl ⟨((HB.out.cell (World.block_lt_of_cell? w _ hw579_0)).trans hw579_0), ((HB.out.cell (World.block_lt_of_cell? w _ hw579_1)).trans hw579_1), ((HB.out.cell (World.block_lt_of_cell? w _ hw580_0)).trans hw580_0), ((HB.out.cell (World.block_lt_of_cell? w _ hw580_1)).trans hw580_1)⟩ (fun hHeld => ?_); refine with_tabW mummerlaw03_SpansPairs.tab10 mummerlaw03_SpansPairs.bits10 (fun HT_ HW_ => ?_)
                                    generalize wr.drew = w39 at BK573 BK577 HB hx579_0 hx579_1 hx580_0 hx580_1 hHeld ⊢
                                    refine pure_ (i := 0) (N := some 54) (v := ?_) (a' := ?_) #[true, false, false, false, false, false, false, false, false, false, false, false, false, false, false, false] rfl rfl (any_of HT_.out (by kernel_rfl)) (fun _ _ _ h => h) (Or.inl ⟨by rfl, ?_⟩) ?_ ?_
                                    rotate_left
                                    · intro w'
                                      go_simp
                                      with_reducible rfl
                                    rotate_left
                                    · simp only [Act.put, List.setIfInBounds_toArray, List.set_cons_zero, List.set_cons_succ, i64_w, i32_w]
                                      rfl
                                    refine pure_ (i := 1) (N := some 55) (v := ?_) (a' := ?_) #[true, true, false, false, false, false, false, false, false, false, false, false, false, false, false, false] rfl rfl (any_of HT_.out (by kernel_rfl)) (fun _ _ _ h => h) (Or.inl ⟨by rfl, ?_⟩) ?_ ?_
                                    rotate_left
                                    · intro w'
                                      go_simp
                                      with_reducible rfl
                                    rotate_left
                                    · simp only [Act.put, List.setIfInBounds_toArray, List.set_cons_zero, List.set_cons_succ, i64_w, i32_w]
                                      rfl
                                    refine pure_ (i := 2) (N := some 56) (v := ?_) (a' := ?_) #[true, true, true, false, false, false, false, false, false, false, false, false, false, false, false, false] rfl rfl (any_of HT_.out (by kernel_rfl)) (fun _ _ _ h => h) (Or.inl ⟨by rfl, ?_⟩) ?_ ?_
                                    rotate_left
                                    · intro w'
                                      go_simp
                                      with_reducible rfl
                                    rotate_left
                                    · simp only [Act.put, List.setIfInBounds_toArray, List.set_cons_zero, List.set_cons_succ, i64_w, i32_w]
                                      rfl
                                    refine pure_ (i := 4) (N := some 58) (v := ?_) (a' := ?_) #[true, true, true, false, true, false, false, false, false, false, false, false, false, false, false, false] rfl rfl (any_of HT_.out (by kernel_rfl)) (fun _ _ _ h => h) (Or.inl ⟨by rfl, ?_⟩) ?_ ?_
                                    rotate_left
                                    · intro w'
                                      go_simp
                                      with_reducible rfl
                                    rotate_left
                                    · simp only [Act.put, List.setIfInBounds_toArray, List.set_cons_zero, List.set_cons_succ, i64_w, i32_w]
                                      rfl
                                    refine pure_ (i := 5) (N := some 59) (v := ?_) (a' := ?_) #[true, true, true, false, true, true, false, false, false, false, false, false, false, false, false, false] rfl rfl (any_of HT_.out (by kernel_rfl)) (fun _ _ _ h => h) (Or.inl ⟨by rfl, ?_⟩) ?_ ?_
                                    rotate_left
                                    · intro w'
                                      go_simp
                                      with_reducible rfl
                                    rotate_left
                                    · simp only [Act.put, List.setIfInBounds_toArray, List.set_cons_zero, List.set_cons_succ, i64_w, i32_w]
                                      rfl
                                    refine pure_ (i := 6) (N := some 60) (v := ?_) (a' := ?_) #[true, true, true, false, true, true, true, false, false, false, false, false, false, false, false, false] rfl rfl (any_of HT_.out (by kernel_rfl)) (fun _ _ _ h => h) (Or.inl ⟨by rfl, ?_⟩) ?_ ?_
                                    rotate_left
                                    · intro w'
                                      go_simp
                                      with_reducible rfl
                                    rotate_left
                                    · simp only [Act.put, List.setIfInBounds_toArray, List.set_cons_zero, List.set_cons_succ, i64_w, i32_w]
                                      rfl
                                    refine pure_ (i := 7) (N := some 61) (v := ?_) (a' := ?_) #[true, true, true, false, true, true, true, true, false, false, false, false, false, false, false, false] rfl rfl (any_of HT_.out (by kernel_rfl)) (fun _ _ _ h => h) (Or.inl ⟨by rfl, ?_⟩) ?_ ?_
                                    rotate_left
                                    · intro w'
                                      go_simp
                                      with_reducible rfl
                                    rotate_left
                                    · simp only [Act.put, List.setIfInBounds_toArray, List.set_cons_zero, List.set_cons_succ, i64_w, i32_w]
                                      rfl
                                    refine pure_ (i := 8) (N := some 62) (v := ?_) (a' := ?_) #[true, true, true, false, true, true, true, true, true, false, false, false, false, false, false, false] rfl rfl (any_of HT_.out (by kernel_rfl)) (fun _ _ _ h => h) (Or.inl ⟨by rfl, ?_⟩) ?_ ?_
                                    rotate_left
                                    · intro w'
                                      go_simp
                                      with_reducible rfl
                                    rotate_left
                                    · simp only [Act.put, List.setIfInBounds_toArray, List.set_cons_zero, List.set_cons_succ, i64_w, i32_w]
                                      rfl
                                    refine pure_ (i := 9) (N := some 63) (v := ?_) (a' := ?_) #[true, true, true, false, true, true, true, true, true, true, false, false, false, false, false, false] rfl rfl (any_of HT_.out (by kernel_rfl)) (fun _ _ _ h => h) (Or.inl ⟨by rfl, ?_⟩) ?_ ?_
                                    rotate_left
                                    · intro w'
                                      go_simp
                                      with_reducible rfl
                                    rotate_left
                                    · simp only [Act.put, List.setIfInBounds_toArray, List.set_cons_zero, List.set_cons_succ, i64_w, i32_w]
                                      rfl
                                    refine pure_ (i := 10) (N := some 64) (v := ?_) (a' := ?_) #[true, true, true, false, true, true, true, true, true, true, true, false, false, false, false, false] rfl rfl (any_of HT_.out (by kernel_rfl)) (fun _ _ _ h => h) (Or.inl ⟨by rfl, ?_⟩) ?_ ?_
                                    rotate_left
                                    · intro w'
                                      go_simp
                                      with_reducible rfl
                                    rotate_left
                                    · simp only [Act.put, List.setIfInBounds_toArray, List.set_cons_zero, List.set_cons_succ, i64_w, i32_w]
                                      rfl
                                    refine take_ (i := 3) (N := some 57) (v := ?_) (a' := ?_) #[true, true, true, true, true, true, true, true, true, true, true, false, false, false, false, false] rfl rfl (take_ofW HT_.out HW_.out (by kernel_rfl)) (fun _ _ _ h => h) (Or.inl ⟨by rfl, ?_⟩) hHeld ?_ ?_
                                    rotate_left
                                    · rintro w' ⟨s0, s1, s2, s3⟩
                                      go_simp
                                      with_reducible rfl
                                    rotate_left
                                    · simp only [Act.put, List.setIfInBounds_toArray, List.set_cons_zero, List.set_cons_succ, i64_w, i32_w]
                                      rfl
                                    refine take_ (i := 11) (N := some 65) (v := ?_) (a' := ?_) #[true, true, true, true, true, true, true, true, true, true, true, true, false, false, false, false] rfl rfl (take_ofW HT_.out HW_.out (by kernel_rfl)) (fun _ _ _ h => h) (Or.inl ⟨by rfl, ?_⟩) hHeld ?_ ?_
                                    rotate_left
                                    · rintro w' ⟨s0, s1, s2, s3⟩
                                      go_simp
                                      with_reducible rfl
                                    rotate_left
                                    · simp only [Act.put, List.setIfInBounds_toArray, List.set_cons_zero, List.set_cons_succ, i64_w, i32_w]
                                      rfl
                                    refine join_ (σ := Nat × Nat) 2 #[true, true, true, true, true, true, true, true, true, true, true, true, true, true, false, false] (fun s_ => [(10, .pointer (some ⟨s_.1, 0, none⟩)), (11, .pointer (some ⟨s_.2, 0, none⟩))]) (fun s_ w' => (w'.cell? (ad579.add ((x9_1).toNat * 2)) = some (.int .i64 ((rd_T24 l0 x9_1).f0)) ∧ w'.cell? ⟨(ad579.add ((x9_1).toNat * 2)).block, (ad579.add ((x9_1).toNat * 2)).off + 1, none⟩ = some (.int .i64 ((rd_T24 l0 x9_1).f1)) ∧ w'.cell? (ad579.add (((ji20)).toNat * 2)) = some (.int .i64 ((rd_T24 l0 (ji20)).f0)) ∧ w'.cell? ⟨(ad579.add (((ji20)).toNat * 2)).block, (ad579.add (((ji20)).toNat * 2)).off + 1, none⟩ = some (.int .i64 ((rd_T24 l0 (ji20)).f1))) ∧ (w'.heap[gb573]? = some (.cells #[.int .i64 t570, .int .i64 t571] 24 (0, 0))) ∧ (w'.heap[gb577]? = some (.cells #[.int .i64 t574, .int .i64 t575] 24 (0, 0))) ∧ (w'.heap[s_.1]? = some (.cells #[.int .i64 0, .int .i64 0] 24 (0, 0))) ∧ (w'.heap[s_.2]? = some (.cells #[.int .i64 0, .int .i64 0] 24 (0, 0))) ∧ (w.heap.size ≤ s_.1) ∧ (w.heap.size ≤ s_.1) ∧ (gb573 ≠ s_.1) ∧ (s_.1 ≠ gb573) ∧ (gb577 ≠ s_.1) ∧ (s_.1 ≠ gb577) ∧ (s_.2 ≠ s_.1) ∧ (s_.1 ≠ s_.2) ∧ (w.heap.size ≤ s_.2) ∧ (w.heap.size ≤ s_.2) ∧ (gb573 ≠ s_.2) ∧ (s_.2 ≠ gb573) ∧ (gb577 ≠ s_.2) ∧ (s_.2 ≠ gb577) ∧ (Below w.heap.size w w')) ?_ ?_
                                    rotate_left
                                    · intro hCont
                                      refine two_ (i := 12) (j := 13) (Ni := some 10) (Nj := some 11) #[true, true, true, true, true, true, true, true, true, true, true, true, true, false, false, false] #[true, true, true, true, true, true, true, true, true, true, true, true, false, true, false, false] rfl rfl rfl rfl (two_of HT_.out (by kernel_rfl)) (by decide) (by decide) (fun K hK => ?_) (fun K hK => ?_)
                                      · skip
                                        refine box_step ?hg (N := 10) ?hd (cs := #[.int .i64 0, .int .i64 0]) (t := 24) ?hr ?_; (case hd => rfl); (case hg => rfl); (case hr => first | (go_simp; done) | (go_simp; rfl))
                                        intro gb581 hg w40 hbox hb
                                        have n0_ := ak (blk_below (g := gb573) (o := .cells #[.int .i64 t570, .int .i64 t571] 24 (0, 0)) (by (with_reducible repeat (first | refine bN ?_ _ | refine bD ?_ | refine bA ?_ _)); exact BK573.out) hb)
                                        have n1_ := ak (blk_below (g := gb577) (o := .cells #[.int .i64 t574, .int .i64 t575] 24 (0, 0)) (by (with_reducible repeat (first | refine bN ?_ _ | refine bD ?_ | refine bA ?_ _)); exact BK577.out) hb)
                                        have n2_ := ak (below_step (by repeat (first | (with_reducible first | exact HB.out | apply wA | apply wN | apply wD | refine below_set ?_ GE573.out | refine below_set ?_ GE577.out) | exact HB.out)) hb)
                                        have n3_ := ak (hbox)
                                        have n4_ := ak ((by rw [hg]; exact (below_size (by repeat (first | (with_reducible first | exact HB.out | apply wA | apply wN | apply wD | refine below_set ?_ GE573.out | refine below_set ?_ GE577.out) | exact HB.out))) : w.heap.size ≤ gb581))
                                        have n5_ := ak ((by rw [hg]; exact (below_size (by repeat (first | (with_reducible first | exact HB.out | apply wA | apply wN | apply wD | refine below_set ?_ GE573.out | refine below_set ?_ GE577.out) | exact HB.out))) : w.heap.size ≤ gb581))
                                        have n6_ := ak ((by rw [hg]; exact Nat.ne_of_lt (blk_lt (g := gb573) (o := .cells #[.int .i64 t570, .int .i64 t571] 24 (0, 0)) (by (with_reducible repeat (first | refine bN ?_ _ | refine bD ?_ | refine bA ?_ _)); exact BK573.out)) : gb573 ≠ gb581))
                                        have n7_ := ak ((by rw [hg]; exact Nat.ne_of_gt (blk_lt (g := gb573) (o := .cells #[.int .i64 t570, .int .i64 t571] 24 (0, 0)) (by (with_reducible repeat (first | refine bN ?_ _ | refine bD ?_ | refine bA ?_ _)); exact BK573.out)) : gb581 ≠ gb573))
                                        have n8_ := ak ((by rw [hg]; exact Nat.ne_of_lt (blk_lt (g := gb577) (o := .cells #[.int .i64 t574, .int .i64 t575] 24 (0, 0)) (by (with_reducible repeat (first | refine bN ?_ _ | refine bD ?_ | refine bA ?_ _)); exact BK577.out)) : gb577 ≠ gb581))
                                        have n9_ := ak ((by rw [hg]; exact Nat.ne_of_gt (blk_lt (g := gb577) (o := .cells #[.int .i64 t574, .int .i64 t575] 24 (0, 0)) (by (with_reducible repeat (first | refine bN ?_ _ | refine bD ?_ | refine bA ?_ _)); exact BK577.out)) : gb581 ≠ gb577))
                                        clear BK573 BK577 HB
                                        have BK573 := n0_
                                        have BK577 := n1_
                                        have HB := n2_
                                        have BK581 := n3_
                                        have GW581 := n4_
                                        have GE581 := n5_
                                        have NB573_581 := n6_
                                        have NB581_573 := n7_
                                        have NB577_581 := n8_
                                        have NB581_577 := n9_
                                        clear n0_ n1_ n2_ n3_ n4_ n5_ n6_ n7_ n8_ n9_ hb hbox hg
                                        refine hK.out _ _ ⟨((HB.out.cell (World.block_lt_of_cell? w _ hw579_0)).trans hw579_0), ((HB.out.cell (World.block_lt_of_cell? w _ hw579_1)).trans hw579_1), ((HB.out.cell (World.block_lt_of_cell? w _ hw580_0)).trans hw580_0), ((HB.out.cell (World.block_lt_of_cell? w _ hw580_1)).trans hw580_1)⟩ (fun hHeld => ?_)
                                        clear hK K
                                        refine norm_ (a' := ?_) ?_ ?_
                                        rotate_left
                                        · show Act.put _ (some 10) _ = _
                                          simp only [Act.put, List.setIfInBounds_toArray, List.set_cons_zero, List.set_cons_succ, i64_w, i32_w]
                                          rfl
                                        refine one_ (i := 13) (N := some 11) #[true, true, true, true, true, true, true, true, true, true, true, true, true, true, false, false] rfl rfl (one_of HT_.out (by kernel_rfl)) (by decide) (fun K hK => ?_)
                                        refine box_step ?hg (N := 11) ?hd (cs := #[.int .i64 0, .int .i64 0]) (t := 24) ?hr ?_; (case hd => rfl); (case hg => rfl); (case hr => first | (go_simp; done) | (go_simp; rfl))
                                        intro gb582 hg w41 hbox hb
                                        have n0_ := ak (blk_below (g := gb573) (o := .cells #[.int .i64 t570, .int .i64 t571] 24 (0, 0)) (by (with_reducible repeat (first | refine bN ?_ _ | refine bD ?_ | refine bA ?_ _)); exact BK573.out) hb)
                                        have n1_ := ak (blk_below (g := gb577) (o := .cells #[.int .i64 t574, .int .i64 t575] 24 (0, 0)) (by (with_reducible repeat (first | refine bN ?_ _ | refine bD ?_ | refine bA ?_ _)); exact BK577.out) hb)
                                        have n2_ := ak (blk_below (g := gb581) (o := .cells #[.int .i64 0, .int .i64 0] 24 (0, 0)) (by (with_reducible repeat (first | refine bN ?_ _ | refine bD ?_ | refine bA ?_ _)); exact BK581.out) hb)
                                        have n3_ := ak (below_step (by repeat (first | (with_reducible first | exact HB.out | apply wA | apply wN | apply wD | refine below_set ?_ GE573.out | refine below_set ?_ GE577.out | refine below_set ?_ GE581.out) | exact HB.out)) hb)
                                        have n4_ := ak (hbox)
                                        have n5_ := ak ((by rw [hg]; exact (below_size (by repeat (first | (with_reducible first | exact HB.out | apply wA | apply wN | apply wD | refine below_set ?_ GE573.out | refine below_set ?_ GE577.out | refine below_set ?_ GE581.out) | exact HB.out))) : w.heap.size ≤ gb582))
                                        have n6_ := ak ((by rw [hg]; exact (below_size (by repeat (first | (with_reducible first | exact HB.out | apply wA | apply wN | apply wD | refine below_set ?_ GE573.out | refine below_set ?_ GE577.out | refine below_set ?_ GE581.out) | exact HB.out))) : w.heap.size ≤ gb582))
                                        have n7_ := ak ((by rw [hg]; exact Nat.ne_of_lt (blk_lt (g := gb573) (o := .cells #[.int .i64 t570, .int .i64 t571] 24 (0, 0)) (by (with_reducible repeat (first | refine bN ?_ _ | refine bD ?_ | refine bA ?_ _)); exact BK573.out)) : gb573 ≠ gb582))
                                        have n8_ := ak ((by rw [hg]; exact Nat.ne_of_gt (blk_lt (g := gb573) (o := .cells #[.int .i64 t570, .int .i64 t571] 24 (0, 0)) (by (with_reducible repeat (first | refine bN ?_ _ | refine bD ?_ | refine bA ?_ _)); exact BK573.out)) : gb582 ≠ gb573))
                                        have n9_ := ak ((by rw [hg]; exact Nat.ne_of_lt (blk_lt (g := gb577) (o := .cells #[.int .i64 t574, .int .i64 t575] 24 (0, 0)) (by (with_reducible repeat (first | refine bN ?_ _ | refine bD ?_ | refine bA ?_ _)); exact BK577.out)) : gb577 ≠ gb582))
                                        have n10_ := ak ((by rw [hg]; exact Nat.ne_of_gt (blk_lt (g := gb577) (o := .cells #[.int .i64 t574, .int .i64 t575] 24 (0, 0)) (by (with_reducible repeat (first | refine bN ?_ _ | refine bD ?_ | refine bA ?_ _)); exact BK577.out)) : gb582 ≠ gb577))
                                        have n11_ := ak ((by rw [hg]; exact Nat.ne_of_lt (blk_lt (g := gb581) (o := .cells #[.int .i64 0, .int .i64 0] 24 (0, 0)) (by (with_reducible repeat (first | refine bN ?_ _ | refine bD ?_ | refine bA ?_ _)); exact BK581.out)) : gb581 ≠ gb582))
                                        have n12_ := ak ((by rw [hg]; exact Nat.ne_of_gt (blk_lt (g := gb581) (o := .cells #[.int .i64 0, .int .i64 0] 24 (0, 0)) (by (with_reducible repeat (first | refine bN ?_ _ | refine bD ?_ | refine bA ?_ _)); exact BK581.out)) : gb582 ≠ gb581))
                                        clear BK573 BK577 BK581 HB
                                        have BK573 := n0_
                                        have BK577 := n1_
                                        have BK581 := n2_
                                        have HB := n3_
                                        have BK582 := n4_
                                        have GW582 := n5_
                                        have GE582 := n6_
                                        have NB573_582 := n7_
                                        have NB582_573 := n8_
                                        have NB577_582 := n9_
                                        have NB582_577 := n10_
                                        have NB581_582 := n11_
                                        have NB582_581 := n12_
                                        clear n0_ n1_ n2_ n3_ n4_ n5_ n6_ n7_ n8_ n9_ n10_ n11_ n12_ hb hbox hg
                                        refine hK.out _ _ ⟨((HB.out.cell (World.block_lt_of_cell? w _ hw579_0)).trans hw579_0), ((HB.out.cell (World.block_lt_of_cell? w _ hw579_1)).trans hw579_1), ((HB.out.cell (World.block_lt_of_cell? w _ hw580_0)).trans hw580_0), ((HB.out.cell (World.block_lt_of_cell? w _ hw580_1)).trans hw580_1)⟩ (fun hHeld => ?_)
                                        clear hK K
                                        refine norm_ (a' := ?_) ?_ ?_
                                        rotate_left
                                        · show Act.put _ (some 11) _ = _
                                          simp only [Act.put, List.setIfInBounds_toArray, List.set_cons_zero, List.set_cons_succ, i64_w, i32_w]
                                          rfl
                                        exact norm_ (by simp only [putAll, Act.put, List.setIfInBounds_toArray, List.set_cons_zero, List.set_cons_succ]) (hCont (gb581, gb582) _ ⟨hHeld, (by (with_reducible repeat (first | refine bN ?_ _ | refine bD ?_ | refine bA ?_ _)); exact BK573.out), (by (with_reducible repeat (first | refine bN ?_ _ | refine bD ?_ | refine bA ?_ _)); exact BK577.out), (by (with_reducible repeat (first | refine bN ?_ _ | refine bD ?_ | refine bA ?_ _)); exact BK581.out), (by (with_reducible repeat (first | refine bN ?_ _ | refine bD ?_ | refine bA ?_ _)); exact BK582.out), GW581.out, GE581.out, NB573_581.out, NB581_573.out, NB577_581.out, NB581_577.out, NB582_581.out, NB581_582.out, GW582.out, GE582.out, NB573_582.out, NB582_573.out, NB577_582.out, NB582_577.out, (by repeat (first | (with_reducible first | exact HB.out | apply wA | apply wN | apply wD | refine below_set ?_ GE573.out | refine below_set ?_ GE577.out | refine below_set ?_ GE581.out | refine below_set ?_ GE582.out) | exact HB.out))⟩)
                                      · skip
                                        refine box_step ?hg (N := 11) ?hd (cs := #[.int .i64 0, .int .i64 0]) (t := 24) ?hr ?_; (case hd => rfl); (case hg => rfl); (case hr => first | (go_simp; done) | (go_simp; rfl))
                                        intro gb582 hg w40 hbox hb
                                        have n0_ := ak (blk_below (g := gb573) (o := .cells #[.int .i64 t570, .int .i64 t571] 24 (0, 0)) (by (with_reducible repeat (first | refine bN ?_ _ | refine bD ?_ | refine bA ?_ _)); exact BK573.out) hb)
                                        have n1_ := ak (blk_below (g := gb577) (o := .cells #[.int .i64 t574, .int .i64 t575] 24 (0, 0)) (by (with_reducible repeat (first | refine bN ?_ _ | refine bD ?_ | refine bA ?_ _)); exact BK577.out) hb)
                                        have n2_ := ak (below_step (by repeat (first | (with_reducible first | exact HB.out | apply wA | apply wN | apply wD | refine below_set ?_ GE573.out | refine below_set ?_ GE577.out) | exact HB.out)) hb)
                                        have n3_ := ak (hbox)
                                        have n4_ := ak ((by rw [hg]; exact (below_size (by repeat (first | (with_reducible first | exact HB.out | apply wA | apply wN | apply wD | refine below_set ?_ GE573.out | refine below_set ?_ GE577.out) | exact HB.out))) : w.heap.size ≤ gb582))
                                        have n5_ := ak ((by rw [hg]; exact (below_size (by repeat (first | (with_reducible first | exact HB.out | apply wA | apply wN | apply wD | refine below_set ?_ GE573.out | refine below_set ?_ GE577.out) | exact HB.out))) : w.heap.size ≤ gb582))
                                        have n6_ := ak ((by rw [hg]; exact Nat.ne_of_lt (blk_lt (g := gb573) (o := .cells #[.int .i64 t570, .int .i64 t571] 24 (0, 0)) (by (with_reducible repeat (first | refine bN ?_ _ | refine bD ?_ | refine bA ?_ _)); exact BK573.out)) : gb573 ≠ gb582))
                                        have n7_ := ak ((by rw [hg]; exact Nat.ne_of_gt (blk_lt (g := gb573) (o := .cells #[.int .i64 t570, .int .i64 t571] 24 (0, 0)) (by (with_reducible repeat (first | refine bN ?_ _ | refine bD ?_ | refine bA ?_ _)); exact BK573.out)) : gb582 ≠ gb573))
                                        have n8_ := ak ((by rw [hg]; exact Nat.ne_of_lt (blk_lt (g := gb577) (o := .cells #[.int .i64 t574, .int .i64 t575] 24 (0, 0)) (by (with_reducible repeat (first | refine bN ?_ _ | refine bD ?_ | refine bA ?_ _)); exact BK577.out)) : gb577 ≠ gb582))
                                        have n9_ := ak ((by rw [hg]; exact Nat.ne_of_gt (blk_lt (g := gb577) (o := .cells #[.int .i64 t574, .int .i64 t575] 24 (0, 0)) (by (with_reducible repeat (first | refine bN ?_ _ | refine bD ?_ | refine bA ?_ _)); exact BK577.out)) : gb582 ≠ gb577))
                                        clear BK573 BK577 HB
                                        have BK573 := n0_
                                        have BK577 := n1_
                                        have HB := n2_
                                        have BK582 := n3_
                                        have GW582 := n4_
                                        have GE582 := n5_
                                        have NB573_582 := n6_
                                        have NB582_573 := n7_
                                        have NB577_582 := n8_
                                        have NB582_577 := n9_
                                        clear n0_ n1_ n2_ n3_ n4_ n5_ n6_ n7_ n8_ n9_ hb hbox hg
                                        refine hK.out _ _ ⟨((HB.out.cell (World.block_lt_of_cell? w _ hw579_0)).trans hw579_0), ((HB.out.cell (World.block_lt_of_cell? w _ hw579_1)).trans hw579_1), ((HB.out.cell (World.block_lt_of_cell? w _ hw580_0)).trans hw580_0), ((HB.out.cell (World.block_lt_of_cell? w _ hw580_1)).trans hw580_1)⟩ (fun hHeld => ?_)
                                        clear hK K
                                        refine norm_ (a' := ?_) ?_ ?_
                                        rotate_left
                                        · show Act.put _ (some 11) _ = _
                                          simp only [Act.put, List.setIfInBounds_toArray, List.set_cons_zero, List.set_cons_succ, i64_w, i32_w]
                                          rfl
                                        refine one_ (i := 12) (N := some 10) #[true, true, true, true, true, true, true, true, true, true, true, true, true, true, false, false] rfl rfl (one_of HT_.out (by kernel_rfl)) (by decide) (fun K hK => ?_)
                                        refine box_step ?hg (N := 10) ?hd (cs := #[.int .i64 0, .int .i64 0]) (t := 24) ?hr ?_; (case hd => rfl); (case hg => rfl); (case hr => first | (go_simp; done) | (go_simp; rfl))
                                        intro gb581 hg w41 hbox hb
                                        have n0_ := ak (blk_below (g := gb573) (o := .cells #[.int .i64 t570, .int .i64 t571] 24 (0, 0)) (by (with_reducible repeat (first | refine bN ?_ _ | refine bD ?_ | refine bA ?_ _)); exact BK573.out) hb)
                                        have n1_ := ak (blk_below (g := gb577) (o := .cells #[.int .i64 t574, .int .i64 t575] 24 (0, 0)) (by (with_reducible repeat (first | refine bN ?_ _ | refine bD ?_ | refine bA ?_ _)); exact BK577.out) hb)
                                        have n2_ := ak (blk_below (g := gb582) (o := .cells #[.int .i64 0, .int .i64 0] 24 (0, 0)) (by (with_reducible repeat (first | refine bN ?_ _ | refine bD ?_ | refine bA ?_ _)); exact BK582.out) hb)
                                        have n3_ := ak (below_step (by repeat (first | (with_reducible first | exact HB.out | apply wA | apply wN | apply wD | refine below_set ?_ GE573.out | refine below_set ?_ GE577.out | refine below_set ?_ GE582.out) | exact HB.out)) hb)
                                        have n4_ := ak (hbox)
                                        have n5_ := ak ((by rw [hg]; exact (below_size (by repeat (first | (with_reducible first | exact HB.out | apply wA | apply wN | apply wD | refine below_set ?_ GE573.out | refine below_set ?_ GE577.out | refine below_set ?_ GE582.out) | exact HB.out))) : w.heap.size ≤ gb581))
                                        have n6_ := ak ((by rw [hg]; exact (below_size (by repeat (first | (with_reducible first | exact HB.out | apply wA | apply wN | apply wD | refine below_set ?_ GE573.out | refine below_set ?_ GE577.out | refine below_set ?_ GE582.out) | exact HB.out))) : w.heap.size ≤ gb581))
                                        have n7_ := ak ((by rw [hg]; exact Nat.ne_of_lt (blk_lt (g := gb573) (o := .cells #[.int .i64 t570, .int .i64 t571] 24 (0, 0)) (by (with_reducible repeat (first | refine bN ?_ _ | refine bD ?_ | refine bA ?_ _)); exact BK573.out)) : gb573 ≠ gb581))
                                        have n8_ := ak ((by rw [hg]; exact Nat.ne_of_gt (blk_lt (g := gb573) (o := .cells #[.int .i64 t570, .int .i64 t571] 24 (0, 0)) (by (with_reducible repeat (first | refine bN ?_ _ | refine bD ?_ | refine bA ?_ _)); exact BK573.out)) : gb581 ≠ gb573))
                                        have n9_ := ak ((by rw [hg]; exact Nat.ne_of_lt (blk_lt (g := gb577) (o := .cells #[.int .i64 t574, .int .i64 t575] 24 (0, 0)) (by (with_reducible repeat (first | refine bN ?_ _ | refine bD ?_ | refine bA ?_ _)); exact BK577.out)) : gb577 ≠ gb581))
                                        have n10_ := ak ((by rw [hg]; exact Nat.ne_of_gt (blk_lt (g := gb577) (o := .cells #[.int .i64 t574, .int .i64 t575] 24 (0, 0)) (by (with_reducible repeat (first | refine bN ?_ _ | refine bD ?_ | refine bA ?_ _)); exact BK577.out)) : gb581 ≠ gb577))
                                        have n11_ := ak ((by rw [hg]; exact Nat.ne_of_lt (blk_lt (g := gb582) (o := .cells #[.int .i64 0, .int .i64 0] 24 (0, 0)) (by (with_reducible repeat (first | refine bN ?_ _ | refine bD ?_ | refine bA ?_ _)); exact BK582.out)) : gb582 ≠ gb581))
                                        have n12_ := ak ((by rw [hg]; exact Nat.ne_of_gt (blk_lt (g := gb582) (o := .cells #[.int .i64 0, .int .i64 0] 24 (0, 0)) (by (with_reducible repeat (first | refine bN ?_ _ | refine bD ?_ | refine bA ?_ _)); exact BK582.out)) : gb581 ≠ gb582))
                                        clear BK573 BK577 BK582 HB
                                        have BK573 := n0_
                                        have BK577 := n1_
                                        have BK582 := n2_
                                        have HB := n3_
                                        have BK581 := n4_
                                        have GW581 := n5_
                                        have GE581 := n6_
                                        have NB573_581 := n7_
                                        have NB581_573 := n8_
                                        have NB577_581 := n9_
                                        have NB581_577 := n10_
                                        have NB582_581 := n11_
                                        have NB581_582 := n12_
                                        clear n0_ n1_ n2_ n3_ n4_ n5_ n6_ n7_ n8_ n9_ n10_ n11_ n12_ hb hbox hg
                                        refine hK.out _ _ ⟨((HB.out.cell (World.block_lt_of_cell? w _ hw579_0)).trans hw579_0), ((HB.out.cell (World.block_lt_of_cell? w _ hw579_1)).trans hw579_1), ((HB.out.cell (World.block_lt_of_cell? w _ hw580_0)).trans hw580_0), ((HB.out.cell (World.block_lt_of_cell? w _ hw580_1)).trans hw580_1)⟩ (fun hHeld => ?_)
                                        clear hK K
                                        refine norm_ (a' := ?_) ?_ ?_
                                        rotate_left
                                        · show Act.put _ (some 10) _ = _
                                          simp only [Act.put, List.setIfInBounds_toArray, List.set_cons_zero, List.set_cons_succ, i64_w, i32_w]
                                          rfl
                                        exact norm_ (by simp only [putAll, Act.put, List.setIfInBounds_toArray, List.set_cons_zero, List.set_cons_succ]) (hCont (gb581, gb582) _ ⟨hHeld, (by (with_reducible repeat (first | refine bN ?_ _ | refine bD ?_ | refine bA ?_ _)); exact BK573.out), (by (with_reducible repeat (first | refine bN ?_ _ | refine bD ?_ | refine bA ?_ _)); exact BK577.out), (by (with_reducible repeat (first | refine bN ?_ _ | refine bD ?_ | refine bA ?_ _)); exact BK581.out), (by (with_reducible repeat (first | refine bN ?_ _ | refine bD ?_ | refine bA ?_ _)); exact BK582.out), GW581.out, GE581.out, NB573_581.out, NB581_573.out, NB577_581.out, NB581_577.out, NB582_581.out, NB581_582.out, GW582.out, GE582.out, NB573_582.out, NB582_573.out, NB577_582.out, NB582_577.out, (by repeat (first | (with_reducible first | exact HB.out | apply wA | apply wN | apply wD | refine below_set ?_ GE573.out | refine below_set ?_ GE577.out | refine below_set ?_ GE582.out | refine below_set ?_ GE581.out) | exact HB.out))⟩)
                                    rintro ⟨gb581, gb582⟩ w42 ⟨hS_, h0_, h1_, h2_, h3_, h4_, h5_, h6_, h7_, h8_, h9_, h10_, h11_, h12_, h13_, h14_, h15_, h16_, h17_, h18_⟩
                                    have n0_ : Aside0 (w42.heap[gb573]? = some (.cells #[.int .i64 t570, .int .i64 t571] 24 (0, 0))) := ⟨h0_⟩
                                    have n1_ : Aside0 (w42.heap[gb577]? = some (.cells #[.int .i64 t574, .int .i64 t575] 24 (0, 0))) := ⟨h1_⟩
                                    have n2_ : Aside0 (w42.heap[gb581]? = some (.cells #[.int .i64 0, .int .i64 0] 24 (0, 0))) := ⟨h2_⟩
                                    have n3_ : Aside0 (w42.heap[gb582]? = some (.cells #[.int .i64 0, .int .i64 0] 24 (0, 0))) := ⟨h3_⟩
                                    have n4_ : Aside0 (w.heap.size ≤ gb581) := ⟨h4_⟩
                                    have n5_ : Aside0 (w.heap.size ≤ gb581) := ⟨h5_⟩
                                    have n6_ : Aside0 (gb573 ≠ gb581) := ⟨h6_⟩
                                    have n7_ : Aside0 (gb581 ≠ gb573) := ⟨h7_⟩
                                    have n8_ : Aside0 (gb577 ≠ gb581) := ⟨h8_⟩
                                    have n9_ : Aside0 (gb581 ≠ gb577) := ⟨h9_⟩
                                    have n10_ : Aside0 (gb582 ≠ gb581) := ⟨h10_⟩
                                    have n11_ : Aside0 (gb581 ≠ gb582) := ⟨h11_⟩
                                    have n12_ : Aside0 (w.heap.size ≤ gb582) := ⟨h12_⟩
                                    have n13_ : Aside0 (w.heap.size ≤ gb582) := ⟨h13_⟩
                                    have n14_ : Aside0 (gb573 ≠ gb582) := ⟨h14_⟩
                                    have n15_ : Aside0 (gb582 ≠ gb573) := ⟨h15_⟩
                                    have n16_ : Aside0 (gb577 ≠ gb582) := ⟨h16_⟩
                                    have n17_ : Aside0 (gb582 ≠ gb577) := ⟨h17_⟩
                                    have n18_ : Aside0 (Below w.heap.size w w42) := ⟨h18_⟩
                                    clear BK573 BK577 HB h0_ h1_ h2_ h3_ h4_ h5_ h6_ h7_ h8_ h9_ h10_ h11_ h12_ h13_ h14_ h15_ h16_ h17_ h18_
                                    have BK573 := n0_
                                    have BK577 := n1_
                                    have BK581 := n2_
                                    have BK582 := n3_
                                    have GW581 := n4_
                                    have GE581 := n5_
                                    have NB573_581 := n6_
                                    have NB581_573 := n7_
                                    have NB577_581 := n8_
                                    have NB581_577 := n9_
                                    have NB582_581 := n10_
                                    have NB581_582 := n11_
                                    have GW582 := n12_
                                    have GE582 := n13_
                                    have NB573_582 := n14_
                                    have NB582_573 := n15_
                                    have NB577_582 := n16_
                                    have NB582_577 := n17_
                                    have HB := n18_
                                    clear n0_ n1_ n2_ n3_ n4_ n5_ n6_ n7_ n8_ n9_ n10_ n11_ n12_ n13_ n14_ n15_ n16_ n17_ n18_
                                    have hHeld : w42.cell? (ad579.add ((x9_1).toNat * 2)) = some (.int .i64 ((rd_T24 l0 x9_1).f0)) ∧ w42.cell? ⟨(ad579.add ((x9_1).toNat * 2)).block, (ad579.add ((x9_1).toNat * 2)).off + 1, none⟩ = some (.int .i64 ((rd_T24 l0 x9_1).f1)) ∧ w42.cell? (ad579.add (((ji20)).toNat * 2)) = some (.int .i64 ((rd_T24 l0 (ji20)).f0)) ∧ w42.cell? ⟨(ad579.add (((ji20)).toNat * 2)).block, (ad579.add (((ji20)).toNat * 2)).off + 1, none⟩ = some (.int .i64 ((rd_T24 l0 (ji20)).f1)) := hS_
                                    refine norm_ (a' := ?_) ?_ ?_
                                    rotate_left
                                    · simp only [putAll, Act.put, List.setIfInBounds_toArray, List.set_cons_zero, List.set_cons_succ]
                                      rfl
                                    refine one_ (i := 14) (N := none) #[true, true, true, true, true, true, true, true, true, true, true, true, true, true, true, false] rfl rfl (one_of HT_.out (by kernel_rfl)) (by decide) (fun K hK => ?_)
                                    have hs43 : w42.cell? ⟨gb581, 0, none⟩ = some (.int .i64 0) := (blk_cell BK581.out 0).trans rfl
                                    have hfs43 := blk_frozen BK581.out 0
                                    have hns43_0 := NB573_581.out
                                    have hns43_1 := NB577_581.out
                                    have hns43_3 := NB582_581.out
                                    have hms43_0 := NB581_573.out
                                    have hms43_1 := NB581_577.out
                                    have hms43_3 := NB581_582.out
                                    have hs44 : w42.cell? ⟨gb581, 1, none⟩ = some (.int .i64 0) := (blk_cell BK581.out 1).trans rfl
                                    have hfs44 := blk_frozen BK581.out 1
                                    have hns44_0 := NB573_581.out
                                    have hns44_1 := NB577_581.out
                                    have hns44_3 := NB582_581.out
                                    have hms44_0 := NB581_573.out
                                    have hms44_1 := NB581_577.out
                                    have hms44_3 := NB581_582.out
                                    refine skip_ (w1 := ?_) (by rfl) rfl ?_ ?_
                                    rotate_left
                                    · go_simp
                                      rfl
                                    refine hK.out _ _ ⟨((cell_far (p := ⟨gb581, _, none⟩) (by first | exact Nat.ne_of_lt (Nat.lt_of_lt_of_le (by have := World.block_lt_of_cell? _ _ hw579_0; first | rwa [add_block] at this | exact this) GW581.out) | (rw [add_block]; exact Nat.ne_of_lt (Nat.lt_of_lt_of_le (by have := World.block_lt_of_cell? _ _ hw579_0; first | rwa [add_block] at this | exact this) GW581.out)) | (show (Addr.add _ _).block ≠ _; rw [add_block]; exact Nat.ne_of_lt (Nat.lt_of_lt_of_le (by have := World.block_lt_of_cell? _ _ hw579_0; first | rwa [add_block] at this | exact this) GW581.out)) | (dsimp only; exact Nat.ne_of_lt (Nat.lt_of_lt_of_le (by have := World.block_lt_of_cell? _ _ hw579_0; first | rwa [add_block] at this | exact this) GW581.out))) _).trans (((cell_far (p := ⟨gb581, _, none⟩) (by first | exact Nat.ne_of_lt (Nat.lt_of_lt_of_le (by have := World.block_lt_of_cell? _ _ hw579_0; first | rwa [add_block] at this | exact this) GW581.out) | (rw [add_block]; exact Nat.ne_of_lt (Nat.lt_of_lt_of_le (by have := World.block_lt_of_cell? _ _ hw579_0; first | rwa [add_block] at this | exact this) GW581.out)) | (show (Addr.add _ _).block ≠ _; rw [add_block]; exact Nat.ne_of_lt (Nat.lt_of_lt_of_le (by have := World.block_lt_of_cell? _ _ hw579_0; first | rwa [add_block] at this | exact this) GW581.out)) | (dsimp only; exact Nat.ne_of_lt (Nat.lt_of_lt_of_le (by have := World.block_lt_of_cell? _ _ hw579_0; first | rwa [add_block] at this | exact this) GW581.out))) _).trans (hHeld.1)))), ((cell_far (p := ⟨gb581, _, none⟩) (by first | exact Nat.ne_of_lt (Nat.lt_of_lt_of_le (by have := World.block_lt_of_cell? _ _ hw579_1; first | rwa [add_block] at this | exact this) GW581.out) | (rw [add_block]; exact Nat.ne_of_lt (Nat.lt_of_lt_of_le (by have := World.block_lt_of_cell? _ _ hw579_1; first | rwa [add_block] at this | exact this) GW581.out)) | (show (Addr.add _ _).block ≠ _; rw [add_block]; exact Nat.ne_of_lt (Nat.lt_of_lt_of_le (by have := World.block_lt_of_cell? _ _ hw579_1; first | rwa [add_block] at this | exact this) GW581.out)) | (dsimp only; exact Nat.ne_of_lt (Nat.lt_of_lt_of_le (by have := World.block_lt_of_cell? _ _ hw579_1; first | rwa [add_block] at this | exact this) GW581.out))) _).trans (((cell_far (p := ⟨gb581, _, none⟩) (by first | exact Nat.ne_of_lt (Nat.lt_of_lt_of_le (by have := World.block_lt_of_cell? _ _ hw579_1; first | rwa [add_block] at this | exact this) GW581.out) | (rw [add_block]; exact Nat.ne_of_lt (Nat.lt_of_lt_of_le (by have := World.block_lt_of_cell? _ _ hw579_1; first | rwa [add_block] at this | exact this) GW581.out)) | (show (Addr.add _ _).block ≠ _; rw [add_block]; exact Nat.ne_of_lt (Nat.lt_of_lt_of_le (by have := World.block_lt_of_cell? _ _ hw579_1; first | rwa [add_block] at this | exact this) GW581.out)) | (dsimp only; exact Nat.ne_of_lt (Nat.lt_of_lt_of_le (by have := World.block_lt_of_cell? _ _ hw579_1; first | rwa [add_block] at this | exact this) GW581.out))) _).trans (hHeld.2.1)))), ((cell_far (p := ⟨gb581, _, none⟩) (by first | exact Nat.ne_of_lt (Nat.lt_of_lt_of_le (by have := World.block_lt_of_cell? _ _ hw580_0; first | rwa [add_block] at this | exact this) GW581.out) | (rw [add_block]; exact Nat.ne_of_lt (Nat.lt_of_lt_of_le (by have := World.block_lt_of_cell? _ _ hw580_0; first | rwa [add_block] at this | exact this) GW581.out)) | (show (Addr.add _ _).block ≠ _; rw [add_block]; exact Nat.ne_of_lt (Nat.lt_of_lt_of_le (by have := World.block_lt_of_cell? _ _ hw580_0; first | rwa [add_block] at this | exact this) GW581.out)) | (dsimp only; exact Nat.ne_of_lt (Nat.lt_of_lt_of_le (by have := World.block_lt_of_cell? _ _ hw580_0; first | rwa [add_block] at this | exact this) GW581.out))) _).trans (((cell_far (p := ⟨gb581, _, none⟩) (by first | exact Nat.ne_of_lt (Nat.lt_of_lt_of_le (by have := World.block_lt_of_cell? _ _ hw580_0; first | rwa [add_block] at this | exact this) GW581.out) | (rw [add_block]; exact Nat.ne_of_lt (Nat.lt_of_lt_of_le (by have := World.block_lt_of_cell? _ _ hw580_0; first | rwa [add_block] at this | exact this) GW581.out)) | (show (Addr.add _ _).block ≠ _; rw [add_block]; exact Nat.ne_of_lt (Nat.lt_of_lt_of_le (by have := World.block_lt_of_cell? _ _ hw580_0; first | rwa [add_block] at this | exact this) GW581.out)) | (dsimp only; exact Nat.ne_of_lt (Nat.lt_of_lt_of_le (by have := World.block_lt_of_cell? _ _ hw580_0; first | rwa [add_block] at this | exact this) GW581.out))) _).trans (hHeld.2.2.1)))), ((cell_far (p := ⟨gb581, _, none⟩) (by first | exact Nat.ne_of_lt (Nat.lt_of_lt_of_le (by have := World.block_lt_of_cell? _ _ hw580_1; first | rwa [add_block] at this | exact this) GW581.out) | (rw [add_block]; exact Nat.ne_of_lt (Nat.lt_of_lt_of_le (by have := World.block_lt_of_cell? _ _ hw580_1; first | rwa [add_block] at this | exact this) GW581.out)) | (show (Addr.add _ _).block ≠ _; rw [add_block]; exact Nat.ne_of_lt (Nat.lt_of_lt_of_le (by have := World.block_lt_of_cell? _ _ hw580_1; first | rwa [add_block] at this | exact this) GW581.out)) | (dsimp only; exact Nat.ne_of_lt (Nat.lt_of_lt_of_le (by have := World.block_lt_of_cell? _ _ hw580_1; first | rwa [add_block] at this | exact this) GW581.out))) _).trans (((cell_far (p := ⟨gb581, _, none⟩) (by first | exact Nat.ne_of_lt (Nat.lt_of_lt_of_le (by have := World.block_lt_of_cell? _ _ hw580_1; first | rwa [add_block] at this | exact this) GW581.out) | (rw [add_block]; exact Nat.ne_of_lt (Nat.lt_of_lt_of_le (by have := World.block_lt_of_cell? _ _ hw580_1; first | rwa [add_block] at this | exact this) GW581.out)) | (show (Addr.add _ _).block ≠ _; rw [add_block]; exact Nat.ne_of_lt (Nat.lt_of_lt_of_le (by have := World.block_lt_of_cell? _ _ hw580_1; first | rwa [add_block] at this | exact this) GW581.out)) | (dsimp only; exact Nat.ne_of_lt (Nat.lt_of_lt_of_le (by have := World.block_lt_of_cell? _ _ hw580_1; first | rwa [add_block] at this | exact this) GW581.out))) _).trans (hHeld.2.2.2))))⟩ (fun hHeld => ?_)
                                    clear hK K
                                    refine one_ (i := 15) (N := none) #[true, true, true, true, true, true, true, true, true, true, true, true, true, true, true, true] rfl rfl (one_of HT_.out (by kernel_rfl)) (by decide) (fun K hK => ?_)
                                    have hs45 : w42.cell? ⟨gb582, 0, none⟩ = some (.int .i64 0) := (blk_cell BK582.out 0).trans rfl
                                    have hfs45 := blk_frozen BK582.out 0
                                    have hns45_0 := NB573_582.out
                                    have hns45_1 := NB577_582.out
                                    have hns45_2 := NB581_582.out
                                    have hms45_0 := NB582_573.out
                                    have hms45_1 := NB582_577.out
                                    have hms45_2 := NB582_581.out
                                    have hs46 : w42.cell? ⟨gb582, 1, none⟩ = some (.int .i64 0) := (blk_cell BK582.out 1).trans rfl
                                    have hfs46 := blk_frozen BK582.out 1
                                    have hns46_0 := NB573_582.out
                                    have hns46_1 := NB577_582.out
                                    have hns46_2 := NB581_582.out
                                    have hms46_0 := NB582_573.out
                                    have hms46_1 := NB582_577.out
                                    have hms46_2 := NB582_581.out
                                    refine skip_ (w1 := ?_) (by rfl) rfl ?_ ?_
                                    rotate_left
                                    · go_simp
                                      rfl
                                    refine hK.out _ _ ⟨((cell_far (p := ⟨gb582, _, none⟩) (by first | exact Nat.ne_of_lt (Nat.lt_of_lt_of_le (by have := World.block_lt_of_cell? _ _ hw579_0; first | rwa [add_block] at this | exact this) GW582.out) | (rw [add_block]; exact Nat.ne_of_lt (Nat.lt_of_lt_of_le (by have := World.block_lt_of_cell? _ _ hw579_0; first | rwa [add_block] at this | exact this) GW582.out)) | (show (Addr.add _ _).block ≠ _; rw [add_block]; exact Nat.ne_of_lt (Nat.lt_of_lt_of_le (by have := World.block_lt_of_cell? _ _ hw579_0; first | rwa [add_block] at this | exact this) GW582.out)) | (dsimp only; exact Nat.ne_of_lt (Nat.lt_of_lt_of_le (by have := World.block_lt_of_cell? _ _ hw579_0; first | rwa [add_block] at this | exact this) GW582.out))) _).trans (((cell_far (p := ⟨gb582, _, none⟩) (by first | exact Nat.ne_of_lt (Nat.lt_of_lt_of_le (by have := World.block_lt_of_cell? _ _ hw579_0; first | rwa [add_block] at this | exact this) GW582.out) | (rw [add_block]; exact Nat.ne_of_lt (Nat.lt_of_lt_of_le (by have := World.block_lt_of_cell? _ _ hw579_0; first | rwa [add_block] at this | exact this) GW582.out)) | (show (Addr.add _ _).block ≠ _; rw [add_block]; exact Nat.ne_of_lt (Nat.lt_of_lt_of_le (by have := World.block_lt_of_cell? _ _ hw579_0; first | rwa [add_block] at this | exact this) GW582.out)) | (dsimp only; exact Nat.ne_of_lt (Nat.lt_of_lt_of_le (by have := World.block_lt_of_cell? _ _ hw579_0; first | rwa [add_block] at this | exact this) GW582.out))) _).trans (hHeld.1)))), ((cell_far (p := ⟨gb582, _, none⟩) (by first | exact Nat.ne_of_lt (Nat.lt_of_lt_of_le (by have := World.block_lt_of_cell? _ _ hw579_1; first | rwa [add_block] at this | exact this) GW582.out) | (rw [add_block]; exact Nat.ne_of_lt (Nat.lt_of_lt_of_le (by have := World.block_lt_of_cell? _ _ hw579_1; first | rwa [add_block] at this | exact this) GW582.out)) | (show (Addr.add _ _).block ≠ _; rw [add_block]; exact Nat.ne_of_lt (Nat.lt_of_lt_of_le (by have := World.block_lt_of_cell? _ _ hw579_1; first | rwa [add_block] at this | exact this) GW582.out)) | (dsimp only; exact Nat.ne_of_lt (Nat.lt_of_lt_of_le (by have := World.block_lt_of_cell? _ _ hw579_1; first | rwa [add_block] at this | exact this) GW582.out))) _).trans (((cell_far (p := ⟨gb582, _, none⟩) (by first | exact Nat.ne_of_lt (Nat.lt_of_lt_of_le (by have := World.block_lt_of_cell? _ _ hw579_1; first | rwa [add_block] at this | exact this) GW582.out) | (rw [add_block]; exact Nat.ne_of_lt (Nat.lt_of_lt_of_le (by have := World.block_lt_of_cell? _ _ hw579_1; first | rwa [add_block] at this | exact this) GW582.out)) | (show (Addr.add _ _).block ≠ _; rw [add_block]; exact Nat.ne_of_lt (Nat.lt_of_lt_of_le (by have := World.block_lt_of_cell? _ _ hw579_1; first | rwa [add_block] at this | exact this) GW582.out)) | (dsimp only; exact Nat.ne_of_lt (Nat.lt_of_lt_of_le (by have := World.block_lt_of_cell? _ _ hw579_1; first | rwa [add_block] at this | exact this) GW582.out))) _).trans (hHeld.2.1)))), ((cell_far (p := ⟨gb582, _, none⟩) (by first | exact Nat.ne_of_lt (Nat.lt_of_lt_of_le (by have := World.block_lt_of_cell? _ _ hw580_0; first | rwa [add_block] at this | exact this) GW582.out) | (rw [add_block]; exact Nat.ne_of_lt (Nat.lt_of_lt_of_le (by have := World.block_lt_of_cell? _ _ hw580_0; first | rwa [add_block] at this | exact this) GW582.out)) | (show (Addr.add _ _).block ≠ _; rw [add_block]; exact Nat.ne_of_lt (Nat.lt_of_lt_of_le (by have := World.block_lt_of_cell? _ _ hw580_0; first | rwa [add_block] at this | exact this) GW582.out)) | (dsimp only; exact Nat.ne_of_lt (Nat.lt_of_lt_of_le (by have := World.block_lt_of_cell? _ _ hw580_0; first | rwa [add_block] at this | exact this) GW582.out))) _).trans (((cell_far (p := ⟨gb582, _, none⟩) (by first | exact Nat.ne_of_lt (Nat.lt_of_lt_of_le (by have := World.block_lt_of_cell? _ _ hw580_0; first | rwa [add_block] at this | exact this) GW582.out) | (rw [add_block]; exact Nat.ne_of_lt (Nat.lt_of_lt_of_le (by have := World.block_lt_of_cell? _ _ hw580_0; first | rwa [add_block] at this | exact this) GW582.out)) | (show (Addr.add _ _).block ≠ _; rw [add_block]; exact Nat.ne_of_lt (Nat.lt_of_lt_of_le (by have := World.block_lt_of_cell? _ _ hw580_0; first | rwa [add_block] at this | exact this) GW582.out)) | (dsimp only; exact Nat.ne_of_lt (Nat.lt_of_lt_of_le (by have := World.block_lt_of_cell? _ _ hw580_0; first | rwa [add_block] at this | exact this) GW582.out))) _).trans (hHeld.2.2.1)))), ((cell_far (p := ⟨gb582, _, none⟩) (by first | exact Nat.ne_of_lt (Nat.lt_of_lt_of_le (by have := World.block_lt_of_cell? _ _ hw580_1; first | rwa [add_block] at this | exact this) GW582.out) | (rw [add_block]; exact Nat.ne_of_lt (Nat.lt_of_lt_of_le (by have := World.block_lt_of_cell? _ _ hw580_1; first | rwa [add_block] at this | exact this) GW582.out)) | (show (Addr.add _ _).block ≠ _; rw [add_block]; exact Nat.ne_of_lt (Nat.lt_of_lt_of_le (by have := World.block_lt_of_cell? _ _ hw580_1; first | rwa [add_block] at this | exact this) GW582.out)) | (dsimp only; exact Nat.ne_of_lt (Nat.lt_of_lt_of_le (by have := World.block_lt_of_cell? _ _ hw580_1; first | rwa [add_block] at this | exact this) GW582.out))) _).trans (((cell_far (p := ⟨gb582, _, none⟩) (by first | exact Nat.ne_of_lt (Nat.lt_of_lt_of_le (by have := World.block_lt_of_cell? _ _ hw580_1; first | rwa [add_block] at this | exact this) GW582.out) | (rw [add_block]; exact Nat.ne_of_lt (Nat.lt_of_lt_of_le (by have := World.block_lt_of_cell? _ _ hw580_1; first | rwa [add_block] at this | exact this) GW582.out)) | (show (Addr.add _ _).block ≠ _; rw [add_block]; exact Nat.ne_of_lt (Nat.lt_of_lt_of_le (by have := World.block_lt_of_cell? _ _ hw580_1; first | rwa [add_block] at this | exact this) GW582.out)) | (dsimp only; exact Nat.ne_of_lt (Nat.lt_of_lt_of_le (by have := World.block_lt_of_cell? _ _ hw580_1; first | rwa [add_block] at this | exact this) GW582.out))) _).trans (hHeld.2.2.2))))⟩ (fun hHeld => ?_)
                                    clear hK K
                                    refine done_ (done_of HT_.out (by kernel_rfl)) ?_
                                    have hnb47 := NB581_573.out
                                    have hnc47 := NB573_581.out
                                    have hnb48 := NB581_577.out
                                    have hnc48 := NB577_581.out
                                    have hnb49 := NB581_582.out
                                    have hnc49 := NB582_581.out
                                    have hcz50_0 : w42.cell? ⟨gb581, 0, none⟩ = some (.int .i64 0) := (blk_cell BK581.out 0).trans rfl
                                    have hcz50_1 : w42.cell? ⟨gb581, 1, none⟩ = some (.int .i64 0) := (blk_cell BK581.out 1).trans rfl
                                    have hfz50_0 := blk_frozen BK581.out 0
                                    have hfz50_1 := blk_frozen BK581.out 1
                                    have hnb51 := NB582_573.out
                                    have hnc51 := NB573_582.out
                                    have hnb52 := NB582_577.out
                                    have hnc52 := NB577_582.out
                                    have hcz53_0 : w42.cell? ⟨gb582, 0, none⟩ = some (.int .i64 0) := (blk_cell BK582.out 0).trans rfl
                                    have hcz53_1 : w42.cell? ⟨gb582, 1, none⟩ = some (.int .i64 0) := (blk_cell BK582.out 1).trans rfl
                                    have hfz53_0 := blk_frozen BK582.out 0
                                    have hfz53_1 := blk_frozen BK582.out 1
                                    try go_wp2_with (first | ((with_reducible refine gate_callee (f := 21) rfl ?_); refine goesL_ (some 69) rfl rfl Tryd.func21 (by kernel_rfl) rfl #[.agg #[.int .i64 ((rd_T24 l0 x9_1).f0), .int .i64 ((rd_T24 l0 x9_1).f1)], .agg #[.int .i64 ((rd_T24 l0 (ji20)).f0), .int .i64 ((rd_T24 l0 (ji20)).f1)]] rfl (by (try simp only [List.map_toArray, List.map_cons, List.map_nil]); first | done | (simp only [hji20]; rfl) | rfl | (simp only [List.length_drop, List.length_take]; rfl)) ?_; (with_reducible refine (spans_Meet.calls k1 ((rd_T24 l0 x9_1).f0) ((rd_T24 l0 x9_1).f1) ((rd_T24 l0 (ji20)).f0) ((rd_T24 l0 (ji20)).f1) t583 t584 t585 t586 _ A23.out).mono ?_); rintro e w54 ⟨rfl, hb⟩; refine ⟨_, rfl, ?_⟩; have n0_ := ak (blk_below (g := gb573) (o := .cells #[.int .i64 t570, .int .i64 t571] 24 (0, 0)) (by (with_reducible repeat (first | refine bN ?_ _ | refine bD ?_ | refine bA ?_ _)); refine blk_far ?_ NB573_582.out _; (with_reducible repeat (first | refine bN ?_ _ | refine bD ?_ | refine bA ?_ _)); refine blk_far ?_ NB573_582.out _; (with_reducible repeat (first | refine bN ?_ _ | refine bD ?_ | refine bA ?_ _)); refine blk_far ?_ NB573_581.out _; (with_reducible repeat (first | refine bN ?_ _ | refine bD ?_ | refine bA ?_ _)); refine blk_far ?_ NB573_581.out _; (with_reducible repeat (first | refine bN ?_ _ | refine bD ?_ | refine bA ?_ _)); exact BK573.out) hb); have n1_ := ak (blk_below (g := gb577) (o := .cells #[.int .i64 t574, .int .i64 t575] 24 (0, 0)) (by (with_reducible repeat (first | refine bN ?_ _ | refine bD ?_ | refine bA ?_ _)); refine blk_far ?_ NB577_582.out _; (with_reducible repeat (first | refine bN ?_ _ | refine bD ?_ | refine bA ?_ _)); refine blk_far ?_ NB577_582.out _; (with_reducible repeat (first | refine bN ?_ _ | refine bD ?_ | refine bA ?_ _)); refine blk_far ?_ NB577_581.out _; (with_reducible repeat (first | refine bN ?_ _ | refine bD ?_ | refine bA ?_ _)); refine blk_far ?_ NB577_581.out _; (with_reducible repeat (first | refine bN ?_ _ | refine bD ?_ | refine bA ?_ _)); exact BK577.out) hb); have n2_ := ak (blk_below (g := gb581) (o := .cells #[.int .i64 ((rd_T24 l0 x9_1).f0), .int .i64 ((rd_T24 l0 x9_1).f1)] 24 (0, 0)) (by (with_reducible repeat (first | refine bN ?_ _ | refine bD ?_ | refine bA ?_ _)); refine blk_far ?_ NB581_582.out _; (with_reducible repeat (first | refine bN ?_ _ | refine bD ?_ | refine bA ?_ _)); refine blk_far ?_ NB581_582.out _; (with_reducible repeat (first | refine bN ?_ _ | refine bD ?_ | refine bA ?_ _)); refine blk_put (cs := #[.int .i64 ((rd_T24 l0 x9_1).f0), .int .i64 0]) ?_ 1 _ rfl; (with_reducible repeat (first | refine bN ?_ _ | refine bD ?_ | refine bA ?_ _)); refine blk_put (cs := #[.int .i64 0, .int .i64 0]) ?_ 0 _ rfl; (with_reducible repeat (first | refine bN ?_ _ | refine bD ?_ | refine bA ?_ _)); exact BK581.out) hb); have n3_ := ak (blk_below (g := gb582) (o := .cells #[.int .i64 ((rd_T24 l0 (ji20)).f0), .int .i64 ((rd_T24 l0 (ji20)).f1)] 24 (0, 0)) (by (with_reducible repeat (first | refine bN ?_ _ | refine bD ?_ | refine bA ?_ _)); refine blk_put (cs := #[.int .i64 ((rd_T24 l0 (ji20)).f0), .int .i64 0]) ?_ 1 _ rfl; (with_reducible repeat (first | refine bN ?_ _ | refine bD ?_ | refine bA ?_ _)); refine blk_put (cs := #[.int .i64 0, .int .i64 0]) ?_ 0 _ rfl; (with_reducible repeat (first | refine bN ?_ _ | refine bD ?_ | refine bA ?_ _)); refine blk_far ?_ NB582_581.out _; (with_reducible repeat (first | refine bN ?_ _ | refine bD ?_ | refine bA ?_ _)); refine blk_far ?_ NB582_581.out _; (with_reducible repeat (first | refine bN ?_ _ | refine bD ?_ | refine bA ?_ _)); exact BK582.out) hb); have n4_ := ak (below_step (by repeat (first | (with_reducible first | exact HB.out | apply wA | apply wN | apply wD | refine below_set ?_ GE573.out | refine below_set ?_ GE577.out | refine below_set ?_ GE581.out | refine below_set ?_ GE582.out) | exact HB.out)) hb); clear BK573; clear BK577; clear BK581; clear BK582; clear HB; have BK573 := n0_; have BK577 := n1_; have BK581 := n2_; have BK582 := n3_; have HB := n4_; clear n0_ n1_ n2_ n3_ n4_; (try clear hb); (try clear hb2); (try clear hk); (try clear hi)) | ((with_reducible refine gate_dst (N := 12) rfl ?_); refine box_event ?hg (N := 12) ?hd (cs := #[.int .i64 0, .int .i64 0]) (t := 24) ?hr ?_; (case hd => rfl); (case hg => rfl); (case hr => first | (go_simp; done) | (go_simp; rfl)); intro gb587 hg w55 hbox hb; have n0_ := ak (blk_below (g := gb573) (o := .cells #[.int .i64 t570, .int .i64 t571] 24 (0, 0)) (by (with_reducible repeat (first | refine bN ?_ _ | refine bD ?_ | refine bA ?_ _)); exact BK573.out) hb); have n1_ := ak (blk_below (g := gb577) (o := .cells #[.int .i64 t574, .int .i64 t575] 24 (0, 0)) (by (with_reducible repeat (first | refine bN ?_ _ | refine bD ?_ | refine bA ?_ _)); exact BK577.out) hb); have n2_ := ak (blk_below (g := gb581) (o := .cells #[.int .i64 ((rd_T24 l0 x9_1).f0), .int .i64 ((rd_T24 l0 x9_1).f1)] 24 (0, 0)) (by (with_reducible repeat (first | refine bN ?_ _ | refine bD ?_ | refine bA ?_ _)); exact BK581.out) hb); have n3_ := ak (blk_below (g := gb582) (o := .cells #[.int .i64 ((rd_T24 l0 (ji20)).f0), .int .i64 ((rd_T24 l0 (ji20)).f1)] 24 (0, 0)) (by (with_reducible repeat (first | refine bN ?_ _ | refine bD ?_ | refine bA ?_ _)); exact BK582.out) hb); have n4_ := ak (below_step (by repeat (first | (with_reducible first | exact HB.out | apply wA | apply wN | apply wD | refine below_set ?_ GE573.out | refine below_set ?_ GE577.out | refine below_set ?_ GE581.out | refine below_set ?_ GE582.out) | exact HB.out)) hb); have n5_ := ak (hbox); have n6_ := ak ((by rw [hg]; exact (below_size (by repeat (first | (with_reducible first | exact HB.out | apply wA | apply wN | apply wD | refine below_set ?_ GE573.out | refine below_set ?_ GE577.out | refine below_set ?_ GE581.out | refine below_set ?_ GE582.out) | exact HB.out))) : w.heap.size ≤ gb587)); have n7_ := ak ((by rw [hg]; exact (below_size (by repeat (first | (with_reducible first | exact HB.out | apply wA | apply wN | apply wD | refine below_set ?_ GE573.out | refine below_set ?_ GE577.out | refine below_set ?_ GE581.out | refine below_set ?_ GE582.out) | exact HB.out))) : w.heap.size ≤ gb587)); have n8_ := ak ((by rw [hg]; exact Nat.ne_of_lt (blk_lt (g := gb573) (o := .cells #[.int .i64 t570, .int .i64 t571] 24 (0, 0)) (by (with_reducible repeat (first | refine bN ?_ _ | refine bD ?_ | refine bA ?_ _)); exact BK573.out)) : gb573 ≠ gb587)); have n9_ := ak ((by rw [hg]; exact Nat.ne_of_gt (blk_lt (g := gb573) (o := .cells #[.int .i64 t570, .int .i64 t571] 24 (0, 0)) (by (with_reducible repeat (first | refine bN ?_ _ | refine bD ?_ | refine bA ?_ _)); exact BK573.out)) : gb587 ≠ gb573)); have n10_ := ak ((by rw [hg]; exact Nat.ne_of_lt (blk_lt (g := gb577) (o := .cells #[.int .i64 t574, .int .i64 t575] 24 (0, 0)) (by (with_reducible repeat (first | refine bN ?_ _ | refine bD ?_ | refine bA ?_ _)); exact BK577.out)) : gb577 ≠ gb587)); have n11_ := ak ((by rw [hg]; exact Nat.ne_of_gt (blk_lt (g := gb577) (o := .cells #[.int .i64 t574, .int .i64 t575] 24 (0, 0)) (by (with_reducible repeat (first | refine bN ?_ _ | refine bD ?_ | refine bA ?_ _)); exact BK577.out)) : gb587 ≠ gb577)); have n12_ := ak ((by rw [hg]; exact Nat.ne_of_lt (blk_lt (g := gb581) (o := .cells #[.int .i64 ((rd_T24 l0 x9_1).f0), .int .i64 ((rd_T24 l0 x9_1).f1)] 24 (0, 0)) (by (with_reducible repeat (first | refine bN ?_ _ | refine bD ?_ | refine bA ?_ _)); exact BK581.out)) : gb581 ≠ gb587)); have n13_ := ak ((by rw [hg]; exact Nat.ne_of_gt (blk_lt (g := gb581) (o := .cells #[.int .i64 ((rd_T24 l0 x9_1).f0), .int .i64 ((rd_T24 l0 x9_1).f1)] 24 (0, 0)) (by (with_reducible repeat (first | refine bN ?_ _ | refine bD ?_ | refine bA ?_ _)); exact BK581.out)) : gb587 ≠ gb581)); have n14_ := ak ((by rw [hg]; exact Nat.ne_of_lt (blk_lt (g := gb582) (o := .cells #[.int .i64 ((rd_T24 l0 (ji20)).f0), .int .i64 ((rd_T24 l0 (ji20)).f1)] 24 (0, 0)) (by (with_reducible repeat (first | refine bN ?_ _ | refine bD ?_ | refine bA ?_ _)); exact BK582.out)) : gb582 ≠ gb587)); have n15_ := ak ((by rw [hg]; exact Nat.ne_of_gt (blk_lt (g := gb582) (o := .cells #[.int .i64 ((rd_T24 l0 (ji20)).f0), .int .i64 ((rd_T24 l0 (ji20)).f1)] 24 (0, 0)) (by (with_reducible repeat (first | refine bN ?_ _ | refine bD ?_ | refine bA ?_ _)); exact BK582.out)) : gb587 ≠ gb582)); clear BK573; clear BK577; clear BK581; clear BK582; clear HB; have BK573 := n0_; have BK577 := n1_; have BK581 := n2_; have BK582 := n3_; have HB := n4_; have BK587 := n5_; have GW587 := n6_; have GE587 := n7_; have NB573_587 := n8_; have NB587_573 := n9_; have NB577_587 := n10_; have NB587_577 := n11_; have NB581_587 := n12_; have NB587_581 := n13_; have NB582_587 := n14_; have NB587_582 := n15_; clear n0_ n1_ n2_ n3_ n4_ n5_ n6_ n7_ n8_ n9_ n10_ n11_ n12_ n13_ n14_ n15_; clear hb hbox hg; have hnb56 := NB587_573.out; have hnc56 := NB573_587.out; have hnb57 := NB587_577.out; have hnc57 := NB577_587.out; have hnb58 := NB587_581.out; have hnc58 := NB581_587.out; have hnb59 := NB587_582.out; have hnc59 := NB582_587.out; have hcz60_0 : w55.cell? ⟨gb587, 0, none⟩ = some (.int .i64 0) := (blk_cell BK587.out 0).trans rfl; have hcz60_1 : w55.cell? ⟨gb587, 1, none⟩ = some (.int .i64 0) := (blk_cell BK587.out 1).trans rfl; have hfz60_0 := blk_frozen BK587.out 0; have hfz60_1 := blk_frozen BK587.out 1; have hcz61_0 : w55.cell? ⟨gb581, 0, none⟩ = some (.int .i64 ((rd_T24 l0 x9_1).f0)) := (blk_cell BK581.out 0).trans rfl; have hcz61_1 : w55.cell? ⟨gb581, 1, none⟩ = some (.int .i64 ((rd_T24 l0 x9_1).f1)) := (blk_cell BK581.out 1).trans rfl; have hfz61_0 := blk_frozen BK581.out 0; have hfz61_1 := blk_frozen BK581.out 1; have hcz62_0 : w55.cell? ⟨gb582, 0, none⟩ = some (.int .i64 ((rd_T24 l0 (ji20)).f0)) := (blk_cell BK582.out 0).trans rfl; have hcz62_1 : w55.cell? ⟨gb582, 1, none⟩ = some (.int .i64 ((rd_T24 l0 (ji20)).f1)) := (blk_cell BK582.out 1).trans rfl; have hfz62_0 := blk_frozen BK582.out 0; have hfz62_1 := blk_frozen BK582.out 1) | ((with_reducible refine gate_callee (f := 36) rfl ?_); refine goesL_ (some 76) rfl rfl Tryd.func36 (by kernel_rfl) rfl #[.agg #[.int .i64 ((rd_T24 l0 x9_1).f0), .int .i64 ((rd_T24 l0 x9_1).f1)], .agg #[.int .i64 ((rd_T24 l0 (ji20)).f0), .int .i64 ((rd_T24 l0 (ji20)).f1)]] rfl (by (try simp only [List.map_toArray, List.map_cons, List.map_nil]); first | done | (simp only [hji20]; rfl) | rfl | (simp only [List.length_drop, List.length_take]; rfl)) ?_; (with_reducible refine (mummerref03_Meet.calls k1 ((rd_T24 l0 x9_1).f0) ((rd_T24 l0 x9_1).f1) ((rd_T24 l0 (ji20)).f0) ((rd_T24 l0 (ji20)).f1) t588 t589 t590 t591 _ A24.out).mono ?_); rintro e w63 ⟨rfl, hb⟩; refine ⟨_, rfl, ?_⟩; have n0_ := ak (blk_below (g := gb573) (o := .cells #[.int .i64 t570, .int .i64 t571] 24 (0, 0)) (by (with_reducible repeat (first | refine bN ?_ _ | refine bD ?_ | refine bA ?_ _)); refine blk_far ?_ NB573_587.out _; (with_reducible repeat (first | refine bN ?_ _ | refine bD ?_ | refine bA ?_ _)); refine blk_far ?_ NB573_587.out _; (with_reducible repeat (first | refine bN ?_ _ | refine bD ?_ | refine bA ?_ _)); exact BK573.out) hb); have n1_ := ak (blk_below (g := gb577) (o := .cells #[.int .i64 t574, .int .i64 t575] 24 (0, 0)) (by (with_reducible repeat (first | refine bN ?_ _ | refine bD ?_ | refine bA ?_ _)); refine blk_far ?_ NB577_587.out _; (with_reducible repeat (first | refine bN ?_ _ | refine bD ?_ | refine bA ?_ _)); refine blk_far ?_ NB577_587.out _; (with_reducible repeat (first | refine bN ?_ _ | refine bD ?_ | refine bA ?_ _)); exact BK577.out) hb); have n2_ := ak (blk_below (g := gb581) (o := .cells #[.int .i64 ((rd_T24 l0 x9_1).f0), .int .i64 ((rd_T24 l0 x9_1).f1)] 24 (0, 0)) (by (with_reducible repeat (first | refine bN ?_ _ | refine bD ?_ | refine bA ?_ _)); refine blk_far ?_ NB581_587.out _; (with_reducible repeat (first | refine bN ?_ _ | refine bD ?_ | refine bA ?_ _)); refine blk_far ?_ NB581_587.out _; (with_reducible repeat (first | refine bN ?_ _ | refine bD ?_ | refine bA ?_ _)); exact BK581.out) hb); have n3_ := ak (blk_below (g := gb582) (o := .cells #[.int .i64 ((rd_T24 l0 (ji20)).f0), .int .i64 ((rd_T24 l0 (ji20)).f1)] 24 (0, 0)) (by (with_reducible repeat (first | refine bN ?_ _ | refine bD ?_ | refine bA ?_ _)); refine blk_far ?_ NB582_587.out _; (with_reducible repeat (first | refine bN ?_ _ | refine bD ?_ | refine bA ?_ _)); refine blk_far ?_ NB582_587.out _; (with_reducible repeat (first | refine bN ?_ _ | refine bD ?_ | refine bA ?_ _)); exact BK582.out) hb); have n4_ := ak (blk_below (g := gb587) (o := .cells #[.int .i64 t583, .int .i64 t584] 24 (0, 0)) (by (with_reducible repeat (first | refine bN ?_ _ | refine bD ?_ | refine bA ?_ _)); refine blk_put (cs := #[.int .i64 t583, .int .i64 0]) ?_ 1 _ rfl; (with_reducible repeat (first | refine bN ?_ _ | refine bD ?_ | refine bA ?_ _)); refine blk_put (cs := #[.int .i64 0, .int .i64 0]) ?_ 0 _ rfl; (with_reducible repeat (first | refine bN ?_ _ | refine bD ?_ | refine bA ?_ _)); exact BK587.out) hb); have n5_ := ak (below_step (by repeat (first | (with_reducible first | exact HB.out | apply wA | apply wN | apply wD | refine below_set ?_ GE573.out | refine below_set ?_ GE577.out | refine below_set ?_ GE581.out | refine below_set ?_ GE582.out | refine below_set ?_ GE587.out) | exact HB.out)) hb); clear BK573; clear BK577; clear BK581; clear BK582; clear BK587; clear HB; have BK573 := n0_; have BK577 := n1_; have BK581 := n2_; have BK582 := n3_; have BK587 := n4_; have HB := n5_; clear n0_ n1_ n2_ n3_ n4_ n5_; (try clear hb); (try clear hb2); (try clear hk); (try clear hi)) | ((with_reducible refine gate_dst (N := 15) rfl ?_); refine box_event ?hg (N := 15) ?hd (cs := #[.int .i64 0, .int .i64 0]) (t := 24) ?hr ?_; (case hd => rfl); (case hg => rfl); (case hr => first | (go_simp; done) | (go_simp; rfl)); intro gb592 hg w64 hbox hb; have n0_ := ak (blk_below (g := gb573) (o := .cells #[.int .i64 t570, .int .i64 t571] 24 (0, 0)) (by (with_reducible repeat (first | refine bN ?_ _ | refine bD ?_ | refine bA ?_ _)); exact BK573.out) hb); have n1_ := ak (blk_below (g := gb577) (o := .cells #[.int .i64 t574, .int .i64 t575] 24 (0, 0)) (by (with_reducible repeat (first | refine bN ?_ _ | refine bD ?_ | refine bA ?_ _)); exact BK577.out) hb); have n2_ := ak (blk_below (g := gb581) (o := .cells #[.int .i64 ((rd_T24 l0 x9_1).f0), .int .i64 ((rd_T24 l0 x9_1).f1)] 24 (0, 0)) (by (with_reducible repeat (first | refine bN ?_ _ | refine bD ?_ | refine bA ?_ _)); exact BK581.out) hb); have n3_ := ak (blk_below (g := gb582) (o := .cells #[.int .i64 ((rd_T24 l0 (ji20)).f0), .int .i64 ((rd_T24 l0 (ji20)).f1)] 24 (0, 0)) (by (with_reducible repeat (first | refine bN ?_ _ | refine bD ?_ | refine bA ?_ _)); exact BK582.out) hb); have n4_ := ak (blk_below (g := gb587) (o := .cells #[.int .i64 t583, .int .i64 t584] 24 (0, 0)) (by (with_reducible repeat (first | refine bN ?_ _ | refine bD ?_ | refine bA ?_ _)); exact BK587.out) hb); have n5_ := ak (below_step (by repeat (first | (with_reducible first | exact HB.out | apply wA | apply wN | apply wD | refine below_set ?_ GE573.out | refine below_set ?_ GE577.out | refine below_set ?_ GE581.out | refine below_set ?_ GE582.out | refine below_set ?_ GE587.out) | exact HB.out)) hb); have n6_ := ak (hbox); have n7_ := ak ((by rw [hg]; exact (below_size (by repeat (first | (with_reducible first | exact HB.out | apply wA | apply wN | apply wD | refine below_set ?_ GE573.out | refine below_set ?_ GE577.out | refine below_set ?_ GE581.out | refine below_set ?_ GE582.out | refine below_set ?_ GE587.out) | exact HB.out))) : w.heap.size ≤ gb592)); have n8_ := ak ((by rw [hg]; exact (below_size (by repeat (first | (with_reducible first | exact HB.out | apply wA | apply wN | apply wD | refine below_set ?_ GE573.out | refine below_set ?_ GE577.out | refine below_set ?_ GE581.out | refine below_set ?_ GE582.out | refine below_set ?_ GE587.out) | exact HB.out))) : w.heap.size ≤ gb592)); have n9_ := ak ((by rw [hg]; exact Nat.ne_of_lt (blk_lt (g := gb573) (o := .cells #[.int .i64 t570, .int .i64 t571] 24 (0, 0)) (by (with_reducible repeat (first | refine bN ?_ _ | refine bD ?_ | refine bA ?_ _)); exact BK573.out)) : gb573 ≠ gb592)); have n10_ := ak ((by rw [hg]; exact Nat.ne_of_gt (blk_lt (g := gb573) (o := .cells #[.int .i64 t570, .int .i64 t571] 24 (0, 0)) (by (with_reducible repeat (first | refine bN ?_ _ | refine bD ?_ | refine bA ?_ _)); exact BK573.out)) : gb592 ≠ gb573)); have n11_ := ak ((by rw [hg]; exact Nat.ne_of_lt (blk_lt (g := gb577) (o := .cells #[.int .i64 t574, .int .i64 t575] 24 (0, 0)) (by (with_reducible repeat (first | refine bN ?_ _ | refine bD ?_ | refine bA ?_ _)); exact BK577.out)) : gb577 ≠ gb592)); have n12_ := ak ((by rw [hg]; exact Nat.ne_of_gt (blk_lt (g := gb577) (o := .cells #[.int .i64 t574, .int .i64 t575] 24 (0, 0)) (by (with_reducible repeat (first | refine bN ?_ _ | refine bD ?_ | refine bA ?_ _)); exact BK577.out)) : gb592 ≠ gb577)); have n13_ := ak ((by rw [hg]; exact Nat.ne_of_lt (blk_lt (g := gb581) (o := .cells #[.int .i64 ((rd_T24 l0 x9_1).f0), .int .i64 ((rd_T24 l0 x9_1).f1)] 24 (0, 0)) (by (with_reducible repeat (first | refine bN ?_ _ | refine bD ?_ | refine bA ?_ _)); exact BK581.out)) : gb581 ≠ gb592)); have n14_ := ak ((by rw [hg]; exact Nat.ne_of_gt (blk_lt (g := gb581) (o := .cells #[.int .i64 ((rd_T24 l0 x9_1).f0), .int .i64 ((rd_T24 l0 x9_1).f1)] 24 (0, 0)) (by (with_reducible repeat (first | refine bN ?_ _ | refine bD ?_ | refine bA ?_ _)); exact BK581.out)) : gb592 ≠ gb581)); have n15_ := ak ((by rw [hg]; exact Nat.ne_of_lt (blk_lt (g := gb582) (o := .cells #[.int .i64 ((rd_T24 l0 (ji20)).f0), .int .i64 ((rd_T24 l0 (ji20)).f1)] 24 (0, 0)) (by (with_reducible repeat (first | refine bN ?_ _ | refine bD ?_ | refine bA ?_ _)); exact BK582.out)) : gb582 ≠ gb592)); have n16_ := ak ((by rw [hg]; exact Nat.ne_of_gt (blk_lt (g := gb582) (o := .cells #[.int .i64 ((rd_T24 l0 (ji20)).f0), .int .i64 ((rd_T24 l0 (ji20)).f1)] 24 (0, 0)) (by (with_reducible repeat (first | refine bN ?_ _ | refine bD ?_ | refine bA ?_ _)); exact BK582.out)) : gb592 ≠ gb582)); have n17_ := ak ((by rw [hg]; exact Nat.ne_of_lt (blk_lt (g := gb587) (o := .cells #[.int .i64 t583, .int .i64 t584] 24 (0, 0)) (by (with_reducible repeat (first | refine bN ?_ _ | refine bD ?_ | refine bA ?_ _)); exact BK587.out)) : gb587 ≠ gb592)); have n18_ := ak ((by rw [hg]; exact Nat.ne_of_gt (blk_lt (g := gb587) (o := .cells #[.int .i64 t583, .int .i64 t584] 24 (0, 0)) (by (with_reducible repeat (first | refine bN ?_ _ | refine bD ?_ | refine bA ?_ _)); exact BK587.out)) : gb592 ≠ gb587)); clear BK573; clear BK577; clear BK581; clear BK582; clear BK587; clear HB; have BK573 := n0_; have BK577 := n1_; have BK581 := n2_; have BK582 := n3_; have BK587 := n4_; have HB := n5_; have BK592 := n6_; have GW592 := n7_; have GE592 := n8_; have NB573_592 := n9_; have NB592_573 := n10_; have NB577_592 := n11_; have NB592_577 := n12_; have NB581_592 := n13_; have NB592_581 := n14_; have NB582_592 := n15_; have NB592_582 := n16_; have NB587_592 := n17_; have NB592_587 := n18_; clear n0_ n1_ n2_ n3_ n4_ n5_ n6_ n7_ n8_ n9_ n10_ n11_ n12_ n13_ n14_ n15_ n16_ n17_ n18_; clear hb hbox hg; have hnb65 := NB592_573.out; have hnc65 := NB573_592.out; have hnb66 := NB592_577.out; have hnc66 := NB577_592.out; have hnb67 := NB592_581.out; have hnc67 := NB581_592.out; have hnb68 := NB592_582.out; have hnc68 := NB582_592.out; have hnb69 := NB592_587.out; have hnc69 := NB587_592.out; have hcz70_0 : w64.cell? ⟨gb592, 0, none⟩ = some (.int .i64 0) := (blk_cell BK592.out 0).trans rfl; have hcz70_1 : w64.cell? ⟨gb592, 1, none⟩ = some (.int .i64 0) := (blk_cell BK592.out 1).trans rfl; have hfz70_0 := blk_frozen BK592.out 0; have hfz70_1 := blk_frozen BK592.out 1; have hcz71_0 : w64.cell? ⟨gb581, 0, none⟩ = some (.int .i64 ((rd_T24 l0 x9_1).f0)) := (blk_cell BK581.out 0).trans rfl; have hcz71_1 : w64.cell? ⟨gb581, 1, none⟩ = some (.int .i64 ((rd_T24 l0 x9_1).f1)) := (blk_cell BK581.out 1).trans rfl; have hfz71_0 := blk_frozen BK581.out 0; have hfz71_1 := blk_frozen BK581.out 1; have hcz72_0 : w64.cell? ⟨gb582, 0, none⟩ = some (.int .i64 ((rd_T24 l0 (ji20)).f0)) := (blk_cell BK582.out 0).trans rfl; have hcz72_1 : w64.cell? ⟨gb582, 1, none⟩ = some (.int .i64 ((rd_T24 l0 (ji20)).f1)) := (blk_cell BK582.out 1).trans rfl; have hfz72_0 := blk_frozen BK582.out 0; have hfz72_1 := blk_frozen BK582.out 1) | ((with_reducible refine gate_callee (f := 20) rfl ?_); refine goesL_ (some 83) rfl rfl Tryd.func20 (by kernel_rfl) rfl #[.agg #[.int .i64 ((rd_T24 l0 x9_1).f0), .int .i64 ((rd_T24 l0 x9_1).f1)], .agg #[.int .i64 ((rd_T24 l0 (ji20)).f0), .int .i64 ((rd_T24 l0 (ji20)).f1)]] rfl (by (try simp only [List.map_toArray, List.map_cons, List.map_nil]); first | done | (simp only [hji20]; rfl) | rfl | (simp only [List.length_drop, List.length_take]; rfl)) ?_; (with_reducible refine (spans_Within.calls k1 ((rd_T24 l0 x9_1).f0) ((rd_T24 l0 x9_1).f1) ((rd_T24 l0 (ji20)).f0) ((rd_T24 l0 (ji20)).f1) t593 t594 _ A25.out).mono ?_); rintro e w73 ⟨rfl, hb⟩; refine ⟨_, rfl, ?_⟩; have n0_ := ak (blk_below (g := gb573) (o := .cells #[.int .i64 t570, .int .i64 t571] 24 (0, 0)) (by (with_reducible repeat (first | refine bN ?_ _ | refine bD ?_ | refine bA ?_ _)); refine blk_far ?_ NB573_592.out _; (with_reducible repeat (first | refine bN ?_ _ | refine bD ?_ | refine bA ?_ _)); refine blk_far ?_ NB573_592.out _; (with_reducible repeat (first | refine bN ?_ _ | refine bD ?_ | refine bA ?_ _)); exact BK573.out) hb); have n1_ := ak (blk_below (g := gb577) (o := .cells #[.int .i64 t574, .int .i64 t575] 24 (0, 0)) (by (with_reducible repeat (first | refine bN ?_ _ | refine bD ?_ | refine bA ?_ _)); refine blk_far ?_ NB577_592.out _; (with_reducible repeat (first | refine bN ?_ _ | refine bD ?_ | refine bA ?_ _)); refine blk_far ?_ NB577_592.out _; (with_reducible repeat (first | refine bN ?_ _ | refine bD ?_ | refine bA ?_ _)); exact BK577.out) hb); have n2_ := ak (blk_below (g := gb581) (o := .cells #[.int .i64 ((rd_T24 l0 x9_1).f0), .int .i64 ((rd_T24 l0 x9_1).f1)] 24 (0, 0)) (by (with_reducible repeat (first | refine bN ?_ _ | refine bD ?_ | refine bA ?_ _)); refine blk_far ?_ NB581_592.out _; (with_reducible repeat (first | refine bN ?_ _ | refine bD ?_ | refine bA ?_ _)); refine blk_far ?_ NB581_592.out _; (with_reducible repeat (first | refine bN ?_ _ | refine bD ?_ | refine bA ?_ _)); exact BK581.out) hb); have n3_ := ak (blk_below (g := gb582) (o := .cells #[.int .i64 ((rd_T24 l0 (ji20)).f0), .int .i64 ((rd_T24 l0 (ji20)).f1)] 24 (0, 0)) (by (with_reducible repeat (first | refine bN ?_ _ | refine bD ?_ | refine bA ?_ _)); refine blk_far ?_ NB582_592.out _; (with_reducible repeat (first | refine bN ?_ _ | refine bD ?_ | refine bA ?_ _)); refine blk_far ?_ NB582_592.out _; (with_reducible repeat (first | refine bN ?_ _ | refine bD ?_ | refine bA ?_ _)); exact BK582.out) hb); have n4_ := ak (blk_below (g := gb587) (o := .cells #[.int .i64 t583, .int .i64 t584] 24 (0, 0)) (by (with_reducible repeat (first | refine bN ?_ _ | refine bD ?_ | refine bA ?_ _)); refine blk_far ?_ NB587_592.out _; (with_reducible repeat (first | refine bN ?_ _ | refine bD ?_ | refine bA ?_ _)); refine blk_far ?_ NB587_592.out _; (with_reducible repeat (first | refine bN ?_ _ | refine bD ?_ | refine bA ?_ _)); exact BK587.out) hb); have n5_ := ak (blk_below (g := gb592) (o := .cells #[.int .i64 t588, .int .i64 t589] 24 (0, 0)) (by (with_reducible repeat (first | refine bN ?_ _ | refine bD ?_ | refine bA ?_ _)); refine blk_put (cs := #[.int .i64 t588, .int .i64 0]) ?_ 1 _ rfl; (with_reducible repeat (first | refine bN ?_ _ | refine bD ?_ | refine bA ?_ _)); refine blk_put (cs := #[.int .i64 0, .int .i64 0]) ?_ 0 _ rfl; (with_reducible repeat (first | refine bN ?_ _ | refine bD ?_ | refine bA ?_ _)); exact BK592.out) hb); have n6_ := ak (below_step (by repeat (first | (with_reducible first | exact HB.out | apply wA | apply wN | apply wD | refine below_set ?_ GE573.out | refine below_set ?_ GE577.out | refine below_set ?_ GE581.out | refine below_set ?_ GE582.out | refine below_set ?_ GE587.out | refine below_set ?_ GE592.out) | exact HB.out)) hb); clear BK573; clear BK577; clear BK581; clear BK582; clear BK587; clear BK592; clear HB; have BK573 := n0_; have BK577 := n1_; have BK581 := n2_; have BK582 := n3_; have BK587 := n4_; have BK592 := n5_; have HB := n6_; clear n0_ n1_ n2_ n3_ n4_ n5_ n6_; (try clear hb); (try clear hb2); (try clear hk); (try clear hi); have hcz74_0 : w73.cell? ⟨gb581, 0, none⟩ = some (.int .i64 ((rd_T24 l0 x9_1).f0)) := (blk_cell BK581.out 0).trans rfl; have hcz74_1 : w73.cell? ⟨gb581, 1, none⟩ = some (.int .i64 ((rd_T24 l0 x9_1).f1)) := (blk_cell BK581.out 1).trans rfl; have hfz74_0 := blk_frozen BK581.out 0; have hfz74_1 := blk_frozen BK581.out 1; have hcz75_0 : w73.cell? ⟨gb582, 0, none⟩ = some (.int .i64 ((rd_T24 l0 (ji20)).f0)) := (blk_cell BK582.out 0).trans rfl; have hcz75_1 : w73.cell? ⟨gb582, 1, none⟩ = some (.int .i64 ((rd_T24 l0 (ji20)).f1)) := (blk_cell BK582.out 1).trans rfl; have hfz75_0 := blk_frozen BK582.out 0; have hfz75_1 := blk_frozen BK582.out 1) | ((with_reducible refine gate_callee (f := 37) rfl ?_); refine goesL_ (some 89) rfl rfl Tryd.func37 (by kernel_rfl) rfl #[.agg #[.int .i64 ((rd_T24 l0 x9_1).f0), .int .i64 ((rd_T24 l0 x9_1).f1)], .agg #[.int .i64 ((rd_T24 l0 (ji20)).f0), .int .i64 ((rd_T24 l0 (ji20)).f1)]] rfl (by (try simp only [List.map_toArray, List.map_cons, List.map_nil]); first | done | (simp only [hji20]; rfl) | rfl | (simp only [List.length_drop, List.length_take]; rfl)) ?_; (with_reducible refine (mummerref03_Within.calls ((rd_T24 l0 x9_1).f0) ((rd_T24 l0 x9_1).f1) ((rd_T24 l0 (ji20)).f0) ((rd_T24 l0 (ji20)).f1) t595 t596 _ A26.out).mono ?_); rintro e w76 ⟨rfl, hb⟩; refine ⟨_, rfl, ?_⟩; have n0_ := ak (blk_below (g := gb573) (o := .cells #[.int .i64 t570, .int .i64 t571] 24 (0, 0)) (by (with_reducible repeat (first | refine bN ?_ _ | refine bD ?_ | refine bA ?_ _)); exact BK573.out) hb); have n1_ := ak (blk_below (g := gb577) (o := .cells #[.int .i64 t574, .int .i64 t575] 24 (0, 0)) (by (with_reducible repeat (first | refine bN ?_ _ | refine bD ?_ | refine bA ?_ _)); exact BK577.out) hb); have n2_ := ak (blk_below (g := gb581) (o := .cells #[.int .i64 ((rd_T24 l0 x9_1).f0), .int .i64 ((rd_T24 l0 x9_1).f1)] 24 (0, 0)) (by (with_reducible repeat (first | refine bN ?_ _ | refine bD ?_ | refine bA ?_ _)); exact BK581.out) hb); have n3_ := ak (blk_below (g := gb582) (o := .cells #[.int .i64 ((rd_T24 l0 (ji20)).f0), .int .i64 ((rd_T24 l0 (ji20)).f1)] 24 (0, 0)) (by (with_reducible repeat (first | refine bN ?_ _ | refine bD ?_ | refine bA ?_ _)); exact BK582.out) hb); have n4_ := ak (blk_below (g := gb587) (o := .cells #[.int .i64 t583, .int .i64 t584] 24 (0, 0)) (by (with_reducible repeat (first | refine bN ?_ _ | refine bD ?_ | refine bA ?_ _)); exact BK587.out) hb); have n5_ := ak (blk_below (g := gb592) (o := .cells #[.int .i64 t588, .int .i64 t589] 24 (0, 0)) (by (with_reducible repeat (first | refine bN ?_ _ | refine bD ?_ | refine bA ?_ _)); exact BK592.out) hb); have n6_ := ak (below_step (by repeat (first | (with_reducible first | exact HB.out | apply wA | apply wN | apply wD | refine below_set ?_ GE573.out | refine below_set ?_ GE577.out | refine below_set ?_ GE581.out | refine below_set ?_ GE582.out | refine below_set ?_ GE587.out | refine below_set ?_ GE592.out) | exact HB.out)) hb); clear BK573; clear BK577; clear BK581; clear BK582; clear BK587; clear BK592; clear HB; have BK573 := n0_; have BK577 := n1_; have BK581 := n2_; have BK582 := n3_; have BK587 := n4_; have BK592 := n5_; have HB := n6_; clear n0_ n1_ n2_ n3_ n4_ n5_ n6_; (try clear hb); (try clear hb2); (try clear hk); (try clear hi); have hcz77_0 : w76.cell? ⟨gb581, 0, none⟩ = some (.int .i64 ((rd_T24 l0 x9_1).f0)) := (blk_cell BK581.out 0).trans rfl; have hcz77_1 : w76.cell? ⟨gb581, 1, none⟩ = some (.int .i64 ((rd_T24 l0 x9_1).f1)) := (blk_cell BK581.out 1).trans rfl; have hfz77_0 := blk_frozen BK581.out 0; have hfz77_1 := blk_frozen BK581.out 1; have hcz78_0 : w76.cell? ⟨gb582, 0, none⟩ = some (.int .i64 ((rd_T24 l0 (ji20)).f0)) := (blk_cell BK582.out 0).trans rfl; have hcz78_1 : w76.cell? ⟨gb582, 1, none⟩ = some (.int .i64 ((rd_T24 l0 (ji20)).f1)) := (blk_cell BK582.out 1).trans rfl; have hfz78_0 := blk_frozen BK582.out 0; have hfz78_1 := blk_frozen BK582.out 1) | ((with_reducible refine gate_callee (f := 19) rfl ?_); refine goesL_ (some 95) rfl rfl Tryd.func19 (by kernel_rfl) rfl #[.agg #[.int .i64 ((rd_T24 l0 x9_1).f0), .int .i64 ((rd_T24 l0 x9_1).f1)], .agg #[.int .i64 ((rd_T24 l0 (ji20)).f0), .int .i64 ((rd_T24 l0 (ji20)).f1)]] rfl (by (try simp only [List.map_toArray, List.map_cons, List.map_nil]); first | done | (simp only [hji20]; rfl) | rfl | (simp only [List.length_drop, List.length_take]; rfl)) ?_; (with_reducible refine (spans_Before.calls k1 ((rd_T24 l0 x9_1).f0) ((rd_T24 l0 x9_1).f1) ((rd_T24 l0 (ji20)).f0) ((rd_T24 l0 (ji20)).f1) t597 t598 _ A27.out).mono ?_); rintro e w79 ⟨rfl, hb⟩; refine ⟨_, rfl, ?_⟩; have n0_ := ak (blk_below (g := gb573) (o := .cells #[.int .i64 t570, .int .i64 t571] 24 (0, 0)) (by (with_reducible repeat (first | refine bN ?_ _ | refine bD ?_ | refine bA ?_ _)); exact BK573.out) hb); have n1_ := ak (blk_below (g := gb577) (o := .cells #[.int .i64 t574, .int .i64 t575] 24 (0, 0)) (by (with_reducible repeat (first | refine bN ?_ _ | refine bD ?_ | refine bA ?_ _)); exact BK577.out) hb); have n2_ := ak (blk_below (g := gb581) (o := .cells #[.int .i64 ((rd_T24 l0 x9_1).f0), .int .i64 ((rd_T24 l0 x9_1).f1)] 24 (0, 0)) (by (with_reducible repeat (first | refine bN ?_ _ | refine bD ?_ | refine bA ?_ _)); exact BK581.out) hb); have n3_ := ak (blk_below (g := gb582) (o := .cells #[.int .i64 ((rd_T24 l0 (ji20)).f0), .int .i64 ((rd_T24 l0 (ji20)).f1)] 24 (0, 0)) (by (with_reducible repeat (first | refine bN ?_ _ | refine bD ?_ | refine bA ?_ _)); exact BK582.out) hb); have n4_ := ak (blk_below (g := gb587) (o := .cells #[.int .i64 t583, .int .i64 t584] 24 (0, 0)) (by (with_reducible repeat (first | refine bN ?_ _ | refine bD ?_ | refine bA ?_ _)); exact BK587.out) hb); have n5_ := ak (blk_below (g := gb592) (o := .cells #[.int .i64 t588, .int .i64 t589] 24 (0, 0)) (by (with_reducible repeat (first | refine bN ?_ _ | refine bD ?_ | refine bA ?_ _)); exact BK592.out) hb); have n6_ := ak (below_step (by repeat (first | (with_reducible first | exact HB.out | apply wA | apply wN | apply wD | refine below_set ?_ GE573.out | refine below_set ?_ GE577.out | refine below_set ?_ GE581.out | refine below_set ?_ GE582.out | refine below_set ?_ GE587.out | refine below_set ?_ GE592.out) | exact HB.out)) hb); clear BK573; clear BK577; clear BK581; clear BK582; clear BK587; clear BK592; clear HB; have BK573 := n0_; have BK577 := n1_; have BK581 := n2_; have BK582 := n3_; have BK587 := n4_; have BK592 := n5_; have HB := n6_; clear n0_ n1_ n2_ n3_ n4_ n5_ n6_; (try clear hb); (try clear hb2); (try clear hk); (try clear hi); have hcz80_0 : w79.cell? ⟨gb581, 0, none⟩ = some (.int .i64 ((rd_T24 l0 x9_1).f0)) := (blk_cell BK581.out 0).trans rfl; have hcz80_1 : w79.cell? ⟨gb581, 1, none⟩ = some (.int .i64 ((rd_T24 l0 x9_1).f1)) := (blk_cell BK581.out 1).trans rfl; have hfz80_0 := blk_frozen BK581.out 0; have hfz80_1 := blk_frozen BK581.out 1; have hcz81_0 : w79.cell? ⟨gb582, 0, none⟩ = some (.int .i64 ((rd_T24 l0 (ji20)).f0)) := (blk_cell BK582.out 0).trans rfl; have hcz81_1 : w79.cell? ⟨gb582, 1, none⟩ = some (.int .i64 ((rd_T24 l0 (ji20)).f1)) := (blk_cell BK582.out 1).trans rfl; have hfz81_0 := blk_frozen BK582.out 0; have hfz81_1 := blk_frozen BK582.out 1) | ((with_reducible refine gate_callee (f := 38) rfl ?_); refine goesL_ (some 101) rfl rfl Tryd.func38 (by kernel_rfl) rfl #[.agg #[.int .i64 ((rd_T24 l0 x9_1).f0), .int .i64 ((rd_T24 l0 x9_1).f1)], .agg #[.int .i64 ((rd_T24 l0 (ji20)).f0), .int .i64 ((rd_T24 l0 (ji20)).f1)]] rfl (by (try simp only [List.map_toArray, List.map_cons, List.map_nil]); first | done | (simp only [hji20]; rfl) | rfl | (simp only [List.length_drop, List.length_take]; rfl)) ?_; (with_reducible refine (mummerref03_Before.calls ((rd_T24 l0 x9_1).f0) ((rd_T24 l0 x9_1).f1) ((rd_T24 l0 (ji20)).f0) ((rd_T24 l0 (ji20)).f1) t599 t600 _ A28.out).mono ?_); rintro e w82 ⟨rfl, hb⟩; refine ⟨_, rfl, ?_⟩; have n0_ := ak (blk_below (g := gb573) (o := .cells #[.int .i64 t570, .int .i64 t571] 24 (0, 0)) (by (with_reducible repeat (first | refine bN ?_ _ | refine bD ?_ | refine bA ?_ _)); exact BK573.out) hb); have n1_ := ak (blk_below (g := gb577) (o := .cells #[.int .i64 t574, .int .i64 t575] 24 (0, 0)) (by (with_reducible repeat (first | refine bN ?_ _ | refine bD ?_ | refine bA ?_ _)); exact BK577.out) hb); have n2_ := ak (blk_below (g := gb581) (o := .cells #[.int .i64 ((rd_T24 l0 x9_1).f0), .int .i64 ((rd_T24 l0 x9_1).f1)] 24 (0, 0)) (by (with_reducible repeat (first | refine bN ?_ _ | refine bD ?_ | refine bA ?_ _)); exact BK581.out) hb); have n3_ := ak (blk_below (g := gb582) (o := .cells #[.int .i64 ((rd_T24 l0 (ji20)).f0), .int .i64 ((rd_T24 l0 (ji20)).f1)] 24 (0, 0)) (by (with_reducible repeat (first | refine bN ?_ _ | refine bD ?_ | refine bA ?_ _)); exact BK582.out) hb); have n4_ := ak (blk_below (g := gb587) (o := .cells #[.int .i64 t583, .int .i64 t584] 24 (0, 0)) (by (with_reducible repeat (first | refine bN ?_ _ | refine bD ?_ | refine bA ?_ _)); exact BK587.out) hb); have n5_ := ak (blk_below (g := gb592) (o := .cells #[.int .i64 t588, .int .i64 t589] 24 (0, 0)) (by (with_reducible repeat (first | refine bN ?_ _ | refine bD ?_ | refine bA ?_ _)); exact BK592.out) hb); have n6_ := ak (below_step (by repeat (first | (with_reducible first | exact HB.out | apply wA | apply wN | apply wD | refine below_set ?_ GE573.out | refine below_set ?_ GE577.out | refine below_set ?_ GE581.out | refine below_set ?_ GE582.out | refine below_set ?_ GE587.out | refine below_set ?_ GE592.out) | exact HB.out)) hb); clear BK573; clear BK577; clear BK581; clear BK582; clear BK587; clear BK592; clear HB; have BK573 := n0_; have BK577 := n1_; have BK581 := n2_; have BK582 := n3_; have BK587 := n4_; have BK592 := n5_; have HB := n6_; clear n0_ n1_ n2_ n3_ n4_ n5_ n6_; (try clear hb); (try clear hb2); (try clear hk); (try clear hi)))
                                    have n0_ := ak (bD BK573.out)
                                    have n1_ := ak (bD BK577.out)
                                    have n2_ := ak (bD BK581.out)
                                    have n3_ := ak (bD BK582.out)
                                    have n4_ := ak (bD BK587.out)
                                    have n5_ := ak (bD BK592.out)
                                    have n6_ := ak (wD HB.out)
                                    clear BK573 BK577 BK581 BK582 BK587 BK592 HB
                                    have BK573 := n0_
                                    have BK577 := n1_
                                    have BK581 := n2_
                                    have BK582 := n3_
                                    have BK587 := n4_
                                    have BK592 := n5_
                                    have HB := n6_
                                    clear n0_ n1_ n2_ n3_ n4_ n5_ n6_
                                    refine start_ (n := 42) (S := fun w' => w'.cell? ⟨gb581, 0, none⟩ = some (.int .i64 ((rd_T24 l0 x9_1).f0)) ∧ w'.cell? ⟨gb581, 1, none⟩ = some (.int .i64 ((rd_T24 l0 x9_1).f1)) ∧ w'.cell? ⟨gb587, 0, none⟩ = some (.int .i64 t583) ∧ w'.cell? ⟨gb587, 1, none⟩ = some (.int .i64 t584) ∧ w'.cell? ⟨gb592, 0, none⟩ = some (.int .i64 t588) ∧ w'.cell? ⟨gb592, 1, none⟩ = some (.int .i64 t589)) (ds := []) #[false, false, false, false, false, false, false, false, false, false, false, false, false, false, false, false, false, false, false, false, false, false, false, false, false, false, false, false, false, false, false, false, false, false, false, false, false, false, false, false, false, false] (by kernel_rfl) rfl rfl ⟨(blk_cell BK581.out 0).trans rfl, (blk_cell BK581.out 1).trans rfl, (blk_cell BK587.out 0).trans rfl, (blk_cell BK587.out 1).trans rfl, (blk_cell BK592.out 0).trans rfl, (blk_cell BK592.out 1).trans rfl⟩ (fun hHeld => ?_); refine with_tabW mummerlaw03_SpansPairs.tab17 mummerlaw03_SpansPairs.bits17 (fun HT_ HW_ => ?_)
                                    generalize w82.drew = w83 at BK573 BK577 BK581 BK582 BK587 BK592 HB hHeld ⊢
                                    refine pure_ (i := 0) (N := some 104) (v := ?_) (a' := ?_) #[true, false, false, false, false, false, false, false, false, false, false, false, false, false, false, false, false, false, false, false, false, false, false, false, false, false, false, false, false, false, false, false, false, false, false, false, false, false, false, false, false, false] rfl rfl (any_of HT_.out (by kernel_rfl)) (fun _ _ _ h => h) (Or.inl ⟨by rfl, ?_⟩) ?_ ?_
                                    rotate_left
                                    · intro w'
                                      go_simp
                                      with_reducible rfl
                                    rotate_left
                                    · simp only [Act.put, List.setIfInBounds_toArray, List.set_cons_zero, List.set_cons_succ, i64_w, i32_w]
                                      rfl
                                    refine pure_ (i := 3) (N := some 107) (v := ?_) (a' := ?_) #[true, false, false, true, false, false, false, false, false, false, false, false, false, false, false, false, false, false, false, false, false, false, false, false, false, false, false, false, false, false, false, false, false, false, false, false, false, false, false, false, false, false] rfl rfl (any_of HT_.out (by kernel_rfl)) (fun _ _ _ h => h) (Or.inl ⟨by rfl, ?_⟩) ?_ ?_
                                    rotate_left
                                    · intro w'
                                      go_simp
                                      with_reducible rfl
                                    rotate_left
                                    · simp only [Act.put, List.setIfInBounds_toArray, List.set_cons_zero, List.set_cons_succ, i64_w, i32_w]
                                      rfl
                                    refine take_ (i := 1) (N := some 105) (v := ?_) (a' := ?_) #[true, true, false, true, false, false, false, false, false, false, false, false, false, false, false, false, false, false, false, false, false, false, false, false, false, false, false, false, false, false, false, false, false, false, false, false, false, false, false, false, false, false] rfl rfl (take_ofW HT_.out HW_.out (by kernel_rfl)) (fun _ _ _ h => h) (Or.inl ⟨by rfl, ?_⟩) hHeld ?_ ?_
                                    rotate_left
                                    · rintro w' ⟨s0, s1, s2, s3, s4, s5⟩
                                      go_simp
                                      with_reducible rfl
                                    rotate_left
                                    · simp only [Act.put, List.setIfInBounds_toArray, List.set_cons_zero, List.set_cons_succ, i64_w, i32_w]
                                      rfl
                                    refine take_ (i := 4) (N := some 108) (v := ?_) (a' := ?_) #[true, true, false, true, true, false, false, false, false, false, false, false, false, false, false, false, false, false, false, false, false, false, false, false, false, false, false, false, false, false, false, false, false, false, false, false, false, false, false, false, false, false] rfl rfl (take_ofW HT_.out HW_.out (by kernel_rfl)) (fun _ _ _ h => h) (Or.inl ⟨by rfl, ?_⟩) hHeld ?_ ?_
                                    rotate_left
                                    · rintro w' ⟨s0, s1, s2, s3, s4, s5⟩
                                      go_simp
                                      with_reducible rfl
                                    rotate_left
                                    · simp only [Act.put, List.setIfInBounds_toArray, List.set_cons_zero, List.set_cons_succ, i64_w, i32_w]
                                      rfl
                                    refine one_ (i := 2) (N := some 106) #[true, true, true, true, true, false, false, false, false, false, false, false, false, false, false, false, false, false, false, false, false, false, false, false, false, false, false, false, false, false, false, false, false, false, false, false, false, false, false, false, false, false] rfl rfl (one_of HT_.out (by kernel_rfl)) (by decide) (fun K hK => ?_)
                                    refine goes_ Tryd.func22 (by kernel_rfl) rfl #[.int .i64 a1, .agg #[.int .i64 ((rd_T24 l0 x9_1).f0), .int .i64 ((rd_T24 l0 x9_1).f1)]] (by rfl) rfl rfl (by (try simp only [List.map_toArray, List.map_cons, List.map_nil]); first | done | rfl | (simp only [List.length_drop, List.length_take]; rfl)) ?_
                                    with_reducible refine (spans_Check.calls k1 a1 ((rd_T24 l0 x9_1).f0) ((rd_T24 l0 x9_1).f1) t601 _ A29.out).mono ?_
                                    rintro e w84 ⟨rfl, hb⟩
                                    refine ⟨_, rfl, ?_⟩
                                    have n0_ := ak (blk_below (g := gb573) (o := .cells #[.int .i64 t570, .int .i64 t571] 24 (0, 0)) (by (with_reducible repeat (first | refine bN ?_ _ | refine bD ?_ | refine bA ?_ _)); exact BK573.out) hb)
                                    have n1_ := ak (blk_below (g := gb577) (o := .cells #[.int .i64 t574, .int .i64 t575] 24 (0, 0)) (by (with_reducible repeat (first | refine bN ?_ _ | refine bD ?_ | refine bA ?_ _)); exact BK577.out) hb)
                                    have n2_ := ak (blk_below (g := gb581) (o := .cells #[.int .i64 ((rd_T24 l0 x9_1).f0), .int .i64 ((rd_T24 l0 x9_1).f1)] 24 (0, 0)) (by (with_reducible repeat (first | refine bN ?_ _ | refine bD ?_ | refine bA ?_ _)); exact BK581.out) hb)
                                    have n3_ := ak (blk_below (g := gb582) (o := .cells #[.int .i64 ((rd_T24 l0 (ji20)).f0), .int .i64 ((rd_T24 l0 (ji20)).f1)] 24 (0, 0)) (by (with_reducible repeat (first | refine bN ?_ _ | refine bD ?_ | refine bA ?_ _)); exact BK582.out) hb)
                                    have n4_ := ak (blk_below (g := gb587) (o := .cells #[.int .i64 t583, .int .i64 t584] 24 (0, 0)) (by (with_reducible repeat (first | refine bN ?_ _ | refine bD ?_ | refine bA ?_ _)); exact BK587.out) hb)
                                    have n5_ := ak (blk_below (g := gb592) (o := .cells #[.int .i64 t588, .int .i64 t589] 24 (0, 0)) (by (with_reducible repeat (first | refine bN ?_ _ | refine bD ?_ | refine bA ?_ _)); exact BK592.out) hb)
                                    have n6_ := ak (below_step (by repeat (first | (with_reducible first | exact HB.out | apply wA | apply wN | apply wD | refine below_set ?_ GE573.out | refine below_set ?_ GE577.out | refine below_set ?_ GE581.out | refine below_set ?_ GE582.out | refine below_set ?_ GE587.out | refine below_set ?_ GE592.out) | exact HB.out)) hb)
                                    clear BK573 BK577 BK581 BK582 BK587 BK592 HB
                                    have BK573 := n0_
                                    have BK577 := n1_
                                    have BK581 := n2_
                                    have BK582 := n3_
                                    have BK587 := n4_
                                    have BK592 := n5_
                                    have HB := n6_
                                    clear n0_ n1_ n2_ n3_ n4_ n5_ n6_
                                    (try clear hb)
                                    (try clear hb2)
                                    (try clear hk)
                                    (try clear hi)
                                    refine hK.out _ _ ⟨(blk_cell BK581.out 0).trans rfl, (blk_cell BK581.out 1).trans rfl, (blk_cell BK587.out 0).trans rfl, (blk_cell BK587.out 1).trans rfl, (blk_cell BK592.out 0).trans rfl, (blk_cell BK592.out 1).trans rfl⟩ (fun hHeld => ?_)
                                    clear hK K
                                    refine norm_ (a' := ?_) ?_ ?_
                                    rotate_left
                                    · show Act.put _ (some 106) _ = _
                                      simp only [Act.put, List.setIfInBounds_toArray, List.set_cons_zero, List.set_cons_succ, i64_w, i32_w]
                                      rfl
                                    refine one_ (i := 5) (N := some 109) #[true, true, true, true, true, true, false, false, false, false, false, false, false, false, false, false, false, false, false, false, false, false, false, false, false, false, false, false, false, false, false, false, false, false, false, false, false, false, false, false, false, false] rfl rfl (one_of HT_.out (by kernel_rfl)) (by decide) (fun K hK => ?_)
                                    refine goes_ Tryd.func39 (by kernel_rfl) rfl #[.int .i64 a1, .agg #[.int .i64 ((rd_T24 l0 x9_1).f0), .int .i64 ((rd_T24 l0 x9_1).f1)]] (by rfl) rfl rfl (by (try simp only [List.map_toArray, List.map_cons, List.map_nil]); first | done | rfl | (simp only [List.length_drop, List.length_take]; rfl)) ?_
                                    with_reducible refine (mummerref03_Check.calls k1 a1 ((rd_T24 l0 x9_1).f0) ((rd_T24 l0 x9_1).f1) t602 _ A30.out).mono ?_
                                    rintro e w85 ⟨rfl, hb⟩
                                    refine ⟨_, rfl, ?_⟩
                                    have n0_ := ak (blk_below (g := gb573) (o := .cells #[.int .i64 t570, .int .i64 t571] 24 (0, 0)) (by (with_reducible repeat (first | refine bN ?_ _ | refine bD ?_ | refine bA ?_ _)); exact BK573.out) hb)
                                    have n1_ := ak (blk_below (g := gb577) (o := .cells #[.int .i64 t574, .int .i64 t575] 24 (0, 0)) (by (with_reducible repeat (first | refine bN ?_ _ | refine bD ?_ | refine bA ?_ _)); exact BK577.out) hb)
                                    have n2_ := ak (blk_below (g := gb581) (o := .cells #[.int .i64 ((rd_T24 l0 x9_1).f0), .int .i64 ((rd_T24 l0 x9_1).f1)] 24 (0, 0)) (by (with_reducible repeat (first | refine bN ?_ _ | refine bD ?_ | refine bA ?_ _)); exact BK581.out) hb)
                                    have n3_ := ak (blk_below (g := gb582) (o := .cells #[.int .i64 ((rd_T24 l0 (ji20)).f0), .int .i64 ((rd_T24 l0 (ji20)).f1)] 24 (0, 0)) (by (with_reducible repeat (first | refine bN ?_ _ | refine bD ?_ | refine bA ?_ _)); exact BK582.out) hb)
                                    have n4_ := ak (blk_below (g := gb587) (o := .cells #[.int .i64 t583, .int .i64 t584] 24 (0, 0)) (by (with_reducible repeat (first | refine bN ?_ _ | refine bD ?_ | refine bA ?_ _)); exact BK587.out) hb)
                                    have n5_ := ak (blk_below (g := gb592) (o := .cells #[.int .i64 t588, .int .i64 t589] 24 (0, 0)) (by (with_reducible repeat (first | refine bN ?_ _ | refine bD ?_ | refine bA ?_ _)); exact BK592.out) hb)
                                    have n6_ := ak (below_step (by repeat (first | (with_reducible first | exact HB.out | apply wA | apply wN | apply wD | refine below_set ?_ GE573.out | refine below_set ?_ GE577.out | refine below_set ?_ GE581.out | refine below_set ?_ GE582.out | refine below_set ?_ GE587.out | refine below_set ?_ GE592.out) | exact HB.out)) hb)
                                    clear BK573 BK577 BK581 BK582 BK587 BK592 HB
                                    have BK573 := n0_
                                    have BK577 := n1_
                                    have BK581 := n2_
                                    have BK582 := n3_
                                    have BK587 := n4_
                                    have BK592 := n5_
                                    have HB := n6_
                                    clear n0_ n1_ n2_ n3_ n4_ n5_ n6_
                                    (try clear hb)
                                    (try clear hb2)
                                    (try clear hk)
                                    (try clear hi)
                                    refine hK.out _ _ ⟨(blk_cell BK581.out 0).trans rfl, (blk_cell BK581.out 1).trans rfl, (blk_cell BK587.out 0).trans rfl, (blk_cell BK587.out 1).trans rfl, (blk_cell BK592.out 0).trans rfl, (blk_cell BK592.out 1).trans rfl⟩ (fun hHeld => ?_)
                                    clear hK K
                                    refine norm_ (a' := ?_) ?_ ?_
                                    rotate_left
                                    · show Act.put _ (some 109) _ = _
                                      simp only [Act.put, List.setIfInBounds_toArray, List.set_cons_zero, List.set_cons_succ, i64_w, i32_w]
                                      rfl
                                    refine pure_ (i := 6) (N := some 110) (v := ?_) (a' := ?_) #[true, true, true, true, true, true, true, false, false, false, false, false, false, false, false, false, false, false, false, false, false, false, false, false, false, false, false, false, false, false, false, false, false, false, false, false, false, false, false, false, false, false] rfl rfl (any_of HT_.out (by kernel_rfl)) (fun _ _ _ h => h) (Or.inl ⟨by rfl, ?_⟩) ?_ ?_
                                    rotate_left
                                    · intro w'
                                      go_simp
                                      with_reducible rfl
                                    rotate_left
                                    · simp only [Act.put, List.setIfInBounds_toArray, List.set_cons_zero, List.set_cons_succ, i64_w, i32_w]
                                      rfl
                                    refine pure_ (i := 7) (N := some 111) (v := ?_) (a' := ?_) #[true, true, true, true, true, true, true, true, false, false, false, false, false, false, false, false, false, false, false, false, false, false, false, false, false, false, false, false, false, false, false, false, false, false, false, false, false, false, false, false, false, false] rfl rfl (any_of HT_.out (by kernel_rfl)) (fun _ _ _ h => h) (Or.inl ⟨by rfl, ?_⟩) ?_ ?_
                                    rotate_left
                                    · intro w'
                                      go_simp
                                      with_reducible rfl
                                    rotate_left
                                    · simp only [Act.put, List.setIfInBounds_toArray, List.set_cons_zero, List.set_cons_succ, i64_w, i32_w]
                                      rfl
                                    refine take_ (i := 8) (N := some 112) (v := ?_) (a' := ?_) #[true, true, true, true, true, true, true, true, true, false, false, false, false, false, false, false, false, false, false, false, false, false, false, false, false, false, false, false, false, false, false, false, false, false, false, false, false, false, false, false, false, false] rfl rfl (take_ofW HT_.out HW_.out (by kernel_rfl)) (fun _ _ _ h => h) (Or.inl ⟨by rfl, ?_⟩) hHeld ?_ ?_
                                    rotate_left
                                    · rintro w' ⟨s0, s1, s2, s3, s4, s5⟩
                                      go_simp
                                      with_reducible rfl
                                    rotate_left
                                    · simp only [Act.put, List.setIfInBounds_toArray, List.set_cons_zero, List.set_cons_succ, i64_w, i32_w]
                                      rfl
                                    refine take_ (i := 9) (N := some 113) (v := ?_) (a' := ?_) #[true, true, true, true, true, true, true, true, true, true, false, false, false, false, false, false, false, false, false, false, false, false, false, false, false, false, false, false, false, false, false, false, false, false, false, false, false, false, false, false, false, false] rfl rfl (take_ofW HT_.out HW_.out (by kernel_rfl)) (fun _ _ _ h => h) (Or.inl ⟨by rfl, ?_⟩) hHeld ?_ ?_
                                    rotate_left
                                    · rintro w' ⟨s0, s1, s2, s3, s4, s5⟩
                                      go_simp
                                      with_reducible rfl
                                    rotate_left
                                    · simp only [Act.put, List.setIfInBounds_toArray, List.set_cons_zero, List.set_cons_succ, i64_w, i32_w]
                                      rfl
                                    refine pure_ (i := 10) (N := some 114) (v := ?_) (a' := ?_) #[true, true, true, true, true, true, true, true, true, true, true, false, false, false, false, false, false, false, false, false, false, false, false, false, false, false, false, false, false, false, false, false, false, false, false, false, false, false, false, false, false, false] rfl rfl (any_of HT_.out (by kernel_rfl)) (fun _ _ _ h => h) (Or.inl ⟨by rfl, ?_⟩) ?_ ?_
                                    rotate_left
                                    · intro w'
                                      go_simp
                                      with_reducible rfl
                                    rotate_left
                                    · simp only [Act.put, List.setIfInBounds_toArray, List.set_cons_zero, List.set_cons_succ, i64_w, i32_w]
                                      rfl
                                    refine pure_ (i := 11) (N := some 115) (v := ?_) (a' := ?_) #[true, true, true, true, true, true, true, true, true, true, true, true, false, false, false, false, false, false, false, false, false, false, false, false, false, false, false, false, false, false, false, false, false, false, false, false, false, false, false, false, false, false] rfl rfl (any_of HT_.out (by kernel_rfl)) (fun _ _ _ h => h) (Or.inl ⟨by rfl, ?_⟩) ?_ ?_
                                    rotate_left
                                    · intro w'
                                      go_simp
                                      with_reducible rfl
                                    rotate_left
                                    · simp only [Act.put, List.setIfInBounds_toArray, List.set_cons_zero, List.set_cons_succ, i64_w, i32_w]
                                      rfl
                                    refine pure_ (i := 12) (N := some 116) (v := ?_) (a' := ?_) #[true, true, true, true, true, true, true, true, true, true, true, true, true, false, false, false, false, false, false, false, false, false, false, false, false, false, false, false, false, false, false, false, false, false, false, false, false, false, false, false, false, false] rfl rfl (any_of HT_.out (by kernel_rfl)) (fun _ _ _ h => h) (Or.inl ⟨by rfl, ?_⟩) ?_ ?_
                                    rotate_left
                                    · intro w'
                                      go_simp
                                      with_reducible rfl
                                    rotate_left
                                    · simp only [Act.put, List.setIfInBounds_toArray, List.set_cons_zero, List.set_cons_succ, i64_w, i32_w]
                                      rfl
                                    refine pure_ (i := 13) (N := some 117) (v := ?_) (a' := ?_) #[true, true, true, true, true, true, true, true, true, true, true, true, true, true, false, false, false, false, false, false, false, false, false, false, false, false, false, false, false, false, false, false, false, false, false, false, false, false, false, false, false, false] rfl rfl (any_of HT_.out (by kernel_rfl)) (fun _ _ _ h => h) (Or.inl ⟨by rfl, ?_⟩) ?_ ?_
                                    rotate_left
                                    · intro w'
                                      go_simp
                                      with_reducible rfl
                                    rotate_left
                                    · simp only [Act.put, List.setIfInBounds_toArray, List.set_cons_zero, List.set_cons_succ, i64_w, i32_w]
                                      rfl
                                    refine pure_ (i := 14) (N := some 118) (v := ?_) (a' := ?_) #[true, true, true, true, true, true, true, true, true, true, true, true, true, true, true, false, false, false, false, false, false, false, false, false, false, false, false, false, false, false, false, false, false, false, false, false, false, false, false, false, false, false] rfl rfl (any_of HT_.out (by kernel_rfl)) (fun _ _ _ h => h) (Or.inl ⟨by rfl, ?_⟩) ?_ ?_
                                    rotate_left
                                    · intro w'
                                      go_simp
                                      with_reducible rfl
                                    rotate_left
                                    · simp only [Act.put, List.setIfInBounds_toArray, List.set_cons_zero, List.set_cons_succ, i64_w, i32_w]
                                      rfl
                                    refine pure_ (i := 15) (N := some 119) (v := ?_) (a' := ?_) #[true, true, true, true, true, true, true, true, true, true, true, true, true, true, true, true, false, false, false, false, false, false, false, false, false, false, false, false, false, false, false, false, false, false, false, false, false, false, false, false, false, false] rfl rfl (any_of HT_.out (by kernel_rfl)) (fun _ _ _ h => h) (Or.inl ⟨by rfl, ?_⟩) ?_ ?_
                                    rotate_left
                                    · intro w'
                                      go_simp
                                      with_reducible rfl
                                    rotate_left
                                    · simp only [Act.put, List.setIfInBounds_toArray, List.set_cons_zero, List.set_cons_succ, i64_w, i32_w]
                                      rfl
                                    refine pure_ (i := 16) (N := some 120) (v := ?_) (a' := ?_) #[true, true, true, true, true, true, true, true, true, true, true, true, true, true, true, true, true, false, false, false, false, false, false, false, false, false, false, false, false, false, false, false, false, false, false, false, false, false, false, false, false, false] rfl rfl (any_of HT_.out (by kernel_rfl)) (fun _ _ _ h => h) (Or.inl ⟨by rfl, ?_⟩) ?_ ?_
                                    rotate_left
                                    · intro w'
                                      go_simp
                                      with_reducible rfl
                                    rotate_left
                                    · simp only [Act.put, List.setIfInBounds_toArray, List.set_cons_zero, List.set_cons_succ, i64_w, i32_w]
                                      rfl
                                    refine pure_ (i := 17) (N := some 121) (v := ?_) (a' := ?_) #[true, true, true, true, true, true, true, true, true, true, true, true, true, true, true, true, true, true, false, false, false, false, false, false, false, false, false, false, false, false, false, false, false, false, false, false, false, false, false, false, false, false] rfl rfl (any_of HT_.out (by kernel_rfl)) (fun _ _ _ h => h) (Or.inl ⟨by rfl, ?_⟩) ?_ ?_
                                    rotate_left
                                    · intro w'
                                      go_simp
                                      with_reducible rfl
                                    rotate_left
                                    · simp only [Act.put, List.setIfInBounds_toArray, List.set_cons_zero, List.set_cons_succ, i64_w, i32_w]
                                      rfl
                                    refine pure_ (i := 18) (N := some 122) (v := ?_) (a' := ?_) #[true, true, true, true, true, true, true, true, true, true, true, true, true, true, true, true, true, true, true, false, false, false, false, false, false, false, false, false, false, false, false, false, false, false, false, false, false, false, false, false, false, false] rfl rfl (any_of HT_.out (by kernel_rfl)) (fun _ _ _ h => h) (Or.inl ⟨by rfl, ?_⟩) ?_ ?_
                                    rotate_left
                                    · intro w'
                                      go_simp
                                      with_reducible rfl
                                    rotate_left
                                    · simp only [Act.put, List.setIfInBounds_toArray, List.set_cons_zero, List.set_cons_succ, i64_w, i32_w]
                                      rfl
                                    refine pure_ (i := 19) (N := some 123) (v := ?_) (a' := ?_) #[true, true, true, true, true, true, true, true, true, true, true, true, true, true, true, true, true, true, true, true, false, false, false, false, false, false, false, false, false, false, false, false, false, false, false, false, false, false, false, false, false, false] rfl rfl (any_of HT_.out (by kernel_rfl)) (fun _ _ _ h => h) (Or.inl ⟨by rfl, ?_⟩) ?_ ?_
                                    rotate_left
                                    · intro w'
                                      go_simp
                                      with_reducible rfl
                                    rotate_left
                                    · simp only [Act.put, List.setIfInBounds_toArray, List.set_cons_zero, List.set_cons_succ, i64_w, i32_w]
                                      rfl
                                    refine pure_ (i := 20) (N := some 124) (v := ?_) (a' := ?_) #[true, true, true, true, true, true, true, true, true, true, true, true, true, true, true, true, true, true, true, true, true, false, false, false, false, false, false, false, false, false, false, false, false, false, false, false, false, false, false, false, false, false] rfl rfl (any_of HT_.out (by kernel_rfl)) (fun _ _ _ h => h) (Or.inl ⟨by rfl, ?_⟩) ?_ ?_
                                    rotate_left
                                    · intro w'
                                      go_simp
                                      with_reducible rfl
                                    rotate_left
                                    · simp only [Act.put, List.setIfInBounds_toArray, List.set_cons_zero, List.set_cons_succ, i64_w, i32_w]
                                      rfl
                                    refine pure_ (i := 21) (N := some 125) (v := ?_) (a' := ?_) #[true, true, true, true, true, true, true, true, true, true, true, true, true, true, true, true, true, true, true, true, true, true, false, false, false, false, false, false, false, false, false, false, false, false, false, false, false, false, false, false, false, false] rfl rfl (any_of HT_.out (by kernel_rfl)) (fun _ _ _ h => h) (Or.inl ⟨by rfl, ?_⟩) ?_ ?_
                                    rotate_left
                                    · intro w'
                                      go_simp
                                      with_reducible rfl
                                    rotate_left
                                    · simp only [Act.put, List.setIfInBounds_toArray, List.set_cons_zero, List.set_cons_succ, i64_w, i32_w]
                                      rfl
                                    refine pure_ (i := 22) (N := some 126) (v := ?_) (a' := ?_) #[true, true, true, true, true, true, true, true, true, true, true, true, true, true, true, true, true, true, true, true, true, true, true, false, false, false, false, false, false, false, false, false, false, false, false, false, false, false, false, false, false, false] rfl rfl (any_of HT_.out (by kernel_rfl)) (fun _ _ _ h => h) (Or.inl ⟨by rfl, ?_⟩) ?_ ?_
                                    rotate_left
                                    · intro w'
                                      go_simp
                                      with_reducible rfl
                                    rotate_left
                                    · simp only [Act.put, List.setIfInBounds_toArray, List.set_cons_zero, List.set_cons_succ, i64_w, i32_w]
                                      rfl
                                    refine pure_ (i := 23) (N := some 127) (v := ?_) (a' := ?_) #[true, true, true, true, true, true, true, true, true, true, true, true, true, true, true, true, true, true, true, true, true, true, true, true, false, false, false, false, false, false, false, false, false, false, false, false, false, false, false, false, false, false] rfl rfl (any_of HT_.out (by kernel_rfl)) (fun _ _ _ h => h) (Or.inl ⟨by rfl, ?_⟩) ?_ ?_
                                    rotate_left
                                    · intro w'
                                      go_simp
                                      with_reducible rfl
                                    rotate_left
                                    · simp only [Act.put, List.setIfInBounds_toArray, List.set_cons_zero, List.set_cons_succ, i64_w, i32_w]
                                      rfl
                                    refine pure_ (i := 24) (N := some 128) (v := ?_) (a' := ?_) #[true, true, true, true, true, true, true, true, true, true, true, true, true, true, true, true, true, true, true, true, true, true, true, true, true, false, false, false, false, false, false, false, false, false, false, false, false, false, false, false, false, false] rfl rfl (any_of HT_.out (by kernel_rfl)) (fun _ _ _ h => h) (Or.inl ⟨by rfl, ?_⟩) ?_ ?_
                                    rotate_left
                                    · intro w'
                                      go_simp
                                      with_reducible rfl
                                    rotate_left
                                    · simp only [Act.put, List.setIfInBounds_toArray, List.set_cons_zero, List.set_cons_succ, i64_w, i32_w]
                                      rfl
                                    refine pure_ (i := 25) (N := some 129) (v := ?_) (a' := ?_) #[true, true, true, true, true, true, true, true, true, true, true, true, true, true, true, true, true, true, true, true, true, true, true, true, true, true, false, false, false, false, false, false, false, false, false, false, false, false, false, false, false, false] rfl rfl (any_of HT_.out (by kernel_rfl)) (fun _ _ _ h => h) (Or.inl ⟨by rfl, ?_⟩) ?_ ?_
                                    rotate_left
                                    · intro w'
                                      go_simp
                                      with_reducible rfl
                                    rotate_left
                                    · simp only [Act.put, List.setIfInBounds_toArray, List.set_cons_zero, List.set_cons_succ, i64_w, i32_w]
                                      rfl
                                    refine pure_ (i := 26) (N := some 130) (v := ?_) (a' := ?_) #[true, true, true, true, true, true, true, true, true, true, true, true, true, true, true, true, true, true, true, true, true, true, true, true, true, true, true, false, false, false, false, false, false, false, false, false, false, false, false, false, false, false] rfl rfl (any_of HT_.out (by kernel_rfl)) (fun _ _ _ h => h) (Or.inl ⟨by rfl, ?_⟩) ?_ ?_
                                    rotate_left
                                    · intro w'
                                      go_simp
                                      with_reducible rfl
                                    rotate_left
                                    · simp only [Act.put, List.setIfInBounds_toArray, List.set_cons_zero, List.set_cons_succ, i64_w, i32_w]
                                      rfl
                                    refine pure_ (i := 27) (N := some 131) (v := ?_) (a' := ?_) #[true, true, true, true, true, true, true, true, true, true, true, true, true, true, true, true, true, true, true, true, true, true, true, true, true, true, true, true, false, false, false, false, false, false, false, false, false, false, false, false, false, false] rfl rfl (any_of HT_.out (by kernel_rfl)) (fun _ _ _ h => h) (Or.inl ⟨by rfl, ?_⟩) ?_ ?_
                                    rotate_left
                                    · intro w'
                                      go_simp
                                      with_reducible rfl
                                    rotate_left
                                    · simp only [Act.put, List.setIfInBounds_toArray, List.set_cons_zero, List.set_cons_succ, i64_w, i32_w]
                                      rfl
                                    refine pure_ (i := 28) (N := some 132) (v := ?_) (a' := ?_) #[true, true, true, true, true, true, true, true, true, true, true, true, true, true, true, true, true, true, true, true, true, true, true, true, true, true, true, true, true, false, false, false, false, false, false, false, false, false, false, false, false, false] rfl rfl (any_of HT_.out (by kernel_rfl)) (fun _ _ _ h => h) (Or.inl ⟨by rfl, ?_⟩) ?_ ?_
                                    rotate_left
                                    · intro w'
                                      go_simp
                                      with_reducible rfl
                                    rotate_left
                                    · simp only [Act.put, List.setIfInBounds_toArray, List.set_cons_zero, List.set_cons_succ, i64_w, i32_w]
                                      rfl
                                    refine pure_ (i := 29) (N := some 133) (v := ?_) (a' := ?_) #[true, true, true, true, true, true, true, true, true, true, true, true, true, true, true, true, true, true, true, true, true, true, true, true, true, true, true, true, true, true, false, false, false, false, false, false, false, false, false, false, false, false] rfl rfl (any_of HT_.out (by kernel_rfl)) (fun _ _ _ h => h) (Or.inl ⟨by rfl, ?_⟩) ?_ ?_
                                    rotate_left
                                    · intro w'
                                      go_simp
                                      with_reducible rfl
                                    rotate_left
                                    · simp only [Act.put, List.setIfInBounds_toArray, List.set_cons_zero, List.set_cons_succ, i64_w, i32_w]
                                      rfl
                                    refine pure_ (i := 30) (N := some 134) (v := ?_) (a' := ?_) #[true, true, true, true, true, true, true, true, true, true, true, true, true, true, true, true, true, true, true, true, true, true, true, true, true, true, true, true, true, true, true, false, false, false, false, false, false, false, false, false, false, false] rfl rfl (any_of HT_.out (by kernel_rfl)) (fun _ _ _ h => h) (Or.inl ⟨by rfl, ?_⟩) ?_ ?_
                                    rotate_left
                                    · intro w'
                                      go_simp
                                      with_reducible rfl
                                    rotate_left
                                    · simp only [Act.put, List.setIfInBounds_toArray, List.set_cons_zero, List.set_cons_succ, i64_w, i32_w]
                                      rfl
                                    refine pure_ (i := 31) (N := some 135) (v := ?_) (a' := ?_) #[true, true, true, true, true, true, true, true, true, true, true, true, true, true, true, true, true, true, true, true, true, true, true, true, true, true, true, true, true, true, true, true, false, false, false, false, false, false, false, false, false, false] rfl rfl (any_of HT_.out (by kernel_rfl)) (fun _ _ _ h => h) (Or.inl ⟨by rfl, ?_⟩) ?_ ?_
                                    rotate_left
                                    · intro w'
                                      go_simp
                                      with_reducible rfl
                                    rotate_left
                                    · simp only [Act.put, List.setIfInBounds_toArray, List.set_cons_zero, List.set_cons_succ, i64_w, i32_w]
                                      rfl
                                    refine pure_ (i := 32) (N := some 136) (v := ?_) (a' := ?_) #[true, true, true, true, true, true, true, true, true, true, true, true, true, true, true, true, true, true, true, true, true, true, true, true, true, true, true, true, true, true, true, true, true, false, false, false, false, false, false, false, false, false] rfl rfl (any_of HT_.out (by kernel_rfl)) (fun _ _ _ h => h) (Or.inl ⟨by rfl, ?_⟩) ?_ ?_
                                    rotate_left
                                    · intro w'
                                      go_simp
                                      with_reducible rfl
                                    rotate_left
                                    · simp only [Act.put, List.setIfInBounds_toArray, List.set_cons_zero, List.set_cons_succ, i64_w, i32_w]
                                      rfl
                                    refine pure_ (i := 33) (N := some 137) (v := ?_) (a' := ?_) #[true, true, true, true, true, true, true, true, true, true, true, true, true, true, true, true, true, true, true, true, true, true, true, true, true, true, true, true, true, true, true, true, true, true, false, false, false, false, false, false, false, false] rfl rfl (any_of HT_.out (by kernel_rfl)) (fun _ _ _ h => h) (Or.inl ⟨by rfl, ?_⟩) ?_ ?_
                                    rotate_left
                                    · intro w'
                                      go_simp
                                      with_reducible rfl
                                    rotate_left
                                    · simp only [Act.put, List.setIfInBounds_toArray, List.set_cons_zero, List.set_cons_succ, i64_w, i32_w]
                                      rfl
                                    refine pure_ (i := 34) (N := some 138) (v := ?_) (a' := ?_) #[true, true, true, true, true, true, true, true, true, true, true, true, true, true, true, true, true, true, true, true, true, true, true, true, true, true, true, true, true, true, true, true, true, true, true, false, false, false, false, false, false, false] rfl rfl (any_of HT_.out (by kernel_rfl)) (fun _ _ _ h => h) (Or.inl ⟨by rfl, ?_⟩) ?_ ?_
                                    rotate_left
                                    · intro w'
                                      go_simp
                                      with_reducible rfl
                                    rotate_left
                                    · simp only [Act.put, List.setIfInBounds_toArray, List.set_cons_zero, List.set_cons_succ, i64_w, i32_w]
                                      rfl
                                    refine pure_ (i := 35) (N := some 139) (v := ?_) (a' := ?_) #[true, true, true, true, true, true, true, true, true, true, true, true, true, true, true, true, true, true, true, true, true, true, true, true, true, true, true, true, true, true, true, true, true, true, true, true, false, false, false, false, false, false] rfl rfl (any_of HT_.out (by kernel_rfl)) (fun _ _ _ h => h) (Or.inl ⟨by rfl, ?_⟩) ?_ ?_
                                    rotate_left
                                    · intro w'
                                      go_simp
                                      with_reducible rfl
                                    rotate_left
                                    · simp only [Act.put, List.setIfInBounds_toArray, List.set_cons_zero, List.set_cons_succ, i64_w, i32_w]
                                      rfl
                                    refine pure_ (i := 36) (N := some 140) (v := ?_) (a' := ?_) #[true, true, true, true, true, true, true, true, true, true, true, true, true, true, true, true, true, true, true, true, true, true, true, true, true, true, true, true, true, true, true, true, true, true, true, true, true, false, false, false, false, false] rfl rfl (any_of HT_.out (by kernel_rfl)) (fun _ _ _ h => h) (Or.inl ⟨by rfl, ?_⟩) ?_ ?_
                                    rotate_left
                                    · intro w'
                                      go_simp
                                      with_reducible rfl
                                    rotate_left
                                    · simp only [Act.put, List.setIfInBounds_toArray, List.set_cons_zero, List.set_cons_succ, i64_w, i32_w]
                                      rfl
                                    refine pure_ (i := 37) (N := some 141) (v := ?_) (a' := ?_) #[true, true, true, true, true, true, true, true, true, true, true, true, true, true, true, true, true, true, true, true, true, true, true, true, true, true, true, true, true, true, true, true, true, true, true, true, true, true, false, false, false, false] rfl rfl (any_of HT_.out (by kernel_rfl)) (fun _ _ _ h => h) (Or.inl ⟨by rfl, ?_⟩) ?_ ?_
                                    rotate_left
                                    · intro w'
                                      go_simp
                                      with_reducible rfl
                                    rotate_left
                                    · simp only [Act.put, List.setIfInBounds_toArray, List.set_cons_zero, List.set_cons_succ, i64_w, i32_w]
                                      rfl
                                    refine pure_ (i := 38) (N := some 142) (v := ?_) (a' := ?_) #[true, true, true, true, true, true, true, true, true, true, true, true, true, true, true, true, true, true, true, true, true, true, true, true, true, true, true, true, true, true, true, true, true, true, true, true, true, true, true, false, false, false] rfl rfl (any_of HT_.out (by kernel_rfl)) (fun _ _ _ h => h) (Or.inl ⟨by rfl, ?_⟩) ?_ ?_
                                    rotate_left
                                    · intro w'
                                      go_simp
                                      with_reducible rfl
                                    rotate_left
                                    · simp only [Act.put, List.setIfInBounds_toArray, List.set_cons_zero, List.set_cons_succ, i64_w, i32_w]
                                      rfl
                                    refine pure_ (i := 39) (N := some 143) (v := ?_) (a' := ?_) #[true, true, true, true, true, true, true, true, true, true, true, true, true, true, true, true, true, true, true, true, true, true, true, true, true, true, true, true, true, true, true, true, true, true, true, true, true, true, true, true, false, false] rfl rfl (any_of HT_.out (by kernel_rfl)) (fun _ _ _ h => h) (Or.inl ⟨by rfl, ?_⟩) ?_ ?_
                                    rotate_left
                                    · intro w'
                                      go_simp
                                      with_reducible rfl
                                    rotate_left
                                    · simp only [Act.put, List.setIfInBounds_toArray, List.set_cons_zero, List.set_cons_succ, i64_w, i32_w]
                                      rfl
                                    refine pure_ (i := 40) (N := some 144) (v := ?_) (a' := ?_) #[true, true, true, true, true, true, true, true, true, true, true, true, true, true, true, true, true, true, true, true, true, true, true, true, true, true, true, true, true, true, true, true, true, true, true, true, true, true, true, true, true, false] rfl rfl (any_of HT_.out (by kernel_rfl)) (fun _ _ _ h => h) (Or.inl ⟨by rfl, ?_⟩) ?_ ?_
                                    rotate_left
                                    · intro w'
                                      go_simp
                                      with_reducible rfl
                                    rotate_left
                                    · simp only [Act.put, List.setIfInBounds_toArray, List.set_cons_zero, List.set_cons_succ, i64_w, i32_w]
                                      rfl
                                    refine pure_ (i := 41) (N := some 145) (v := ?_) (a' := ?_) #[true, true, true, true, true, true, true, true, true, true, true, true, true, true, true, true, true, true, true, true, true, true, true, true, true, true, true, true, true, true, true, true, true, true, true, true, true, true, true, true, true, true] rfl rfl (any_of HT_.out (by kernel_rfl)) (fun _ _ _ h => h) (Or.inl ⟨by rfl, ?_⟩) ?_ ?_
                                    rotate_left
                                    · intro w'
                                      go_simp
                                      with_reducible rfl
                                    rotate_left
                                    · simp only [Act.put, List.setIfInBounds_toArray, List.set_cons_zero, List.set_cons_succ, i64_w, i32_w]
                                      rfl
                                    refine done_ (done_of HT_.out (by kernel_rfl)) ?_
                                    try go_wp2
                                    go_roundg k1
                                    case measure => have := HK1.out; omega
                                    case rel => exact ⟨(wrap64 (x9_1 + 1)), (by first | rfl | (simp; done) | (simp [*]; done)), H', ⟨by have := HK1.out; omega⟩, ⟨by (with_reducible repeat (first | refine bN ?_ _ | refine bD ?_ | refine bA ?_ _)); exact BK573.out⟩, ⟨by (with_reducible repeat (first | refine bN ?_ _ | refine bD ?_ | refine bA ?_ _)); exact BK577.out⟩, ⟨by repeat (first | (with_reducible first | exact HB.out | apply wA | apply wN | apply wD | refine below_set ?_ GE573.out | refine below_set ?_ GE577.out | refine below_set ?_ GE581.out | refine below_set ?_ GE582.out | refine below_set ?_ GE587.out | refine below_set ?_ GE592.out) | exact HB.out)⟩⟩
                                  · rw [if_neg c38] at H
                                    have c38b0 : (t598 == t600) = false := beq_eq_false_iff_ne.mpr c38
                                    have c38b1 : (t598 != t600) = true := bne_iff_ne.mpr c38
                                    exact absurd ((Option.some.inj H).trans hrt.out) (by decide)
                              · rw [if_neg c36] at H
                                have c36b0 : (t594 == t596) = false := beq_eq_false_iff_ne.mpr c36
                                have c36b1 : (t594 != t596) = true := bne_iff_ne.mpr c36
                                exact absurd ((Option.some.inj H).trans hrt.out) (by decide)
                          · rw [if_neg c34] at H
                            have c34b0 : (t586 == t591) = false := beq_eq_false_iff_ne.mpr c34
                            have c34b1 : (t586 != t591) = true := bne_iff_ne.mpr c34
                            exact absurd ((Option.some.inj H).trans hrt.out) (by decide)
                    · rw [if_neg c31] at H
                      have c31b0 : (t601 == t602) = false := beq_eq_false_iff_ne.mpr c31
                      have c31b1 : (t601 != t602) = true := bne_iff_ne.mpr c31
                      exact absurd ((Option.some.inj H).trans hrt.out) (by decide)
                  · rw [if_neg c22] at H
                    exact absurd H (by simp)
                · rw [if_neg c21] at H
                  exact absurd H (by simp)
              · rw [if_neg c19] at H
                exact absurd H (by simp)
            · rw [if_neg c18] at H
              have c18b0 : decide (x9_1 < (l0.length : Int)) = false := decide_eq_false c18
              clear c18
              replace H := Option.bind_eq_some_iff.mp H
              obtain ⟨t578, A860, H⟩ := H
              replace H : (some t578) = some r := H
              have A86 := ak A860
              clear A860
              obtain rfl := Option.some.inj H
              go_wp2_with (first | ((with_reducible refine gate_callee (f := 12) rfl ?_); refine goesL_ (some 146) rfl rfl Tryd.func12 (by kernel_rfl) rfl #[] rfl (by (try simp only [List.map_toArray, List.map_cons, List.map_nil]); first | done | rfl | (simp only [List.length_drop, List.length_take]; rfl)) ?_; (with_reducible refine (mummerlaw03_awake.calls k1  t578 _ hrt A86.out ⟨Sc.Tab.stay HT.out (by repeat (first | (with_reducible first | exact HB.out | apply wA | apply wN | apply wD) | exact HB.out | (refine below_set ?_ (by assumption)) | (refine below_set ?_ (Aside0.out (by assumption)))))⟩).mono ?_); rintro e w87 ⟨rfl, hb⟩; refine ⟨_, rfl, ?_⟩; have n0_ := ak (blk_below (g := gb573) (o := .cells #[.int .i64 t570, .int .i64 t571] 24 (0, 0)) (by (with_reducible repeat (first | refine bN ?_ _ | refine bD ?_ | refine bA ?_ _)); exact BK573.out) hb); have n1_ := ak (blk_below (g := gb577) (o := .cells #[.int .i64 t574, .int .i64 t575] 24 (0, 0)) (by (with_reducible repeat (first | refine bN ?_ _ | refine bD ?_ | refine bA ?_ _)); exact BK577.out) hb); have n2_ := ak (below_step (by repeat (first | (with_reducible first | exact HB.out | apply wA | apply wN | apply wD | refine below_set ?_ GE573.out | refine below_set ?_ GE577.out) | exact HB.out)) hb); clear BK573; clear BK577; clear HB; have BK573 := n0_; have BK577 := n1_; have HB := n2_; clear n0_ n1_ n2_; (try clear hb); (try clear hb2); (try clear hk); (try clear hi)))
              go_ret
              exact ⟨by first | rfl | (simp [errW_none, errW_some] <;> rfl) | (simp [*, errW_none, errW_some] <;> rfl), by repeat (first | (with_reducible first | exact HB.out | apply wA | apply wN | apply wD | refine below_set ?_ GE573.out | refine below_set ?_ GE577.out) | exact HB.out)⟩
      · rw [if_neg c9] at H
        have c9b0 : (t572 == t576) = false := beq_eq_false_iff_ne.mpr c9
        have c9b1 : (t572 != t576) = true := bne_iff_ne.mpr c9
        exact absurd ((Option.some.inj H).trans hrt.out) (by decide)
end Go.Proofs.YtnkfdobcmfdhfaaDoor.P
namespace Go.Proofs.YtnkfdobcmfdhfaaDoor.P
open Go.RowKit Go.Proofs.YtnkfdobcmfdhfaaDoorW.PrintWords Go.Proofs.YtnkfdobcmfdhfaaDoorW.PrintLast Sc
set_option linter.unusedVariables false
set_option linter.unusedSimpArgs false
set_option maxRecDepth 20000
theorem awake60 : mummerlaw03_awake.f 60 = some true := by decide +kernel
theorem awake_f (k : Nat) (h : 60 ≤ k) : mummerlaw03_awake.f k = some true := by
  induction h with
  | refl => exact awake60
  | step _ ih => exact mummerlaw03_awake.mono _ _ ih
end Go.Proofs.YtnkfdobcmfdhfaaDoor.P
