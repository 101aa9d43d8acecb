import Derived.Test.YtnkfdobcmfdhfaaDoorKL28
namespace Go.Proofs.YtnkfdobcmfdhfaaDoor.P
open Go.RowKit Go.Proofs.YtnkfdobcmfdhfaaDoorW.PrintWords Go.Proofs.YtnkfdobcmfdhfaaDoorW.PrintLast Go.Proofs.YtnkfdobcmfdhfaaDoorW.PrintMore
attribute [local go_sem] max2_int min2_int max_two min_two max_three min_three max_four min_four   -- for this text's walks alone
set_option linter.unusedVariables false
set_option linter.unusedSimpArgs false
theorem name_world {P : Program} {c : Code} {Q : Exit → Act → World → Prop} {a : Act} {w : World} (F : World → Prop) (h : F w) (k : ∀ W, F W → Code.wp P c Q a W) : Code.wp P c Q a w := k w h
theorem fit32 {n : Int} (h : -2147483648 ≤ n) (h' : n ≤ 2147483647) : IntKind.i32.wrap n = n := by rw [i32_w]; unfold wrap32; omega
set_option maxHeartbeats 8000000 in
set_option maxRecDepth 100000 in
theorem num1_lo (A0 : Option Addr) (c0 : Nat) (a : Int) (w : World) (hr0 : Kd.C (Kd.int .u8) w A0 1 [a]) (hc0 : 1 ≤ c0) (ha : 0 ≤ a ∧ a < 256) (p0 : a < 128) :
    Calls Tryd.prog 71 #[.slice A0 1 c0] w fun e w' => e = .returned (.int .i32 (a)) ∧ Below w.heap.size w w' := by
  have HB := ak (Below.refl w.heap.size w)
  obtain ⟨ad, e0, hx0⟩ := Kd.at_int hr0 0 (by decide) (by decide)
  subst e0
  have hx0 : w.cell? ad = some (.int .u8 a) := by have h := hx0; simpa [rd, Addr.add] using h
  have hw_a := fit32 (n := a) (by omega) (by omega)
  have q0 := decide_eq_true p0
  go_enter Tryd.func71, Tryd.ntmps71
  go_upto_region 3 with (first | ((with_reducible refine gate_dst (N := 4) rfl ?_); refine box_event ?hg (N := 4) ?hd (cs := #[.int .i32 0, .int .i32 0, .int .i32 0, .int .i32 0, .int .i32 0]) (t := 105) ?hr ?_; (case hd => rfl); (case hg => rfl); (case hr => first | (go_simp; done) | (go_simp; rfl)); intro gb hg w5 hbox hb; have n0_ := ak (below_step (by repeat (first | (with_reducible first | exact HB.out | apply wA | apply wN | apply wD) | exact HB.out)) hb); have n1_ := ak (hbox); have n3_ := ak ((by rw [hg]; exact (below_size (by repeat (first | (with_reducible first | exact HB.out | apply wA | apply wN | apply wD) | exact HB.out))) : w.heap.size ≤ gb)); clear HB; have HB := n0_; have BK := n1_; have GE := n3_; clear n0_ n1_ n3_; clear hb hbox hg; have hcz_0 : w5.cell? ⟨gb, 0, none⟩ = some (.int .i32 0) := (blk_cell BK.out 0).trans rfl; have hcz_1 : w5.cell? ⟨gb, 1, none⟩ = some (.int .i32 0) := (blk_cell BK.out 1).trans rfl; have hcz_2 : w5.cell? ⟨gb, 2, none⟩ = some (.int .i32 0) := (blk_cell BK.out 2).trans rfl; have hcz_3 : w5.cell? ⟨gb, 3, none⟩ = some (.int .i32 0) := (blk_cell BK.out 3).trans rfl; have hcz_4 : w5.cell? ⟨gb, 4, none⟩ = some (.int .i32 0) := (blk_cell BK.out 4).trans rfl; have hfz_0 := blk_frozen BK.out 0; have hfz_1 := blk_frozen BK.out 1; have hfz_2 := blk_frozen BK.out 2; have hfz_3 := blk_frozen BK.out 3; have hfz_4 := blk_frozen BK.out 4))
  refine name_world (fun W => W.heap[gb]? = some (.cells #[.int .i32 0, .int .i32 0, .int .i32 192, .int .i32 224, .int .i32 240] 105 (0, 0)) ∧ Below w.heap.size w W) ⟨?bk, ?be⟩ (fun W ⟨BKW, HBW⟩ => ?_)
  case bk => (with_reducible repeat (first | refine bN ?_ _ | refine bD ?_ | refine bA ?_ _)); refine blk_put (cs := #[.int .i32 0, .int .i32 0, .int .i32 192, .int .i32 224, .int .i32 0]) ?_ 4 _ rfl; (with_reducible repeat (first | refine bN ?_ _ | refine bD ?_ | refine bA ?_ _)); refine blk_put (cs := #[.int .i32 0, .int .i32 0, .int .i32 192, .int .i32 0, .int .i32 0]) ?_ 3 _ rfl; (with_reducible repeat (first | refine bN ?_ _ | refine bD ?_ | refine bA ?_ _)); refine blk_put (cs := #[.int .i32 0, .int .i32 0, .int .i32 0, .int .i32 0, .int .i32 0]) ?_ 2 _ rfl; (with_reducible repeat (first | refine bN ?_ _ | refine bD ?_ | refine bA ?_ _)); refine blk_put (cs := #[.int .i32 0, .int .i32 0, .int .i32 0, .int .i32 0, .int .i32 0]) ?_ 1 _ rfl; (with_reducible repeat (first | refine bN ?_ _ | refine bD ?_ | refine bA ?_ _)); refine blk_put (cs := #[.int .i32 0, .int .i32 0, .int .i32 0, .int .i32 0, .int .i32 0]) ?_ 0 _ rfl; (with_reducible repeat (first | refine bN ?_ _ | refine bD ?_ | refine bA ?_ _)); exact BK.out
  case be => repeat (first | (with_reducible first | exact HB.out | apply wA | apply wN | apply wD | refine below_set ?_ GE.out) | exact HB.out)
  have hk2 : W.cell? ⟨gb, 2, none⟩ = some (.int .i32 192) := (blk_cell BKW 2).trans rfl
  have hk3 : W.cell? ⟨gb, 3, none⟩ = some (.int .i32 224) := (blk_cell BKW 3).trans rfl
  have hk4 : W.cell? ⟨gb, 4, none⟩ = some (.int .i32 240) := (blk_cell BKW 4).trans rfl
  have hxW0 := (HBW.cell (World.block_lt_of_cell? w _ hx0)).trans hx0
  clear HB BK
  go_wp2
  refine wp_loop_rounds 4 ?_
  rw [rounds_succ]
  go_wp2
  rw [rounds_succ]
  go_wp2
  rw [rounds_succ]
  go_wp2
  rw [rounds_succ]
  go_wp2
  go_ret
  exact ⟨by first | rfl | (simp [*] <;> rfl), HBW⟩
set_option maxHeartbeats 8000000 in
set_option maxRecDepth 100000 in
theorem num1_hi (A0 : Option Addr) (c0 : Nat) (a : Int) (w : World) (hr0 : Kd.C (Kd.int .u8) w A0 1 [a]) (hc0 : 1 ≤ c0) (ha : 0 ≤ a ∧ a < 256) (p0 : ¬ a < 128) :
    Calls Tryd.prog 71 #[.slice A0 1 c0] w fun e w' => e = .returned (.int .i32 (-1)) ∧ Below w.heap.size w w' := by
  have HB := ak (Below.refl w.heap.size w)
  obtain ⟨ad, e0, hx0⟩ := Kd.at_int hr0 0 (by decide) (by decide)
  subst e0
  have hx0 : w.cell? ad = some (.int .u8 a) := by have h := hx0; simpa [rd, Addr.add] using h
  have hw_a := fit32 (n := a) (by omega) (by omega)
  have q0 := decide_eq_false p0
  go_enter Tryd.func71, Tryd.ntmps71
  go_upto_region 3 with (first | ((with_reducible refine gate_dst (N := 4) rfl ?_); refine box_event ?hg (N := 4) ?hd (cs := #[.int .i32 0, .int .i32 0, .int .i32 0, .int .i32 0, .int .i32 0]) (t := 105) ?hr ?_; (case hd => rfl); (case hg => rfl); (case hr => first | (go_simp; done) | (go_simp; rfl)); intro gb hg w5 hbox hb; have n0_ := ak (below_step (by repeat (first | (with_reducible first | exact HB.out | apply wA | apply wN | apply wD) | exact HB.out)) hb); have n1_ := ak (hbox); have n3_ := ak ((by rw [hg]; exact (below_size (by repeat (first | (with_reducible first | exact HB.out | apply wA | apply wN | apply wD) | exact HB.out))) : w.heap.size ≤ gb)); clear HB; have HB := n0_; have BK := n1_; have GE := n3_; clear n0_ n1_ n3_; clear hb hbox hg; have hcz_0 : w5.cell? ⟨gb, 0, none⟩ = some (.int .i32 0) := (blk_cell BK.out 0).trans rfl; have hcz_1 : w5.cell? ⟨gb, 1, none⟩ = some (.int .i32 0) := (blk_cell BK.out 1).trans rfl; have hcz_2 : w5.cell? ⟨gb, 2, none⟩ = some (.int .i32 0) := (blk_cell BK.out 2).trans rfl; have hcz_3 : w5.cell? ⟨gb, 3, none⟩ = some (.int .i32 0) := (blk_cell BK.out 3).trans rfl; have hcz_4 : w5.cell? ⟨gb, 4, none⟩ = some (.int .i32 0) := (blk_cell BK.out 4).trans rfl; have hfz_0 := blk_frozen BK.out 0; have hfz_1 := blk_frozen BK.out 1; have hfz_2 := blk_frozen BK.out 2; have hfz_3 := blk_frozen BK.out 3; have hfz_4 := blk_frozen BK.out 4))
  refine name_world (fun W => W.heap[gb]? = some (.cells #[.int .i32 0, .int .i32 0, .int .i32 192, .int .i32 224, .int .i32 240] 105 (0, 0)) ∧ Below w.heap.size w W) ⟨?bk, ?be⟩ (fun W ⟨BKW, HBW⟩ => ?_)
  case bk => (with_reducible repeat (first | refine bN ?_ _ | refine bD ?_ | refine bA ?_ _)); refine blk_put (cs := #[.int .i32 0, .int .i32 0, .int .i32 192, .int .i32 224, .int .i32 0]) ?_ 4 _ rfl; (with_reducible repeat (first | refine bN ?_ _ | refine bD ?_ | refine bA ?_ _)); refine blk_put (cs := #[.int .i32 0, .int .i32 0, .int .i32 192, .int .i32 0, .int .i32 0]) ?_ 3 _ rfl; (with_reducible repeat (first | refine bN ?_ _ | refine bD ?_ | refine bA ?_ _)); refine blk_put (cs := #[.int .i32 0, .int .i32 0, .int .i32 0, .int .i32 0, .int .i32 0]) ?_ 2 _ rfl; (with_reducible repeat (first | refine bN ?_ _ | refine bD ?_ | refine bA ?_ _)); refine blk_put (cs := #[.int .i32 0, .int .i32 0, .int .i32 0, .int .i32 0, .int .i32 0]) ?_ 1 _ rfl; (with_reducible repeat (first | refine bN ?_ _ | refine bD ?_ | refine bA ?_ _)); refine blk_put (cs := #[.int .i32 0, .int .i32 0, .int .i32 0, .int .i32 0, .int .i32 0]) ?_ 0 _ rfl; (with_reducible repeat (first | refine bN ?_ _ | refine bD ?_ | refine bA ?_ _)); exact BK.out
  case be => repeat (first | (with_reducible first | exact HB.out | apply wA | apply wN | apply wD | refine below_set ?_ GE.out) | exact HB.out)
  have hk2 : W.cell? ⟨gb, 2, none⟩ = some (.int .i32 192) := (blk_cell BKW 2).trans rfl
  have hk3 : W.cell? ⟨gb, 3, none⟩ = some (.int .i32 224) := (blk_cell BKW 3).trans rfl
  have hk4 : W.cell? ⟨gb, 4, none⟩ = some (.int .i32 240) := (blk_cell BKW 4).trans rfl
  have hxW0 := (HBW.cell (World.block_lt_of_cell? w _ hx0)).trans hx0
  clear HB BK
  go_wp2
  refine wp_loop_rounds 4 ?_
  rw [rounds_succ]
  go_wp2
  rw [rounds_succ]
  go_wp2
  rw [rounds_succ]
  go_wp2
  rw [rounds_succ]
  go_wp2
  go_ret
  exact ⟨by first | rfl | (simp [*] <;> rfl), HBW⟩
set_option maxHeartbeats 8000000 in
set_option maxRecDepth 100000 in
theorem num2_below (A0 : Option Addr) (c0 : Nat) (a b : Int) (w : World) (hr0 : Kd.C (Kd.int .u8) w A0 2 [a, b]) (hc0 : 2 ≤ c0) (ha : 0 ≤ a ∧ a < 256) (hb : 0 ≤ b ∧ b < 256) (p0 : a < 192) :
    Calls Tryd.prog 71 #[.slice A0 2 c0] w fun e w' => e = .returned (.int .i32 (-1)) ∧ Below w.heap.size w w' := by
  have HB := ak (Below.refl w.heap.size w)
  obtain ⟨ad, e0, hx0⟩ := Kd.at_int hr0 0 (by decide) (by decide)
  subst e0
  have hx0 : w.cell? ad = some (.int .u8 a) := by have h := hx0; simpa [rd, Addr.add] using h
  obtain ⟨ad1, e1, hx1⟩ := Kd.at_int hr0 1 (by decide) (by decide)
  obtain rfl := Option.some.inj e1
  have hx1 : w.cell? ⟨ad.block, ad.off + 1, none⟩ = some (.int .u8 b) := by have h := hx1; simpa [rd, Addr.add] using h
  have hw_a := fit32 (n := a) (by omega) (by omega)
  have hw_b := fit32 (n := b) (by omega) (by omega)
  have q0 := decide_eq_true p0
  have z0 := fit32 (n := a - 192) (by omega) (by omega)
  go_enter Tryd.func71, Tryd.ntmps71
  go_upto_region 3 with (first | ((with_reducible refine gate_dst (N := 4) rfl ?_); refine box_event ?hg (N := 4) ?hd (cs := #[.int .i32 0, .int .i32 0, .int .i32 0, .int .i32 0, .int .i32 0]) (t := 105) ?hr ?_; (case hd => rfl); (case hg => rfl); (case hr => first | (go_simp; done) | (go_simp; rfl)); intro gb hg w5 hbox hb; have n0_ := ak (below_step (by repeat (first | (with_reducible first | exact HB.out | apply wA | apply wN | apply wD) | exact HB.out)) hb); have n1_ := ak (hbox); have n3_ := ak ((by rw [hg]; exact (below_size (by repeat (first | (with_reducible first | exact HB.out | apply wA | apply wN | apply wD) | exact HB.out))) : w.heap.size ≤ gb)); clear HB; have HB := n0_; have BK := n1_; have GE := n3_; clear n0_ n1_ n3_; clear hb hbox hg; have hcz_0 : w5.cell? ⟨gb, 0, none⟩ = some (.int .i32 0) := (blk_cell BK.out 0).trans rfl; have hcz_1 : w5.cell? ⟨gb, 1, none⟩ = some (.int .i32 0) := (blk_cell BK.out 1).trans rfl; have hcz_2 : w5.cell? ⟨gb, 2, none⟩ = some (.int .i32 0) := (blk_cell BK.out 2).trans rfl; have hcz_3 : w5.cell? ⟨gb, 3, none⟩ = some (.int .i32 0) := (blk_cell BK.out 3).trans rfl; have hcz_4 : w5.cell? ⟨gb, 4, none⟩ = some (.int .i32 0) := (blk_cell BK.out 4).trans rfl; have hfz_0 := blk_frozen BK.out 0; have hfz_1 := blk_frozen BK.out 1; have hfz_2 := blk_frozen BK.out 2; have hfz_3 := blk_frozen BK.out 3; have hfz_4 := blk_frozen BK.out 4))
  refine name_world (fun W => W.heap[gb]? = some (.cells #[.int .i32 0, .int .i32 0, .int .i32 192, .int .i32 224, .int .i32 240] 105 (0, 0)) ∧ Below w.heap.size w W) ⟨?bk, ?be⟩ (fun W ⟨BKW, HBW⟩ => ?_)
  case bk => (with_reducible repeat (first | refine bN ?_ _ | refine bD ?_ | refine bA ?_ _)); refine blk_put (cs := #[.int .i32 0, .int .i32 0, .int .i32 192, .int .i32 224, .int .i32 0]) ?_ 4 _ rfl; (with_reducible repeat (first | refine bN ?_ _ | refine bD ?_ | refine bA ?_ _)); refine blk_put (cs := #[.int .i32 0, .int .i32 0, .int .i32 192, .int .i32 0, .int .i32 0]) ?_ 3 _ rfl; (with_reducible repeat (first | refine bN ?_ _ | refine bD ?_ | refine bA ?_ _)); refine blk_put (cs := #[.int .i32 0, .int .i32 0, .int .i32 0, .int .i32 0, .int .i32 0]) ?_ 2 _ rfl; (with_reducible repeat (first | refine bN ?_ _ | refine bD ?_ | refine bA ?_ _)); refine blk_put (cs := #[.int .i32 0, .int .i32 0, .int .i32 0, .int .i32 0, .int .i32 0]) ?_ 1 _ rfl; (with_reducible repeat (first | refine bN ?_ _ | refine bD ?_ | refine bA ?_ _)); refine blk_put (cs := #[.int .i32 0, .int .i32 0, .int .i32 0, .int .i32 0, .int .i32 0]) ?_ 0 _ rfl; (with_reducible repeat (first | refine bN ?_ _ | refine bD ?_ | refine bA ?_ _)); exact BK.out
  case be => repeat (first | (with_reducible first | exact HB.out | apply wA | apply wN | apply wD | refine below_set ?_ GE.out) | exact HB.out)
  have hk2 : W.cell? ⟨gb, 2, none⟩ = some (.int .i32 192) := (blk_cell BKW 2).trans rfl
  have hk3 : W.cell? ⟨gb, 3, none⟩ = some (.int .i32 224) := (blk_cell BKW 3).trans rfl
  have hk4 : W.cell? ⟨gb, 4, none⟩ = some (.int .i32 240) := (blk_cell BKW 4).trans rfl
  have hxW0 := (HBW.cell (World.block_lt_of_cell? w _ hx0)).trans hx0
  have hxW1 := (HBW.cell (World.block_lt_of_cell? w _ hx1)).trans hx1
  clear HB BK
  go_wp2
  refine wp_loop_rounds 4 ?_
  rw [rounds_succ]
  go_wp2
  rw [rounds_succ]
  go_wp2
  rw [rounds_succ]
  go_wp2
  rw [rounds_succ]
  go_wp2
  go_ret
  exact ⟨by first | rfl | (simp [*] <;> rfl), HBW⟩
set_option maxHeartbeats 8000000 in
set_option maxRecDepth 100000 in
theorem num2_above (A0 : Option Addr) (c0 : Nat) (a b : Int) (w : World) (hr0 : Kd.C (Kd.int .u8) w A0 2 [a, b]) (hc0 : 2 ≤ c0) (ha : 0 ≤ a ∧ a < 256) (hb : 0 ≤ b ∧ b < 256) (p0 : ¬ a < 192) (p1 : 224 ≤ a) :
    Calls Tryd.prog 71 #[.slice A0 2 c0] w fun e w' => e = .returned (.int .i32 (-1)) ∧ Below w.heap.size w w' := by
  have HB := ak (Below.refl w.heap.size w)
  obtain ⟨ad, e0, hx0⟩ := Kd.at_int hr0 0 (by decide) (by decide)
  subst e0
  have hx0 : w.cell? ad = some (.int .u8 a) := by have h := hx0; simpa [rd, Addr.add] using h
  obtain ⟨ad1, e1, hx1⟩ := Kd.at_int hr0 1 (by decide) (by decide)
  obtain rfl := Option.some.inj e1
  have hx1 : w.cell? ⟨ad.block, ad.off + 1, none⟩ = some (.int .u8 b) := by have h := hx1; simpa [rd, Addr.add] using h
  have hw_a := fit32 (n := a) (by omega) (by omega)
  have hw_b := fit32 (n := b) (by omega) (by omega)
  have q0 := decide_eq_false p0
  have q1 := decide_eq_true p1
  have z0 := fit32 (n := a - 192) (by omega) (by omega)
  go_enter Tryd.func71, Tryd.ntmps71
  go_upto_region 3 with (first | ((with_reducible refine gate_dst (N := 4) rfl ?_); refine box_event ?hg (N := 4) ?hd (cs := #[.int .i32 0, .int .i32 0, .int .i32 0, .int .i32 0, .int .i32 0]) (t := 105) ?hr ?_; (case hd => rfl); (case hg => rfl); (case hr => first | (go_simp; done) | (go_simp; rfl)); intro gb hg w5 hbox hb; have n0_ := ak (below_step (by repeat (first | (with_reducible first | exact HB.out | apply wA | apply wN | apply wD) | exact HB.out)) hb); have n1_ := ak (hbox); have n3_ := ak ((by rw [hg]; exact (below_size (by repeat (first | (with_reducible first | exact HB.out | apply wA | apply wN | apply wD) | exact HB.out))) : w.heap.size ≤ gb)); clear HB; have HB := n0_; have BK := n1_; have GE := n3_; clear n0_ n1_ n3_; clear hb hbox hg; have hcz_0 : w5.cell? ⟨gb, 0, none⟩ = some (.int .i32 0) := (blk_cell BK.out 0).trans rfl; have hcz_1 : w5.cell? ⟨gb, 1, none⟩ = some (.int .i32 0) := (blk_cell BK.out 1).trans rfl; have hcz_2 : w5.cell? ⟨gb, 2, none⟩ = some (.int .i32 0) := (blk_cell BK.out 2).trans rfl; have hcz_3 : w5.cell? ⟨gb, 3, none⟩ = some (.int .i32 0) := (blk_cell BK.out 3).trans rfl; have hcz_4 : w5.cell? ⟨gb, 4, none⟩ = some (.int .i32 0) := (blk_cell BK.out 4).trans rfl; have hfz_0 := blk_frozen BK.out 0; have hfz_1 := blk_frozen BK.out 1; have hfz_2 := blk_frozen BK.out 2; have hfz_3 := blk_frozen BK.out 3; have hfz_4 := blk_frozen BK.out 4))
  refine name_world (fun W => W.heap[gb]? = some (.cells #[.int .i32 0, .int .i32 0, .int .i32 192, .int .i32 224, .int .i32 240] 105 (0, 0)) ∧ Below w.heap.size w W) ⟨?bk, ?be⟩ (fun W ⟨BKW, HBW⟩ => ?_)
  case bk => (with_reducible repeat (first | refine bN ?_ _ | refine bD ?_ | refine bA ?_ _)); refine blk_put (cs := #[.int .i32 0, .int .i32 0, .int .i32 192, .int .i32 224, .int .i32 0]) ?_ 4 _ rfl; (with_reducible repeat (first | refine bN ?_ _ | refine bD ?_ | refine bA ?_ _)); refine blk_put (cs := #[.int .i32 0, .int .i32 0, .int .i32 192, .int .i32 0, .int .i32 0]) ?_ 3 _ rfl; (with_reducible repeat (first | refine bN ?_ _ | refine bD ?_ | refine bA ?_ _)); refine blk_put (cs := #[.int .i32 0, .int .i32 0, .int .i32 0, .int .i32 0, .int .i32 0]) ?_ 2 _ rfl; (with_reducible repeat (first | refine bN ?_ _ | refine bD ?_ | refine bA ?_ _)); refine blk_put (cs := #[.int .i32 0, .int .i32 0, .int .i32 0, .int .i32 0, .int .i32 0]) ?_ 1 _ rfl; (with_reducible repeat (first | refine bN ?_ _ | refine bD ?_ | refine bA ?_ _)); refine blk_put (cs := #[.int .i32 0, .int .i32 0, .int .i32 0, .int .i32 0, .int .i32 0]) ?_ 0 _ rfl; (with_reducible repeat (first | refine bN ?_ _ | refine bD ?_ | refine bA ?_ _)); exact BK.out
  case be => repeat (first | (with_reducible first | exact HB.out | apply wA | apply wN | apply wD | refine below_set ?_ GE.out) | exact HB.out)
  have hk2 : W.cell? ⟨gb, 2, none⟩ = some (.int .i32 192) := (blk_cell BKW 2).trans rfl
  have hk3 : W.cell? ⟨gb, 3, none⟩ = some (.int .i32 224) := (blk_cell BKW 3).trans rfl
  have hk4 : W.cell? ⟨gb, 4, none⟩ = some (.int .i32 240) := (blk_cell BKW 4).trans rfl
  have hxW0 := (HBW.cell (World.block_lt_of_cell? w _ hx0)).trans hx0
  have hxW1 := (HBW.cell (World.block_lt_of_cell? w _ hx1)).trans hx1
  clear HB BK
  go_wp2
  refine wp_loop_rounds 4 ?_
  rw [rounds_succ]
  go_wp2
  rw [rounds_succ]
  go_wp2
  rw [rounds_succ]
  go_wp2
  rw [rounds_succ]
  go_wp2
  go_ret
  exact ⟨by first | rfl | (simp [*] <;> rfl), HBW⟩
set_option maxHeartbeats 8000000 in
set_option maxRecDepth 100000 in
theorem num2_lo1 (A0 : Option Addr) (c0 : Nat) (a b : Int) (w : World) (hr0 : Kd.C (Kd.int .u8) w A0 2 [a, b]) (hc0 : 2 ≤ c0) (ha : 0 ≤ a ∧ a < 256) (hb : 0 ≤ b ∧ b < 256) (p0 : ¬ a < 192) (p1 : ¬ 224 ≤ a) (p2 : b < 128) :
    Calls Tryd.prog 71 #[.slice A0 2 c0] w fun e w' => e = .returned (.int .i32 (-1)) ∧ Below w.heap.size w w' := by
  have HB := ak (Below.refl w.heap.size w)
  obtain ⟨ad, e0, hx0⟩ := Kd.at_int hr0 0 (by decide) (by decide)
  subst e0
  have hx0 : w.cell? ad = some (.int .u8 a) := by have h := hx0; simpa [rd, Addr.add] using h
  obtain ⟨ad1, e1, hx1⟩ := Kd.at_int hr0 1 (by decide) (by decide)
  obtain rfl := Option.some.inj e1
  have hx1 : w.cell? ⟨ad.block, ad.off + 1, none⟩ = some (.int .u8 b) := by have h := hx1; simpa [rd, Addr.add] using h
  have hw_a := fit32 (n := a) (by omega) (by omega)
  have hw_b := fit32 (n := b) (by omega) (by omega)
  have q0 := decide_eq_false p0
  have q1 := decide_eq_false p1
  have q2 := decide_eq_true p2
  have z0 := fit32 (n := a - 192) (by omega) (by omega)
  go_enter Tryd.func71, Tryd.ntmps71
  go_upto_region 3 with (first | ((with_reducible refine gate_dst (N := 4) rfl ?_); refine box_event ?hg (N := 4) ?hd (cs := #[.int .i32 0, .int .i32 0, .int .i32 0, .int .i32 0, .int .i32 0]) (t := 105) ?hr ?_; (case hd => rfl); (case hg => rfl); (case hr => first | (go_simp; done) | (go_simp; rfl)); intro gb hg w5 hbox hb; have n0_ := ak (below_step (by repeat (first | (with_reducible first | exact HB.out | apply wA | apply wN | apply wD) | exact HB.out)) hb); have n1_ := ak (hbox); have n3_ := ak ((by rw [hg]; exact (below_size (by repeat (first | (with_reducible first | exact HB.out | apply wA | apply wN | apply wD) | exact HB.out))) : w.heap.size ≤ gb)); clear HB; have HB := n0_; have BK := n1_; have GE := n3_; clear n0_ n1_ n3_; clear hb hbox hg; have hcz_0 : w5.cell? ⟨gb, 0, none⟩ = some (.int .i32 0) := (blk_cell BK.out 0).trans rfl; have hcz_1 : w5.cell? ⟨gb, 1, none⟩ = some (.int .i32 0) := (blk_cell BK.out 1).trans rfl; have hcz_2 : w5.cell? ⟨gb, 2, none⟩ = some (.int .i32 0) := (blk_cell BK.out 2).trans rfl; have hcz_3 : w5.cell? ⟨gb, 3, none⟩ = some (.int .i32 0) := (blk_cell BK.out 3).trans rfl; have hcz_4 : w5.cell? ⟨gb, 4, none⟩ = some (.int .i32 0) := (blk_cell BK.out 4).trans rfl; have hfz_0 := blk_frozen BK.out 0; have hfz_1 := blk_frozen BK.out 1; have hfz_2 := blk_frozen BK.out 2; have hfz_3 := blk_frozen BK.out 3; have hfz_4 := blk_frozen BK.out 4))
  refine name_world (fun W => W.heap[gb]? = some (.cells #[.int .i32 0, .int .i32 0, .int .i32 192, .int .i32 224, .int .i32 240] 105 (0, 0)) ∧ Below w.heap.size w W) ⟨?bk, ?be⟩ (fun W ⟨BKW, HBW⟩ => ?_)
  case bk => (with_reducible repeat (first | refine bN ?_ _ | refine bD ?_ | refine bA ?_ _)); refine blk_put (cs := #[.int .i32 0, .int .i32 0, .int .i32 192, .int .i32 224, .int .i32 0]) ?_ 4 _ rfl; (with_reducible repeat (first | refine bN ?_ _ | refine bD ?_ | refine bA ?_ _)); refine blk_put (cs := #[.int .i32 0, .int .i32 0, .int .i32 192, .int .i32 0, .int .i32 0]) ?_ 3 _ rfl; (with_reducible repeat (first | refine bN ?_ _ | refine bD ?_ | refine bA ?_ _)); refine blk_put (cs := #[.int .i32 0, .int .i32 0, .int .i32 0, .int .i32 0, .int .i32 0]) ?_ 2 _ rfl; (with_reducible repeat (first | refine bN ?_ _ | refine bD ?_ | refine bA ?_ _)); refine blk_put (cs := #[.int .i32 0, .int .i32 0, .int .i32 0, .int .i32 0, .int .i32 0]) ?_ 1 _ rfl; (with_reducible repeat (first | refine bN ?_ _ | refine bD ?_ | refine bA ?_ _)); refine blk_put (cs := #[.int .i32 0, .int .i32 0, .int .i32 0, .int .i32 0, .int .i32 0]) ?_ 0 _ rfl; (with_reducible repeat (first | refine bN ?_ _ | refine bD ?_ | refine bA ?_ _)); exact BK.out
  case be => repeat (first | (with_reducible first | exact HB.out | apply wA | apply wN | apply wD | refine below_set ?_ GE.out) | exact HB.out)
  have hk2 : W.cell? ⟨gb, 2, none⟩ = some (.int .i32 192) := (blk_cell BKW 2).trans rfl
  have hk3 : W.cell? ⟨gb, 3, none⟩ = some (.int .i32 224) := (blk_cell BKW 3).trans rfl
  have hk4 : W.cell? ⟨gb, 4, none⟩ = some (.int .i32 240) := (blk_cell BKW 4).trans rfl
  have hxW0 := (HBW.cell (World.block_lt_of_cell? w _ hx0)).trans hx0
  have hxW1 := (HBW.cell (World.block_lt_of_cell? w _ hx1)).trans hx1
  clear HB BK
  go_wp2
  refine wp_loop_rounds 4 ?_
  rw [rounds_succ]
  go_wp2
  refine wp_loop_rounds 4 ?_
  rw [rounds_succ]
  go_wp2
  go_ret
  exact ⟨by first | rfl | (simp [*] <;> rfl), HBW⟩
set_option maxHeartbeats 8000000 in
set_option maxRecDepth 100000 in
theorem num2_hi1 (A0 : Option Addr) (c0 : Nat) (a b : Int) (w : World) (hr0 : Kd.C (Kd.int .u8) w A0 2 [a, b]) (hc0 : 2 ≤ c0) (ha : 0 ≤ a ∧ a < 256) (hb : 0 ≤ b ∧ b < 256) (p0 : ¬ a < 192) (p1 : ¬ 224 ≤ a) (p2 : ¬ b < 128) (p3 : 192 ≤ b) :
    Calls Tryd.prog 71 #[.slice A0 2 c0] w fun e w' => e = .returned (.int .i32 (-1)) ∧ Below w.heap.size w w' := by
  have HB := ak (Below.refl w.heap.size w)
  obtain ⟨ad, e0, hx0⟩ := Kd.at_int hr0 0 (by decide) (by decide)
  subst e0
  have hx0 : w.cell? ad = some (.int .u8 a) := by have h := hx0; simpa [rd, Addr.add] using h
  obtain ⟨ad1, e1, hx1⟩ := Kd.at_int hr0 1 (by decide) (by decide)
  obtain rfl := Option.some.inj e1
  have hx1 : w.cell? ⟨ad.block, ad.off + 1, none⟩ = some (.int .u8 b) := by have h := hx1; simpa [rd, Addr.add] using h
  have hw_a := fit32 (n := a) (by omega) (by omega)
  have hw_b := fit32 (n := b) (by omega) (by omega)
  have q0 := decide_eq_false p0
  have q1 := decide_eq_false p1
  have q2 := decide_eq_false p2
  have q3 := decide_eq_true p3
  have z0 := fit32 (n := a - 192) (by omega) (by omega)
  go_enter Tryd.func71, Tryd.ntmps71
  go_upto_region 3 with (first | ((with_reducible refine gate_dst (N := 4) rfl ?_); refine box_event ?hg (N := 4) ?hd (cs := #[.int .i32 0, .int .i32 0, .int .i32 0, .int .i32 0, .int .i32 0]) (t := 105) ?hr ?_; (case hd => rfl); (case hg => rfl); (case hr => first | (go_simp; done) | (go_simp; rfl)); intro gb hg w5 hbox hb; have n0_ := ak (below_step (by repeat (first | (with_reducible first | exact HB.out | apply wA | apply wN | apply wD) | exact HB.out)) hb); have n1_ := ak (hbox); have n3_ := ak ((by rw [hg]; exact (below_size (by repeat (first | (with_reducible first | exact HB.out | apply wA | apply wN | apply wD) | exact HB.out))) : w.heap.size ≤ gb)); clear HB; have HB := n0_; have BK := n1_; have GE := n3_; clear n0_ n1_ n3_; clear hb hbox hg; have hcz_0 : w5.cell? ⟨gb, 0, none⟩ = some (.int .i32 0) := (blk_cell BK.out 0).trans rfl; have hcz_1 : w5.cell? ⟨gb, 1, none⟩ = some (.int .i32 0) := (blk_cell BK.out 1).trans rfl; have hcz_2 : w5.cell? ⟨gb, 2, none⟩ = some (.int .i32 0) := (blk_cell BK.out 2).trans rfl; have hcz_3 : w5.cell? ⟨gb, 3, none⟩ = some (.int .i32 0) := (blk_cell BK.out 3).trans rfl; have hcz_4 : w5.cell? ⟨gb, 4, none⟩ = some (.int .i32 0) := (blk_cell BK.out 4).trans rfl; have hfz_0 := blk_frozen BK.out 0; have hfz_1 := blk_frozen BK.out 1; have hfz_2 := blk_frozen BK.out 2; have hfz_3 := blk_frozen BK.out 3; have hfz_4 := blk_frozen BK.out 4))
  refine name_world (fun W => W.heap[gb]? = some (.cells #[.int .i32 0, .int .i32 0, .int .i32 192, .int .i32 224, .int .i32 240] 105 (0, 0)) ∧ Below w.heap.size w W) ⟨?bk, ?be⟩ (fun W ⟨BKW, HBW⟩ => ?_)
  case bk => (with_reducible repeat (first | refine bN ?_ _ | refine bD ?_ | refine bA ?_ _)); refine blk_put (cs := #[.int .i32 0, .int .i32 0, .int .i32 192, .int .i32 224, .int .i32 0]) ?_ 4 _ rfl; (with_reducible repeat (first | refine bN ?_ _ | refine bD ?_ | refine bA ?_ _)); refine blk_put (cs := #[.int .i32 0, .int .i32 0, .int .i32 192, .int .i32 0, .int .i32 0]) ?_ 3 _ rfl; (with_reducible repeat (first | refine bN ?_ _ | refine bD ?_ | refine bA ?_ _)); refine blk_put (cs := #[.int .i32 0, .int .i32 0, .int .i32 0, .int .i32 0, .int .i32 0]) ?_ 2 _ rfl; (with_reducible repeat (first | refine bN ?_ _ | refine bD ?_ | refine bA ?_ _)); refine blk_put (cs := #[.int .i32 0, .int .i32 0, .int .i32 0, .int .i32 0, .int .i32 0]) ?_ 1 _ rfl; (with_reducible repeat (first | refine bN ?_ _ | refine bD ?_ | refine bA ?_ _)); refine blk_put (cs := #[.int .i32 0, .int .i32 0, .int .i32 0, .int .i32 0, .int .i32 0]) ?_ 0 _ rfl; (with_reducible repeat (first | refine bN ?_ _ | refine bD ?_ | refine bA ?_ _)); exact BK.out
  case be => repeat (first | (with_reducible first | exact HB.out | apply wA | apply wN | apply wD | refine below_set ?_ GE.out) | exact HB.out)
  have hk2 : W.cell? ⟨gb, 2, none⟩ = some (.int .i32 192) := (blk_cell BKW 2).trans rfl
  have hk3 : W.cell? ⟨gb, 3, none⟩ = some (.int .i32 224) := (blk_cell BKW 3).trans rfl
  have hk4 : W.cell? ⟨gb, 4, none⟩ = some (.int .i32 240) := (blk_cell BKW 4).trans rfl
  have hxW0 := (HBW.cell (World.block_lt_of_cell? w _ hx0)).trans hx0
  have hxW1 := (HBW.cell (World.block_lt_of_cell? w _ hx1)).trans hx1
  clear HB BK
  go_wp2
  refine wp_loop_rounds 4 ?_
  rw [rounds_succ]
  go_wp2
  refine wp_loop_rounds 4 ?_
  rw [rounds_succ]
  go_wp2
  go_ret
  exact ⟨by first | rfl | (simp [*] <;> rfl), HBW⟩
set_option maxHeartbeats 8000000 in
set_option maxRecDepth 100000 in
theorem num2_all (A0 : Option Addr) (c0 : Nat) (a b : Int) (w : World) (hr0 : Kd.C (Kd.int .u8) w A0 2 [a, b]) (hc0 : 2 ≤ c0) (ha : 0 ≤ a ∧ a < 256) (hb : 0 ≤ b ∧ b < 256) (p0 : ¬ a < 192) (p1 : ¬ 224 ≤ a) (p2 : ¬ b < 128) (p3 : ¬ 192 ≤ b) :
    Calls Tryd.prog 71 #[.slice A0 2 c0] w fun e w' => e = .returned (.int .i32 ((64 * (a - 192) + b - 128))) ∧ Below w.heap.size w w' := by
  have HB := ak (Below.refl w.heap.size w)
  obtain ⟨ad, e0, hx0⟩ := Kd.at_int hr0 0 (by decide) (by decide)
  subst e0
  have hx0 : w.cell? ad = some (.int .u8 a) := by have h := hx0; simpa [rd, Addr.add] using h
  obtain ⟨ad1, e1, hx1⟩ := Kd.at_int hr0 1 (by decide) (by decide)
  obtain rfl := Option.some.inj e1
  have hx1 : w.cell? ⟨ad.block, ad.off + 1, none⟩ = some (.int .u8 b) := by have h := hx1; simpa [rd, Addr.add] using h
  have hw_a := fit32 (n := a) (by omega) (by omega)
  have hw_b := fit32 (n := b) (by omega) (by omega)
  have q0 := decide_eq_false p0
  have q1 := decide_eq_false p1
  have q2 := decide_eq_false p2
  have q3 := decide_eq_false p3
  have z0 := fit32 (n := a - 192) (by omega) (by omega)
  have z1a := fit32 (n := 64 * (a - 192)) (by omega) (by omega)
  have z1b := fit32 (n := 64 * (a - 192) + b) (by omega) (by omega)
  have z1c := fit32 (n := 64 * (a - 192) + b - 128) (by omega) (by omega)
  go_enter Tryd.func71, Tryd.ntmps71
  go_upto_region 3 with (first | ((with_reducible refine gate_dst (N := 4) rfl ?_); refine box_event ?hg (N := 4) ?hd (cs := #[.int .i32 0, .int .i32 0, .int .i32 0, .int .i32 0, .int .i32 0]) (t := 105) ?hr ?_; (case hd => rfl); (case hg => rfl); (case hr => first | (go_simp; done) | (go_simp; rfl)); intro gb hg w5 hbox hb; have n0_ := ak (below_step (by repeat (first | (with_reducible first | exact HB.out | apply wA | apply wN | apply wD) | exact HB.out)) hb); have n1_ := ak (hbox); have n3_ := ak ((by rw [hg]; exact (below_size (by repeat (first | (with_reducible first | exact HB.out | apply wA | apply wN | apply wD) | exact HB.out))) : w.heap.size ≤ gb)); clear HB; have HB := n0_; have BK := n1_; have GE := n3_; clear n0_ n1_ n3_; clear hb hbox hg; have hcz_0 : w5.cell? ⟨gb, 0, none⟩ = some (.int .i32 0) := (blk_cell BK.out 0).trans rfl; have hcz_1 : w5.cell? ⟨gb, 1, none⟩ = some (.int .i32 0) := (blk_cell BK.out 1).trans rfl; have hcz_2 : w5.cell? ⟨gb, 2, none⟩ = some (.int .i32 0) := (blk_cell BK.out 2).trans rfl; have hcz_3 : w5.cell? ⟨gb, 3, none⟩ = some (.int .i32 0) := (blk_cell BK.out 3).trans rfl; have hcz_4 : w5.cell? ⟨gb, 4, none⟩ = some (.int .i32 0) := (blk_cell BK.out 4).trans rfl; have hfz_0 := blk_frozen BK.out 0; have hfz_1 := blk_frozen BK.out 1; have hfz_2 := blk_frozen BK.out 2; have hfz_3 := blk_frozen BK.out 3; have hfz_4 := blk_frozen BK.out 4))
  refine name_world (fun W => W.heap[gb]? = some (.cells #[.int .i32 0, .int .i32 0, .int .i32 192, .int .i32 224, .int .i32 240] 105 (0, 0)) ∧ Below w.heap.size w W) ⟨?bk, ?be⟩ (fun W ⟨BKW, HBW⟩ => ?_)
  case bk => (with_reducible repeat (first | refine bN ?_ _ | refine bD ?_ | refine bA ?_ _)); refine blk_put (cs := #[.int .i32 0, .int .i32 0, .int .i32 192, .int .i32 224, .int .i32 0]) ?_ 4 _ rfl; (with_reducible repeat (first | refine bN ?_ _ | refine bD ?_ | refine bA ?_ _)); refine blk_put (cs := #[.int .i32 0, .int .i32 0, .int .i32 192, .int .i32 0, .int .i32 0]) ?_ 3 _ rfl; (with_reducible repeat (first | refine bN ?_ _ | refine bD ?_ | refine bA ?_ _)); refine blk_put (cs := #[.int .i32 0, .int .i32 0, .int .i32 0, .int .i32 0, .int .i32 0]) ?_ 2 _ rfl; (with_reducible repeat (first | refine bN ?_ _ | refine bD ?_ | refine bA ?_ _)); refine blk_put (cs := #[.int .i32 0, .int .i32 0, .int .i32 0, .int .i32 0, .int .i32 0]) ?_ 1 _ rfl; (with_reducible repeat (first | refine bN ?_ _ | refine bD ?_ | refine bA ?_ _)); refine blk_put (cs := #[.int .i32 0, .int .i32 0, .int .i32 0, .int .i32 0, .int .i32 0]) ?_ 0 _ rfl; (with_reducible repeat (first | refine bN ?_ _ | refine bD ?_ | refine bA ?_ _)); exact BK.out
  case be => repeat (first | (with_reducible first | exact HB.out | apply wA | apply wN | apply wD | refine below_set ?_ GE.out) | exact HB.out)
  have hk2 : W.cell? ⟨gb, 2, none⟩ = some (.int .i32 192) := (blk_cell BKW 2).trans rfl
  have hk3 : W.cell? ⟨gb, 3, none⟩ = some (.int .i32 224) := (blk_cell BKW 3).trans rfl
  have hk4 : W.cell? ⟨gb, 4, none⟩ = some (.int .i32 240) := (blk_cell BKW 4).trans rfl
  have hxW0 := (HBW.cell (World.block_lt_of_cell? w _ hx0)).trans hx0
  have hxW1 := (HBW.cell (World.block_lt_of_cell? w _ hx1)).trans hx1
  clear HB BK
  go_wp2
  refine wp_loop_rounds 4 ?_
  rw [rounds_succ]
  go_wp2
  refine wp_loop_rounds 4 ?_
  rw [rounds_succ]
  go_wp2
  rw [rounds_succ]
  go_wp2
  go_ret
  exact ⟨by first | rfl | (simp [*] <;> rfl), HBW⟩
set_option maxHeartbeats 8000000 in
set_option maxRecDepth 100000 in
theorem num3_below (A0 : Option Addr) (c0 : Nat) (a b c : Int) (w : World) (hr0 : Kd.C (Kd.int .u8) w A0 3 [a, b, c]) (hc0 : 3 ≤ c0) (ha : 0 ≤ a ∧ a < 256) (hb : 0 ≤ b ∧ b < 256) (hc : 0 ≤ c ∧ c < 256) (p0 : a < 224) :
    Calls Tryd.prog 71 #[.slice A0 3 c0] w fun e w' => e = .returned (.int .i32 (-1)) ∧ Below w.heap.size w w' := by
  have HB := ak (Below.refl w.heap.size w)
  obtain ⟨ad, e0, hx0⟩ := Kd.at_int hr0 0 (by decide) (by decide)
  subst e0
  have hx0 : w.cell? ad = some (.int .u8 a) := by have h := hx0; simpa [rd, Addr.add] using h
  obtain ⟨ad1, e1, hx1⟩ := Kd.at_int hr0 1 (by decide) (by decide)
  obtain rfl := Option.some.inj e1
  have hx1 : w.cell? ⟨ad.block, ad.off + 1, none⟩ = some (.int .u8 b) := by have h := hx1; simpa [rd, Addr.add] using h
  obtain ⟨ad2, e2, hx2⟩ := Kd.at_int hr0 2 (by decide) (by decide)
  obtain rfl := Option.some.inj e2
  have hx2 : w.cell? ⟨ad.block, ad.off + 2, none⟩ = some (.int .u8 c) := by have h := hx2; simpa [rd, Addr.add] using h
  have hw_a := fit32 (n := a) (by omega) (by omega)
  have hw_b := fit32 (n := b) (by omega) (by omega)
  have hw_c := fit32 (n := c) (by omega) (by omega)
  have q0 := decide_eq_true p0
  have z0 := fit32 (n := a - 224) (by omega) (by omega)
  go_enter Tryd.func71, Tryd.ntmps71
  go_upto_region 3 with (first | ((with_reducible refine gate_dst (N := 4) rfl ?_); refine box_event ?hg (N := 4) ?hd (cs := #[.int .i32 0, .int .i32 0, .int .i32 0, .int .i32 0, .int .i32 0]) (t := 105) ?hr ?_; (case hd => rfl); (case hg => rfl); (case hr => first | (go_simp; done) | (go_simp; rfl)); intro gb hg w5 hbox hb; have n0_ := ak (below_step (by repeat (first | (with_reducible first | exact HB.out | apply wA | apply wN | apply wD) | exact HB.out)) hb); have n1_ := ak (hbox); have n3_ := ak ((by rw [hg]; exact (below_size (by repeat (first | (with_reducible first | exact HB.out | apply wA | apply wN | apply wD) | exact HB.out))) : w.heap.size ≤ gb)); clear HB; have HB := n0_; have BK := n1_; have GE := n3_; clear n0_ n1_ n3_; clear hb hbox hg; have hcz_0 : w5.cell? ⟨gb, 0, none⟩ = some (.int .i32 0) := (blk_cell BK.out 0).trans rfl; have hcz_1 : w5.cell? ⟨gb, 1, none⟩ = some (.int .i32 0) := (blk_cell BK.out 1).trans rfl; have hcz_2 : w5.cell? ⟨gb, 2, none⟩ = some (.int .i32 0) := (blk_cell BK.out 2).trans rfl; have hcz_3 : w5.cell? ⟨gb, 3, none⟩ = some (.int .i32 0) := (blk_cell BK.out 3).trans rfl; have hcz_4 : w5.cell? ⟨gb, 4, none⟩ = some (.int .i32 0) := (blk_cell BK.out 4).trans rfl; have hfz_0 := blk_frozen BK.out 0; have hfz_1 := blk_frozen BK.out 1; have hfz_2 := blk_frozen BK.out 2; have hfz_3 := blk_frozen BK.out 3; have hfz_4 := blk_frozen BK.out 4))
  refine name_world (fun W => W.heap[gb]? = some (.cells #[.int .i32 0, .int .i32 0, .int .i32 192, .int .i32 224, .int .i32 240] 105 (0, 0)) ∧ Below w.heap.size w W) ⟨?bk, ?be⟩ (fun W ⟨BKW, HBW⟩ => ?_)
  case bk => (with_reducible repeat (first | refine bN ?_ _ | refine bD ?_ | refine bA ?_ _)); refine blk_put (cs := #[.int .i32 0, .int .i32 0, .int .i32 192, .int .i32 224, .int .i32 0]) ?_ 4 _ rfl; (with_reducible repeat (first | refine bN ?_ _ | refine bD ?_ | refine bA ?_ _)); refine blk_put (cs := #[.int .i32 0, .int .i32 0, .int .i32 192, .int .i32 0, .int .i32 0]) ?_ 3 _ rfl; (with_reducible repeat (first | refine bN ?_ _ | refine bD ?_ | refine bA ?_ _)); refine blk_put (cs := #[.int .i32 0, .int .i32 0, .int .i32 0, .int .i32 0, .int .i32 0]) ?_ 2 _ rfl; (with_reducible repeat (first | refine bN ?_ _ | refine bD ?_ | refine bA ?_ _)); refine blk_put (cs := #[.int .i32 0, .int .i32 0, .int .i32 0, .int .i32 0, .int .i32 0]) ?_ 1 _ rfl; (with_reducible repeat (first | refine bN ?_ _ | refine bD ?_ | refine bA ?_ _)); refine blk_put (cs := #[.int .i32 0, .int .i32 0, .int .i32 0, .int .i32 0, .int .i32 0]) ?_ 0 _ rfl; (with_reducible repeat (first | refine bN ?_ _ | refine bD ?_ | refine bA ?_ _)); exact BK.out
  case be => repeat (first | (with_reducible first | exact HB.out | apply wA | apply wN | apply wD | refine below_set ?_ GE.out) | exact HB.out)
  have hk2 : W.cell? ⟨gb, 2, none⟩ = some (.int .i32 192) := (blk_cell BKW 2).trans rfl
  have hk3 : W.cell? ⟨gb, 3, none⟩ = some (.int .i32 224) := (blk_cell BKW 3).trans rfl
  have hk4 : W.cell? ⟨gb, 4, none⟩ = some (.int .i32 240) := (blk_cell BKW 4).trans rfl
  have hxW0 := (HBW.cell (World.block_lt_of_cell? w _ hx0)).trans hx0
  have hxW1 := (HBW.cell (World.block_lt_of_cell? w _ hx1)).trans hx1
  have hxW2 := (HBW.cell (World.block_lt_of_cell? w _ hx2)).trans hx2
  clear HB BK
  go_wp2
  refine wp_loop_rounds 4 ?_
  rw [rounds_succ]
  go_wp2
  rw [rounds_succ]
  go_wp2
  rw [rounds_succ]
  go_wp2
  rw [rounds_succ]
  go_wp2
  go_ret
  exact ⟨by first | rfl | (simp [*] <;> rfl), HBW⟩
set_option maxHeartbeats 8000000 in
set_option maxRecDepth 100000 in
theorem num3_above (A0 : Option Addr) (c0 : Nat) (a b c : Int) (w : World) (hr0 : Kd.C (Kd.int .u8) w A0 3 [a, b, c]) (hc0 : 3 ≤ c0) (ha : 0 ≤ a ∧ a < 256) (hb : 0 ≤ b ∧ b < 256) (hc : 0 ≤ c ∧ c < 256) (p0 : ¬ a < 224) (p1 : 240 ≤ a) :
    Calls Tryd.prog 71 #[.slice A0 3 c0] w fun e w' => e = .returned (.int .i32 (-1)) ∧ Below w.heap.size w w' := by
  have HB := ak (Below.refl w.heap.size w)
  obtain ⟨ad, e0, hx0⟩ := Kd.at_int hr0 0 (by decide) (by decide)
  subst e0
  have hx0 : w.cell? ad = some (.int .u8 a) := by have h := hx0; simpa [rd, Addr.add] using h
  obtain ⟨ad1, e1, hx1⟩ := Kd.at_int hr0 1 (by decide) (by decide)
  obtain rfl := Option.some.inj e1
  have hx1 : w.cell? ⟨ad.block, ad.off + 1, none⟩ = some (.int .u8 b) := by have h := hx1; simpa [rd, Addr.add] using h
  obtain ⟨ad2, e2, hx2⟩ := Kd.at_int hr0 2 (by decide) (by decide)
  obtain rfl := Option.some.inj e2
  have hx2 : w.cell? ⟨ad.block, ad.off + 2, none⟩ = some (.int .u8 c) := by have h := hx2; simpa [rd, Addr.add] using h
  have hw_a := fit32 (n := a) (by omega) (by omega)
  have hw_b := fit32 (n := b) (by omega) (by omega)
  have hw_c := fit32 (n := c) (by omega) (by omega)
  have q0 := decide_eq_false p0
  have q1 := decide_eq_true p1
  have z0 := fit32 (n := a - 224) (by omega) (by omega)
  go_enter Tryd.func71, Tryd.ntmps71
  go_upto_region 3 with (first | ((with_reducible refine gate_dst (N := 4) rfl ?_); refine box_event ?hg (N := 4) ?hd (cs := #[.int .i32 0, .int .i32 0, .int .i32 0, .int .i32 0, .int .i32 0]) (t := 105) ?hr ?_; (case hd => rfl); (case hg => rfl); (case hr => first | (go_simp; done) | (go_simp; rfl)); intro gb hg w5 hbox hb; have n0_ := ak (below_step (by repeat (first | (with_reducible first | exact HB.out | apply wA | apply wN | apply wD) | exact HB.out)) hb); have n1_ := ak (hbox); have n3_ := ak ((by rw [hg]; exact (below_size (by repeat (first | (with_reducible first | exact HB.out | apply wA | apply wN | apply wD) | exact HB.out))) : w.heap.size ≤ gb)); clear HB; have HB := n0_; have BK := n1_; have GE := n3_; clear n0_ n1_ n3_; clear hb hbox hg; have hcz_0 : w5.cell? ⟨gb, 0, none⟩ = some (.int .i32 0) := (blk_cell BK.out 0).trans rfl; have hcz_1 : w5.cell? ⟨gb, 1, none⟩ = some (.int .i32 0) := (blk_cell BK.out 1).trans rfl; have hcz_2 : w5.cell? ⟨gb, 2, none⟩ = some (.int .i32 0) := (blk_cell BK.out 2).trans rfl; have hcz_3 : w5.cell? ⟨gb, 3, none⟩ = some (.int .i32 0) := (blk_cell BK.out 3).trans rfl; have hcz_4 : w5.cell? ⟨gb, 4, none⟩ = some (.int .i32 0) := (blk_cell BK.out 4).trans rfl; have hfz_0 := blk_frozen BK.out 0; have hfz_1 := blk_frozen BK.out 1; have hfz_2 := blk_frozen BK.out 2; have hfz_3 := blk_frozen BK.out 3; have hfz_4 := blk_frozen BK.out 4))
  refine name_world (fun W => W.heap[gb]? = some (.cells #[.int .i32 0, .int .i32 0, .int .i32 192, .int .i32 224, .int .i32 240] 105 (0, 0)) ∧ Below w.heap.size w W) ⟨?bk, ?be⟩ (fun W ⟨BKW, HBW⟩ => ?_)
  case bk => (with_reducible repeat (first | refine bN ?_ _ | refine bD ?_ | refine bA ?_ _)); refine blk_put (cs := #[.int .i32 0, .int .i32 0, .int .i32 192, .int .i32 224, .int .i32 0]) ?_ 4 _ rfl; (with_reducible repeat (first | refine bN ?_ _ | refine bD ?_ | refine bA ?_ _)); refine blk_put (cs := #[.int .i32 0, .int .i32 0, .int .i32 192, .int .i32 0, .int .i32 0]) ?_ 3 _ rfl; (with_reducible repeat (first | refine bN ?_ _ | refine bD ?_ | refine bA ?_ _)); refine blk_put (cs := #[.int .i32 0, .int .i32 0, .int .i32 0, .int .i32 0, .int .i32 0]) ?_ 2 _ rfl; (with_reducible repeat (first | refine bN ?_ _ | refine bD ?_ | refine bA ?_ _)); refine blk_put (cs := #[.int .i32 0, .int .i32 0, .int .i32 0, .int .i32 0, .int .i32 0]) ?_ 1 _ rfl; (with_reducible repeat (first | refine bN ?_ _ | refine bD ?_ | refine bA ?_ _)); refine blk_put (cs := #[.int .i32 0, .int .i32 0, .int .i32 0, .int .i32 0, .int .i32 0]) ?_ 0 _ rfl; (with_reducible repeat (first | refine bN ?_ _ | refine bD ?_ | refine bA ?_ _)); exact BK.out
  case be => repeat (first | (with_reducible first | exact HB.out | apply wA | apply wN | apply wD | refine below_set ?_ GE.out) | exact HB.out)
  have hk2 : W.cell? ⟨gb, 2, none⟩ = some (.int .i32 192) := (blk_cell BKW 2).trans rfl
  have hk3 : W.cell? ⟨gb, 3, none⟩ = some (.int .i32 224) := (blk_cell BKW 3).trans rfl
  have hk4 : W.cell? ⟨gb, 4, none⟩ = some (.int .i32 240) := (blk_cell BKW 4).trans rfl
  have hxW0 := (HBW.cell (World.block_lt_of_cell? w _ hx0)).trans hx0
  have hxW1 := (HBW.cell (World.block_lt_of_cell? w _ hx1)).trans hx1
  have hxW2 := (HBW.cell (World.block_lt_of_cell? w _ hx2)).trans hx2
  clear HB BK
  go_wp2
  refine wp_loop_rounds 4 ?_
  rw [rounds_succ]
  go_wp2
  rw [rounds_succ]
  go_wp2
  rw [rounds_succ]
  go_wp2
  rw [rounds_succ]
  go_wp2
  go_ret
  exact ⟨by first | rfl | (simp [*] <;> rfl), HBW⟩
set_option maxHeartbeats 8000000 in
set_option maxRecDepth 100000 in
theorem num3_lo1 (A0 : Option Addr) (c0 : Nat) (a b c : Int) (w : World) (hr0 : Kd.C (Kd.int .u8) w A0 3 [a, b, c]) (hc0 : 3 ≤ c0) (ha : 0 ≤ a ∧ a < 256) (hb : 0 ≤ b ∧ b < 256) (hc : 0 ≤ c ∧ c < 256) (p0 : ¬ a < 224) (p1 : ¬ 240 ≤ a) (p2 : b < 128) :
    Calls Tryd.prog 71 #[.slice A0 3 c0] w fun e w' => e = .returned (.int .i32 (-1)) ∧ Below w.heap.size w w' := by
  have HB := ak (Below.refl w.heap.size w)
  obtain ⟨ad, e0, hx0⟩ := Kd.at_int hr0 0 (by decide) (by decide)
  subst e0
  have hx0 : w.cell? ad = some (.int .u8 a) := by have h := hx0; simpa [rd, Addr.add] using h
  obtain ⟨ad1, e1, hx1⟩ := Kd.at_int hr0 1 (by decide) (by decide)
  obtain rfl := Option.some.inj e1
  have hx1 : w.cell? ⟨ad.block, ad.off + 1, none⟩ = some (.int .u8 b) := by have h := hx1; simpa [rd, Addr.add] using h
  obtain ⟨ad2, e2, hx2⟩ := Kd.at_int hr0 2 (by decide) (by decide)
  obtain rfl := Option.some.inj e2
  have hx2 : w.cell? ⟨ad.block, ad.off + 2, none⟩ = some (.int .u8 c) := by have h := hx2; simpa [rd, Addr.add] using h
  have hw_a := fit32 (n := a) (by omega) (by omega)
  have hw_b := fit32 (n := b) (by omega) (by omega)
  have hw_c := fit32 (n := c) (by omega) (by omega)
  have q0 := decide_eq_false p0
  have q1 := decide_eq_false p1
  have q2 := decide_eq_true p2
  have z0 := fit32 (n := a - 224) (by omega) (by omega)
  go_enter Tryd.func71, Tryd.ntmps71
  go_upto_region 3 with (first | ((with_reducible refine gate_dst (N := 4) rfl ?_); refine box_event ?hg (N := 4) ?hd (cs := #[.int .i32 0, .int .i32 0, .int .i32 0, .int .i32 0, .int .i32 0]) (t := 105) ?hr ?_; (case hd => rfl); (case hg => rfl); (case hr => first | (go_simp; done) | (go_simp; rfl)); intro gb hg w5 hbox hb; have n0_ := ak (below_step (by repeat (first | (with_reducible first | exact HB.out | apply wA | apply wN | apply wD) | exact HB.out)) hb); have n1_ := ak (hbox); have n3_ := ak ((by rw [hg]; exact (below_size (by repeat (first | (with_reducible first | exact HB.out | apply wA | apply wN | apply wD) | exact HB.out))) : w.heap.size ≤ gb)); clear HB; have HB := n0_; have BK := n1_; have GE := n3_; clear n0_ n1_ n3_; clear hb hbox hg; have hcz_0 : w5.cell? ⟨gb, 0, none⟩ = some (.int .i32 0) := (blk_cell BK.out 0).trans rfl; have hcz_1 : w5.cell? ⟨gb, 1, none⟩ = some (.int .i32 0) := (blk_cell BK.out 1).trans rfl; have hcz_2 : w5.cell? ⟨gb, 2, none⟩ = some (.int .i32 0) := (blk_cell BK.out 2).trans rfl; have hcz_3 : w5.cell? ⟨gb, 3, none⟩ = some (.int .i32 0) := (blk_cell BK.out 3).trans rfl; have hcz_4 : w5.cell? ⟨gb, 4, none⟩ = some (.int .i32 0) := (blk_cell BK.out 4).trans rfl; have hfz_0 := blk_frozen BK.out 0; have hfz_1 := blk_frozen BK.out 1; have hfz_2 := blk_frozen BK.out 2; have hfz_3 := blk_frozen BK.out 3; have hfz_4 := blk_frozen BK.out 4))
  refine name_world (fun W => W.heap[gb]? = some (.cells #[.int .i32 0, .int .i32 0, .int .i32 192, .int .i32 224, .int .i32 240] 105 (0, 0)) ∧ Below w.heap.size w W) ⟨?bk, ?be⟩ (fun W ⟨BKW, HBW⟩ => ?_)
  case bk => (with_reducible repeat (first | refine bN ?_ _ | refine bD ?_ | refine bA ?_ _)); refine blk_put (cs := #[.int .i32 0, .int .i32 0, .int .i32 192, .int .i32 224, .int .i32 0]) ?_ 4 _ rfl; (with_reducible repeat (first | refine bN ?_ _ | refine bD ?_ | refine bA ?_ _)); refine blk_put (cs := #[.int .i32 0, .int .i32 0, .int .i32 192, .int .i32 0, .int .i32 0]) ?_ 3 _ rfl; (with_reducible repeat (first | refine bN ?_ _ | refine bD ?_ | refine bA ?_ _)); refine blk_put (cs := #[.int .i32 0, .int .i32 0, .int .i32 0, .int .i32 0, .int .i32 0]) ?_ 2 _ rfl; (with_reducible repeat (first | refine bN ?_ _ | refine bD ?_ | refine bA ?_ _)); refine blk_put (cs := #[.int .i32 0, .int .i32 0, .int .i32 0, .int .i32 0, .int .i32 0]) ?_ 1 _ rfl; (with_reducible repeat (first | refine bN ?_ _ | refine bD ?_ | refine bA ?_ _)); refine blk_put (cs := #[.int .i32 0, .int .i32 0, .int .i32 0, .int .i32 0, .int .i32 0]) ?_ 0 _ rfl; (with_reducible repeat (first | refine bN ?_ _ | refine bD ?_ | refine bA ?_ _)); exact BK.out
  case be => repeat (first | (with_reducible first | exact HB.out | apply wA | apply wN | apply wD | refine below_set ?_ GE.out) | exact HB.out)
  have hk2 : W.cell? ⟨gb, 2, none⟩ = some (.int .i32 192) := (blk_cell BKW 2).trans rfl
  have hk3 : W.cell? ⟨gb, 3, none⟩ = some (.int .i32 224) := (blk_cell BKW 3).trans rfl
  have hk4 : W.cell? ⟨gb, 4, none⟩ = some (.int .i32 240) := (blk_cell BKW 4).trans rfl
  have hxW0 := (HBW.cell (World.block_lt_of_cell? w _ hx0)).trans hx0
  have hxW1 := (HBW.cell (World.block_lt_of_cell? w _ hx1)).trans hx1
  have hxW2 := (HBW.cell (World.block_lt_of_cell? w _ hx2)).trans hx2
  clear HB BK
  go_wp2
  refine wp_loop_rounds 4 ?_
  rw [rounds_succ]
  go_wp2
  rw [rounds_succ]
  go_wp2
  refine wp_loop_rounds 4 ?_
  rw [rounds_succ]
  go_wp2
  go_ret
  exact ⟨by first | rfl | (simp [*] <;> rfl), HBW⟩
set_option maxHeartbeats 8000000 in
set_option maxRecDepth 100000 in
theorem num3_hi1 (A0 : Option Addr) (c0 : Nat) (a b c : Int) (w : World) (hr0 : Kd.C (Kd.int .u8) w A0 3 [a, b, c]) (hc0 : 3 ≤ c0) (ha : 0 ≤ a ∧ a < 256) (hb : 0 ≤ b ∧ b < 256) (hc : 0 ≤ c ∧ c < 256) (p0 : ¬ a < 224) (p1 : ¬ 240 ≤ a) (p2 : ¬ b < 128) (p3 : 192 ≤ b) :
    Calls Tryd.prog 71 #[.slice A0 3 c0] w fun e w' => e = .returned (.int .i32 (-1)) ∧ Below w.heap.size w w' := by
  have HB := ak (Below.refl w.heap.size w)
  obtain ⟨ad, e0, hx0⟩ := Kd.at_int hr0 0 (by decide) (by decide)
  subst e0
  have hx0 : w.cell? ad = some (.int .u8 a) := by have h := hx0; simpa [rd, Addr.add] using h
  obtain ⟨ad1, e1, hx1⟩ := Kd.at_int hr0 1 (by decide) (by decide)
  obtain rfl := Option.some.inj e1
  have hx1 : w.cell? ⟨ad.block, ad.off + 1, none⟩ = some (.int .u8 b) := by have h := hx1; simpa [rd, Addr.add] using h
  obtain ⟨ad2, e2, hx2⟩ := Kd.at_int hr0 2 (by decide) (by decide)
  obtain rfl := Option.some.inj e2
  have hx2 : w.cell? ⟨ad.block, ad.off + 2, none⟩ = some (.int .u8 c) := by have h := hx2; simpa [rd, Addr.add] using h
  have hw_a := fit32 (n := a) (by omega) (by omega)
  have hw_b := fit32 (n := b) (by omega) (by omega)
  have hw_c := fit32 (n := c) (by omega) (by omega)
  have q0 := decide_eq_false p0
  have q1 := decide_eq_false p1
  have q2 := decide_eq_false p2
  have q3 := decide_eq_true p3
  have z0 := fit32 (n := a - 224) (by omega) (by omega)
  go_enter Tryd.func71, Tryd.ntmps71
  go_upto_region 3 with (first | ((with_reducible refine gate_dst (N := 4) rfl ?_); refine box_event ?hg (N := 4) ?hd (cs := #[.int .i32 0, .int .i32 0, .int .i32 0, .int .i32 0, .int .i32 0]) (t := 105) ?hr ?_; (case hd => rfl); (case hg => rfl); (case hr => first | (go_simp; done) | (go_simp; rfl)); intro gb hg w5 hbox hb; have n0_ := ak (below_step (by repeat (first | (with_reducible first | exact HB.out | apply wA | apply wN | apply wD) | exact HB.out)) hb); have n1_ := ak (hbox); have n3_ := ak ((by rw [hg]; exact (below_size (by repeat (first | (with_reducible first | exact HB.out | apply wA | apply wN | apply wD) | exact HB.out))) : w.heap.size ≤ gb)); clear HB; have HB := n0_; have BK := n1_; have GE := n3_; clear n0_ n1_ n3_; clear hb hbox hg; have hcz_0 : w5.cell? ⟨gb, 0, none⟩ = some (.int .i32 0) := (blk_cell BK.out 0).trans rfl; have hcz_1 : w5.cell? ⟨gb, 1, none⟩ = some (.int .i32 0) := (blk_cell BK.out 1).trans rfl; have hcz_2 : w5.cell? ⟨gb, 2, none⟩ = some (.int .i32 0) := (blk_cell BK.out 2).trans rfl; have hcz_3 : w5.cell? ⟨gb, 3, none⟩ = some (.int .i32 0) := (blk_cell BK.out 3).trans rfl; have hcz_4 : w5.cell? ⟨gb, 4, none⟩ = some (.int .i32 0) := (blk_cell BK.out 4).trans rfl; have hfz_0 := blk_frozen BK.out 0; have hfz_1 := blk_frozen BK.out 1; have hfz_2 := blk_frozen BK.out 2; have hfz_3 := blk_frozen BK.out 3; have hfz_4 := blk_frozen BK.out 4))
  refine name_world (fun W => W.heap[gb]? = some (.cells #[.int .i32 0, .int .i32 0, .int .i32 192, .int .i32 224, .int .i32 240] 105 (0, 0)) ∧ Below w.heap.size w W) ⟨?bk, ?be⟩ (fun W ⟨BKW, HBW⟩ => ?_)
  case bk => (with_reducible repeat (first | refine bN ?_ _ | refine bD ?_ | refine bA ?_ _)); refine blk_put (cs := #[.int .i32 0, .int .i32 0, .int .i32 192, .int .i32 224, .int .i32 0]) ?_ 4 _ rfl; (with_reducible repeat (first | refine bN ?_ _ | refine bD ?_ | refine bA ?_ _)); refine blk_put (cs := #[.int .i32 0, .int .i32 0, .int .i32 192, .int .i32 0, .int .i32 0]) ?_ 3 _ rfl; (with_reducible repeat (first | refine bN ?_ _ | refine bD ?_ | refine bA ?_ _)); refine blk_put (cs := #[.int .i32 0, .int .i32 0, .int .i32 0, .int .i32 0, .int .i32 0]) ?_ 2 _ rfl; (with_reducible repeat (first | refine bN ?_ _ | refine bD ?_ | refine bA ?_ _)); refine blk_put (cs := #[.int .i32 0, .int .i32 0, .int .i32 0, .int .i32 0, .int .i32 0]) ?_ 1 _ rfl; (with_reducible repeat (first | refine bN ?_ _ | refine bD ?_ | refine bA ?_ _)); refine blk_put (cs := #[.int .i32 0, .int .i32 0, .int .i32 0, .int .i32 0, .int .i32 0]) ?_ 0 _ rfl; (with_reducible repeat (first | refine bN ?_ _ | refine bD ?_ | refine bA ?_ _)); exact BK.out
  case be => repeat (first | (with_reducible first | exact HB.out | apply wA | apply wN | apply wD | refine below_set ?_ GE.out) | exact HB.out)
  have hk2 : W.cell? ⟨gb, 2, none⟩ = some (.int .i32 192) := (blk_cell BKW 2).trans rfl
  have hk3 : W.cell? ⟨gb, 3, none⟩ = some (.int .i32 224) := (blk_cell BKW 3).trans rfl
  have hk4 : W.cell? ⟨gb, 4, none⟩ = some (.int .i32 240) := (blk_cell BKW 4).trans rfl
  have hxW0 := (HBW.cell (World.block_lt_of_cell? w _ hx0)).trans hx0
  have hxW1 := (HBW.cell (World.block_lt_of_cell? w _ hx1)).trans hx1
  have hxW2 := (HBW.cell (World.block_lt_of_cell? w _ hx2)).trans hx2
  clear HB BK
  go_wp2
  refine wp_loop_rounds 4 ?_
  rw [rounds_succ]
  go_wp2
  rw [rounds_succ]
  go_wp2
  refine wp_loop_rounds 4 ?_
  rw [rounds_succ]
  go_wp2
  go_ret
  exact ⟨by first | rfl | (simp [*] <;> rfl), HBW⟩
set_option maxHeartbeats 8000000 in
set_option maxRecDepth 100000 in
theorem num3_lo2 (A0 : Option Addr) (c0 : Nat) (a b c : Int) (w : World) (hr0 : Kd.C (Kd.int .u8) w A0 3 [a, b, c]) (hc0 : 3 ≤ c0) (ha : 0 ≤ a ∧ a < 256) (hb : 0 ≤ b ∧ b < 256) (hc : 0 ≤ c ∧ c < 256) (p0 : ¬ a < 224) (p1 : ¬ 240 ≤ a) (p2 : ¬ b < 128) (p3 : ¬ 192 ≤ b) (p4 : c < 128) :
    Calls Tryd.prog 71 #[.slice A0 3 c0] w fun e w' => e = .returned (.int .i32 (-1)) ∧ Below w.heap.size w w' := by
  have HB := ak (Below.refl w.heap.size w)
  obtain ⟨ad, e0, hx0⟩ := Kd.at_int hr0 0 (by decide) (by decide)
  subst e0
  have hx0 : w.cell? ad = some (.int .u8 a) := by have h := hx0; simpa [rd, Addr.add] using h
  obtain ⟨ad1, e1, hx1⟩ := Kd.at_int hr0 1 (by decide) (by decide)
  obtain rfl := Option.some.inj e1
  have hx1 : w.cell? ⟨ad.block, ad.off + 1, none⟩ = some (.int .u8 b) := by have h := hx1; simpa [rd, Addr.add] using h
  obtain ⟨ad2, e2, hx2⟩ := Kd.at_int hr0 2 (by decide) (by decide)
  obtain rfl := Option.some.inj e2
  have hx2 : w.cell? ⟨ad.block, ad.off + 2, none⟩ = some (.int .u8 c) := by have h := hx2; simpa [rd, Addr.add] using h
  have hw_a := fit32 (n := a) (by omega) (by omega)
  have hw_b := fit32 (n := b) (by omega) (by omega)
  have hw_c := fit32 (n := c) (by omega) (by omega)
  have q0 := decide_eq_false p0
  have q1 := decide_eq_false p1
  have q2 := decide_eq_false p2
  have q3 := decide_eq_false p3
  have q4 := decide_eq_true p4
  have z0 := fit32 (n := a - 224) (by omega) (by omega)
  have z1a := fit32 (n := 64 * (a - 224)) (by omega) (by omega)
  have z1b := fit32 (n := 64 * (a - 224) + b) (by omega) (by omega)
  have z1c := fit32 (n := 64 * (a - 224) + b - 128) (by omega) (by omega)
  go_enter Tryd.func71, Tryd.ntmps71
  go_upto_region 3 with (first | ((with_reducible refine gate_dst (N := 4) rfl ?_); refine box_event ?hg (N := 4) ?hd (cs := #[.int .i32 0, .int .i32 0, .int .i32 0, .int .i32 0, .int .i32 0]) (t := 105) ?hr ?_; (case hd => rfl); (case hg => rfl); (case hr => first | (go_simp; done) | (go_simp; rfl)); intro gb hg w5 hbox hb; have n0_ := ak (below_step (by repeat (first | (with_reducible first | exact HB.out | apply wA | apply wN | apply wD) | exact HB.out)) hb); have n1_ := ak (hbox); have n3_ := ak ((by rw [hg]; exact (below_size (by repeat (first | (with_reducible first | exact HB.out | apply wA | apply wN | apply wD) | exact HB.out))) : w.heap.size ≤ gb)); clear HB; have HB := n0_; have BK := n1_; have GE := n3_; clear n0_ n1_ n3_; clear hb hbox hg; have hcz_0 : w5.cell? ⟨gb, 0, none⟩ = some (.int .i32 0) := (blk_cell BK.out 0).trans rfl; have hcz_1 : w5.cell? ⟨gb, 1, none⟩ = some (.int .i32 0) := (blk_cell BK.out 1).trans rfl; have hcz_2 : w5.cell? ⟨gb, 2, none⟩ = some (.int .i32 0) := (blk_cell BK.out 2).trans rfl; have hcz_3 : w5.cell? ⟨gb, 3, none⟩ = some (.int .i32 0) := (blk_cell BK.out 3).trans rfl; have hcz_4 : w5.cell? ⟨gb, 4, none⟩ = some (.int .i32 0) := (blk_cell BK.out 4).trans rfl; have hfz_0 := blk_frozen BK.out 0; have hfz_1 := blk_frozen BK.out 1; have hfz_2 := blk_frozen BK.out 2; have hfz_3 := blk_frozen BK.out 3; have hfz_4 := blk_frozen BK.out 4))
  refine name_world (fun W => W.heap[gb]? = some (.cells #[.int .i32 0, .int .i32 0, .int .i32 192, .int .i32 224, .int .i32 240] 105 (0, 0)) ∧ Below w.heap.size w W) ⟨?bk, ?be⟩ (fun W ⟨BKW, HBW⟩ => ?_)
  case bk => (with_reducible repeat (first | refine bN ?_ _ | refine bD ?_ | refine bA ?_ _)); refine blk_put (cs := #[.int .i32 0, .int .i32 0, .int .i32 192, .int .i32 224, .int .i32 0]) ?_ 4 _ rfl; (with_reducible repeat (first | refine bN ?_ _ | refine bD ?_ | refine bA ?_ _)); refine blk_put (cs := #[.int .i32 0, .int .i32 0, .int .i32 192, .int .i32 0, .int .i32 0]) ?_ 3 _ rfl; (with_reducible repeat (first | refine bN ?_ _ | refine bD ?_ | refine bA ?_ _)); refine blk_put (cs := #[.int .i32 0, .int .i32 0, .int .i32 0, .int .i32 0, .int .i32 0]) ?_ 2 _ rfl; (with_reducible repeat (first | refine bN ?_ _ | refine bD ?_ | refine bA ?_ _)); refine blk_put (cs := #[.int .i32 0, .int .i32 0, .int .i32 0, .int .i32 0, .int .i32 0]) ?_ 1 _ rfl; (with_reducible repeat (first | refine bN ?_ _ | refine bD ?_ | refine bA ?_ _)); refine blk_put (cs := #[.int .i32 0, .int .i32 0, .int .i32 0, .int .i32 0, .int .i32 0]) ?_ 0 _ rfl; (with_reducible repeat (first | refine bN ?_ _ | refine bD ?_ | refine bA ?_ _)); exact BK.out
  case be => repeat (first | (with_reducible first | exact HB.out | apply wA | apply wN | apply wD | refine below_set ?_ GE.out) | exact HB.out)
  have hk2 : W.cell? ⟨gb, 2, none⟩ = some (.int .i32 192) := (blk_cell BKW 2).trans rfl
  have hk3 : W.cell? ⟨gb, 3, none⟩ = some (.int .i32 224) := (blk_cell BKW 3).trans rfl
  have hk4 : W.cell? ⟨gb, 4, none⟩ = some (.int .i32 240) := (blk_cell BKW 4).trans rfl
  have hxW0 := (HBW.cell (World.block_lt_of_cell? w _ hx0)).trans hx0
  have hxW1 := (HBW.cell (World.block_lt_of_cell? w _ hx1)).trans hx1
  have hxW2 := (HBW.cell (World.block_lt_of_cell? w _ hx2)).trans hx2
  clear HB BK
  go_wp2
  refine wp_loop_rounds 4 ?_
  rw [rounds_succ]
  go_wp2
  rw [rounds_succ]
  go_wp2
  refine wp_loop_rounds 4 ?_
  rw [rounds_succ]
  go_wp2
  rw [rounds_succ]
  go_wp2
  go_ret
  exact ⟨by first | rfl | (simp [*] <;> rfl), HBW⟩
set_option maxHeartbeats 8000000 in
set_option maxRecDepth 100000 in
theorem num3_hi2 (A0 : Option Addr) (c0 : Nat) (a b c : Int) (w : World) (hr0 : Kd.C (Kd.int .u8) w A0 3 [a, b, c]) (hc0 : 3 ≤ c0) (ha : 0 ≤ a ∧ a < 256) (hb : 0 ≤ b ∧ b < 256) (hc : 0 ≤ c ∧ c < 256) (p0 : ¬ a < 224) (p1 : ¬ 240 ≤ a) (p2 : ¬ b < 128) (p3 : ¬ 192 ≤ b) (p4 : ¬ c < 128) (p5 : 192 ≤ c) :
    Calls Tryd.prog 71 #[.slice A0 3 c0] w fun e w' => e = .returned (.int .i32 (-1)) ∧ Below w.heap.size w w' := by
  have HB := ak (Below.refl w.heap.size w)
  obtain ⟨ad, e0, hx0⟩ := Kd.at_int hr0 0 (by decide) (by decide)
  subst e0
  have hx0 : w.cell? ad = some (.int .u8 a) := by have h := hx0; simpa [rd, Addr.add] using h
  obtain ⟨ad1, e1, hx1⟩ := Kd.at_int hr0 1 (by decide) (by decide)
  obtain rfl := Option.some.inj e1
  have hx1 : w.cell? ⟨ad.block, ad.off + 1, none⟩ = some (.int .u8 b) := by have h := hx1; simpa [rd, Addr.add] using h
  obtain ⟨ad2, e2, hx2⟩ := Kd.at_int hr0 2 (by decide) (by decide)
  obtain rfl := Option.some.inj e2
  have hx2 : w.cell? ⟨ad.block, ad.off + 2, none⟩ = some (.int .u8 c) := by have h := hx2; simpa [rd, Addr.add] using h
  have hw_a := fit32 (n := a) (by omega) (by omega)
  have hw_b := fit32 (n := b) (by omega) (by omega)
  have hw_c := fit32 (n := c) (by omega) (by omega)
  have q0 := decide_eq_false p0
  have q1 := decide_eq_false p1
  have q2 := decide_eq_false p2
  have q3 := decide_eq_false p3
  have q4 := decide_eq_false p4
  have q5 := decide_eq_true p5
  have z0 := fit32 (n := a - 224) (by omega) (by omega)
  have z1a := fit32 (n := 64 * (a - 224)) (by omega) (by omega)
  have z1b := fit32 (n := 64 * (a - 224) + b) (by omega) (by omega)
  have z1c := fit32 (n := 64 * (a - 224) + b - 128) (by omega) (by omega)
  go_enter Tryd.func71, Tryd.ntmps71
  go_upto_region 3 with (first | ((with_reducible refine gate_dst (N := 4) rfl ?_); refine box_event ?hg (N := 4) ?hd (cs := #[.int .i32 0, .int .i32 0, .int .i32 0, .int .i32 0, .int .i32 0]) (t := 105) ?hr ?_; (case hd => rfl); (case hg => rfl); (case hr => first | (go_simp; done) | (go_simp; rfl)); intro gb hg w5 hbox hb; have n0_ := ak (below_step (by repeat (first | (with_reducible first | exact HB.out | apply wA | apply wN | apply wD) | exact HB.out)) hb); have n1_ := ak (hbox); have n3_ := ak ((by rw [hg]; exact (below_size (by repeat (first | (with_reducible first | exact HB.out | apply wA | apply wN | apply wD) | exact HB.out))) : w.heap.size ≤ gb)); clear HB; have HB := n0_; have BK := n1_; have GE := n3_; clear n0_ n1_ n3_; clear hb hbox hg; have hcz_0 : w5.cell? ⟨gb, 0, none⟩ = some (.int .i32 0) := (blk_cell BK.out 0).trans rfl; have hcz_1 : w5.cell? ⟨gb, 1, none⟩ = some (.int .i32 0) := (blk_cell BK.out 1).trans rfl; have hcz_2 : w5.cell? ⟨gb, 2, none⟩ = some (.int .i32 0) := (blk_cell BK.out 2).trans rfl; have hcz_3 : w5.cell? ⟨gb, 3, none⟩ = some (.int .i32 0) := (blk_cell BK.out 3).trans rfl; have hcz_4 : w5.cell? ⟨gb, 4, none⟩ = some (.int .i32 0) := (blk_cell BK.out 4).trans rfl; have hfz_0 := blk_frozen BK.out 0; have hfz_1 := blk_frozen BK.out 1; have hfz_2 := blk_frozen BK.out 2; have hfz_3 := blk_frozen BK.out 3; have hfz_4 := blk_frozen BK.out 4))
  refine name_world (fun W => W.heap[gb]? = some (.cells #[.int .i32 0, .int .i32 0, .int .i32 192, .int .i32 224, .int .i32 240] 105 (0, 0)) ∧ Below w.heap.size w W) ⟨?bk, ?be⟩ (fun W ⟨BKW, HBW⟩ => ?_)
  case bk => (with_reducible repeat (first | refine bN ?_ _ | refine bD ?_ | refine bA ?_ _)); refine blk_put (cs := #[.int .i32 0, .int .i32 0, .int .i32 192, .int .i32 224, .int .i32 0]) ?_ 4 _ rfl; (with_reducible repeat (first | refine bN ?_ _ | refine bD ?_ | refine bA ?_ _)); refine blk_put (cs := #[.int .i32 0, .int .i32 0, .int .i32 192, .int .i32 0, .int .i32 0]) ?_ 3 _ rfl; (with_reducible repeat (first | refine bN ?_ _ | refine bD ?_ | refine bA ?_ _)); refine blk_put (cs := #[.int .i32 0, .int .i32 0, .int .i32 0, .int .i32 0, .int .i32 0]) ?_ 2 _ rfl; (with_reducible repeat (first | refine bN ?_ _ | refine bD ?_ | refine bA ?_ _)); refine blk_put (cs := #[.int .i32 0, .int .i32 0, .int .i32 0, .int .i32 0, .int .i32 0]) ?_ 1 _ rfl; (with_reducible repeat (first | refine bN ?_ _ | refine bD ?_ | refine bA ?_ _)); refine blk_put (cs := #[.int .i32 0, .int .i32 0, .int .i32 0, .int .i32 0, .int .i32 0]) ?_ 0 _ rfl; (with_reducible repeat (first | refine bN ?_ _ | refine bD ?_ | refine bA ?_ _)); exact BK.out
  case be => repeat (first | (with_reducible first | exact HB.out | apply wA | apply wN | apply wD | refine below_set ?_ GE.out) | exact HB.out)
  have hk2 : W.cell? ⟨gb, 2, none⟩ = some (.int .i32 192) := (blk_cell BKW 2).trans rfl
  have hk3 : W.cell? ⟨gb, 3, none⟩ = some (.int .i32 224) := (blk_cell BKW 3).trans rfl
  have hk4 : W.cell? ⟨gb, 4, none⟩ = some (.int .i32 240) := (blk_cell BKW 4).trans rfl
  have hxW0 := (HBW.cell (World.block_lt_of_cell? w _ hx0)).trans hx0
  have hxW1 := (HBW.cell (World.block_lt_of_cell? w _ hx1)).trans hx1
  have hxW2 := (HBW.cell (World.block_lt_of_cell? w _ hx2)).trans hx2
  clear HB BK
  go_wp2
  refine wp_loop_rounds 4 ?_
  rw [rounds_succ]
  go_wp2
  rw [rounds_succ]
  go_wp2
  refine wp_loop_rounds 4 ?_
  rw [rounds_succ]
  go_wp2
  rw [rounds_succ]
  go_wp2
  go_ret
  exact ⟨by first | rfl | (simp [*] <;> rfl), HBW⟩
set_option maxHeartbeats 8000000 in
set_option maxRecDepth 100000 in
theorem num3_all (A0 : Option Addr) (c0 : Nat) (a b c : Int) (w : World) (hr0 : Kd.C (Kd.int .u8) w A0 3 [a, b, c]) (hc0 : 3 ≤ c0) (ha : 0 ≤ a ∧ a < 256) (hb : 0 ≤ b ∧ b < 256) (hc : 0 ≤ c ∧ c < 256) (p0 : ¬ a < 224) (p1 : ¬ 240 ≤ a) (p2 : ¬ b < 128) (p3 : ¬ 192 ≤ b) (p4 : ¬ c < 128) (p5 : ¬ 192 ≤ c) :
    Calls Tryd.prog 71 #[.slice A0 3 c0] w fun e w' => e = .returned (.int .i32 ((64 * (64 * (a - 224) + b - 128) + c - 128))) ∧ Below w.heap.size w w' := by
  have HB := ak (Below.refl w.heap.size w)
  obtain ⟨ad, e0, hx0⟩ := Kd.at_int hr0 0 (by decide) (by decide)
  subst e0
  have hx0 : w.cell? ad = some (.int .u8 a) := by have h := hx0; simpa [rd, Addr.add] using h
  obtain ⟨ad1, e1, hx1⟩ := Kd.at_int hr0 1 (by decide) (by decide)
  obtain rfl := Option.some.inj e1
  have hx1 : w.cell? ⟨ad.block, ad.off + 1, none⟩ = some (.int .u8 b) := by have h := hx1; simpa [rd, Addr.add] using h
  obtain ⟨ad2, e2, hx2⟩ := Kd.at_int hr0 2 (by decide) (by decide)
  obtain rfl := Option.some.inj e2
  have hx2 : w.cell? ⟨ad.block, ad.off + 2, none⟩ = some (.int .u8 c) := by have h := hx2; simpa [rd, Addr.add] using h
  have hw_a := fit32 (n := a) (by omega) (by omega)
  have hw_b := fit32 (n := b) (by omega) (by omega)
  have hw_c := fit32 (n := c) (by omega) (by omega)
  have q0 := decide_eq_false p0
  have q1 := decide_eq_false p1
  have q2 := decide_eq_false p2
  have q3 := decide_eq_false p3
  have q4 := decide_eq_false p4
  have q5 := decide_eq_false p5
  have z0 := fit32 (n := a - 224) (by omega) (by omega)
  have z1a := fit32 (n := 64 * (a - 224)) (by omega) (by omega)
  have z1b := fit32 (n := 64 * (a - 224) + b) (by omega) (by omega)
  have z1c := fit32 (n := 64 * (a - 224) + b - 128) (by omega) (by omega)
  have z2a := fit32 (n := 64 * (64 * (a - 224) + b - 128)) (by omega) (by omega)
  have z2b := fit32 (n := 64 * (64 * (a - 224) + b - 128) + c) (by omega) (by omega)
  have z2c := fit32 (n := 64 * (64 * (a - 224) + b - 128) + c - 128) (by omega) (by omega)
  go_enter Tryd.func71, Tryd.ntmps71
  go_upto_region 3 with (first | ((with_reducible refine gate_dst (N := 4) rfl ?_); refine box_event ?hg (N := 4) ?hd (cs := #[.int .i32 0, .int .i32 0, .int .i32 0, .int .i32 0, .int .i32 0]) (t := 105) ?hr ?_; (case hd => rfl); (case hg => rfl); (case hr => first | (go_simp; done) | (go_simp; rfl)); intro gb hg w5 hbox hb; have n0_ := ak (below_step (by repeat (first | (with_reducible first | exact HB.out | apply wA | apply wN | apply wD) | exact HB.out)) hb); have n1_ := ak (hbox); have n3_ := ak ((by rw [hg]; exact (below_size (by repeat (first | (with_reducible first | exact HB.out | apply wA | apply wN | apply wD) | exact HB.out))) : w.heap.size ≤ gb)); clear HB; have HB := n0_; have BK := n1_; have GE := n3_; clear n0_ n1_ n3_; clear hb hbox hg; have hcz_0 : w5.cell? ⟨gb, 0, none⟩ = some (.int .i32 0) := (blk_cell BK.out 0).trans rfl; have hcz_1 : w5.cell? ⟨gb, 1, none⟩ = some (.int .i32 0) := (blk_cell BK.out 1).trans rfl; have hcz_2 : w5.cell? ⟨gb, 2, none⟩ = some (.int .i32 0) := (blk_cell BK.out 2).trans rfl; have hcz_3 : w5.cell? ⟨gb, 3, none⟩ = some (.int .i32 0) := (blk_cell BK.out 3).trans rfl; have hcz_4 : w5.cell? ⟨gb, 4, none⟩ = some (.int .i32 0) := (blk_cell BK.out 4).trans rfl; have hfz_0 := blk_frozen BK.out 0; have hfz_1 := blk_frozen BK.out 1; have hfz_2 := blk_frozen BK.out 2; have hfz_3 := blk_frozen BK.out 3; have hfz_4 := blk_frozen BK.out 4))
  refine name_world (fun W => W.heap[gb]? = some (.cells #[.int .i32 0, .int .i32 0, .int .i32 192, .int .i32 224, .int .i32 240] 105 (0, 0)) ∧ Below w.heap.size w W) ⟨?bk, ?be⟩ (fun W ⟨BKW, HBW⟩ => ?_)
  case bk => (with_reducible repeat (first | refine bN ?_ _ | refine bD ?_ | refine bA ?_ _)); refine blk_put (cs := #[.int .i32 0, .int .i32 0, .int .i32 192, .int .i32 224, .int .i32 0]) ?_ 4 _ rfl; (with_reducible repeat (first | refine bN ?_ _ | refine bD ?_ | refine bA ?_ _)); refine blk_put (cs := #[.int .i32 0, .int .i32 0, .int .i32 192, .int .i32 0, .int .i32 0]) ?_ 3 _ rfl; (with_reducible repeat (first | refine bN ?_ _ | refine bD ?_ | refine bA ?_ _)); refine blk_put (cs := #[.int .i32 0, .int .i32 0, .int .i32 0, .int .i32 0, .int .i32 0]) ?_ 2 _ rfl; (with_reducible repeat (first | refine bN ?_ _ | refine bD ?_ | refine bA ?_ _)); refine blk_put (cs := #[.int .i32 0, .int .i32 0, .int .i32 0, .int .i32 0, .int .i32 0]) ?_ 1 _ rfl; (with_reducible repeat (first | refine bN ?_ _ | refine bD ?_ | refine bA ?_ _)); refine blk_put (cs := #[.int .i32 0, .int .i32 0, .int .i32 0, .int .i32 0, .int .i32 0]) ?_ 0 _ rfl; (with_reducible repeat (first | refine bN ?_ _ | refine bD ?_ | refine bA ?_ _)); exact BK.out
  case be => repeat (first | (with_reducible first | exact HB.out | apply wA | apply wN | apply wD | refine below_set ?_ GE.out) | exact HB.out)
  have hk2 : W.cell? ⟨gb, 2, none⟩ = some (.int .i32 192) := (blk_cell BKW 2).trans rfl
  have hk3 : W.cell? ⟨gb, 3, none⟩ = some (.int .i32 224) := (blk_cell BKW 3).trans rfl
  have hk4 : W.cell? ⟨gb, 4, none⟩ = some (.int .i32 240) := (blk_cell BKW 4).trans rfl
  have hxW0 := (HBW.cell (World.block_lt_of_cell? w _ hx0)).trans hx0
  have hxW1 := (HBW.cell (World.block_lt_of_cell? w _ hx1)).trans hx1
  have hxW2 := (HBW.cell (World.block_lt_of_cell? w _ hx2)).trans hx2
  clear HB BK
  go_wp2
  refine wp_loop_rounds 4 ?_
  rw [rounds_succ]
  go_wp2
  rw [rounds_succ]
  go_wp2
  refine wp_loop_rounds 4 ?_
  rw [rounds_succ]
  go_wp2
  rw [rounds_succ]
  go_wp2
  rw [rounds_succ]
  go_wp2
  go_ret
  exact ⟨by first | rfl | (simp [*] <;> rfl), HBW⟩
set_option maxHeartbeats 8000000 in
set_option maxRecDepth 100000 in
theorem num4_below (A0 : Option Addr) (c0 : Nat) (a b c d : Int) (w : World) (hr0 : Kd.C (Kd.int .u8) w A0 4 [a, b, c, d]) (hc0 : 4 ≤ c0) (ha : 0 ≤ a ∧ a < 256) (hb : 0 ≤ b ∧ b < 256) (hc : 0 ≤ c ∧ c < 256) (hd : 0 ≤ d ∧ d < 256) (p0 : a < 240) :
    Calls Tryd.prog 71 #[.slice A0 4 c0] w fun e w' => e = .returned (.int .i32 (-1)) ∧ Below w.heap.size w w' := by
  have HB := ak (Below.refl w.heap.size w)
  obtain ⟨ad, e0, hx0⟩ := Kd.at_int hr0 0 (by decide) (by decide)
  subst e0
  have hx0 : w.cell? ad = some (.int .u8 a) := by have h := hx0; simpa [rd, Addr.add] using h
  obtain ⟨ad1, e1, hx1⟩ := Kd.at_int hr0 1 (by decide) (by decide)
  obtain rfl := Option.some.inj e1
  have hx1 : w.cell? ⟨ad.block, ad.off + 1, none⟩ = some (.int .u8 b) := by have h := hx1; simpa [rd, Addr.add] using h
  obtain ⟨ad2, e2, hx2⟩ := Kd.at_int hr0 2 (by decide) (by decide)
  obtain rfl := Option.some.inj e2
  have hx2 : w.cell? ⟨ad.block, ad.off + 2, none⟩ = some (.int .u8 c) := by have h := hx2; simpa [rd, Addr.add] using h
  obtain ⟨ad3, e3, hx3⟩ := Kd.at_int hr0 3 (by decide) (by decide)
  obtain rfl := Option.some.inj e3
  have hx3 : w.cell? ⟨ad.block, ad.off + 3, none⟩ = some (.int .u8 d) := by have h := hx3; simpa [rd, Addr.add] using h
  have hw_a := fit32 (n := a) (by omega) (by omega)
  have hw_b := fit32 (n := b) (by omega) (by omega)
  have hw_c := fit32 (n := c) (by omega) (by omega)
  have hw_d := fit32 (n := d) (by omega) (by omega)
  have q0 := decide_eq_true p0
  have z0 := fit32 (n := a - 240) (by omega) (by omega)
  go_enter Tryd.func71, Tryd.ntmps71
  go_upto_region 3 with (first | ((with_reducible refine gate_dst (N := 4) rfl ?_); refine box_event ?hg (N := 4) ?hd (cs := #[.int .i32 0, .int .i32 0, .int .i32 0, .int .i32 0, .int .i32 0]) (t := 105) ?hr ?_; (case hd => rfl); (case hg => rfl); (case hr => first | (go_simp; done) | (go_simp; rfl)); intro gb hg w5 hbox hb; have n0_ := ak (below_step (by repeat (first | (with_reducible first | exact HB.out | apply wA | apply wN | apply wD) | exact HB.out)) hb); have n1_ := ak (hbox); have n3_ := ak ((by rw [hg]; exact (below_size (by repeat (first | (with_reducible first | exact HB.out | apply wA | apply wN | apply wD) | exact HB.out))) : w.heap.size ≤ gb)); clear HB; have HB := n0_; have BK := n1_; have GE := n3_; clear n0_ n1_ n3_; clear hb hbox hg; have hcz_0 : w5.cell? ⟨gb, 0, none⟩ = some (.int .i32 0) := (blk_cell BK.out 0).trans rfl; have hcz_1 : w5.cell? ⟨gb, 1, none⟩ = some (.int .i32 0) := (blk_cell BK.out 1).trans rfl; have hcz_2 : w5.cell? ⟨gb, 2, none⟩ = some (.int .i32 0) := (blk_cell BK.out 2).trans rfl; have hcz_3 : w5.cell? ⟨gb, 3, none⟩ = some (.int .i32 0) := (blk_cell BK.out 3).trans rfl; have hcz_4 : w5.cell? ⟨gb, 4, none⟩ = some (.int .i32 0) := (blk_cell BK.out 4).trans rfl; have hfz_0 := blk_frozen BK.out 0; have hfz_1 := blk_frozen BK.out 1; have hfz_2 := blk_frozen BK.out 2; have hfz_3 := blk_frozen BK.out 3; have hfz_4 := blk_frozen BK.out 4))
  refine name_world (fun W => W.heap[gb]? = some (.cells #[.int .i32 0, .int .i32 0, .int .i32 192, .int .i32 224, .int .i32 240] 105 (0, 0)) ∧ Below w.heap.size w W) ⟨?bk, ?be⟩ (fun W ⟨BKW, HBW⟩ => ?_)
  case bk => (with_reducible repeat (first | refine bN ?_ _ | refine bD ?_ | refine bA ?_ _)); refine blk_put (cs := #[.int .i32 0, .int .i32 0, .int .i32 192, .int .i32 224, .int .i32 0]) ?_ 4 _ rfl; (with_reducible repeat (first | refine bN ?_ _ | refine bD ?_ | refine bA ?_ _)); refine blk_put (cs := #[.int .i32 0, .int .i32 0, .int .i32 192, .int .i32 0, .int .i32 0]) ?_ 3 _ rfl; (with_reducible repeat (first | refine bN ?_ _ | refine bD ?_ | refine bA ?_ _)); refine blk_put (cs := #[.int .i32 0, .int .i32 0, .int .i32 0, .int .i32 0, .int .i32 0]) ?_ 2 _ rfl; (with_reducible repeat (first | refine bN ?_ _ | refine bD ?_ | refine bA ?_ _)); refine blk_put (cs := #[.int .i32 0, .int .i32 0, .int .i32 0, .int .i32 0, .int .i32 0]) ?_ 1 _ rfl; (with_reducible repeat (first | refine bN ?_ _ | refine bD ?_ | refine bA ?_ _)); refine blk_put (cs := #[.int .i32 0, .int .i32 0, .int .i32 0, .int .i32 0, .int .i32 0]) ?_ 0 _ rfl; (with_reducible repeat (first | refine bN ?_ _ | refine bD ?_ | refine bA ?_ _)); exact BK.out
  case be => repeat (first | (with_reducible first | exact HB.out | apply wA | apply wN | apply wD | refine below_set ?_ GE.out) | exact HB.out)
  have hk2 : W.cell? ⟨gb, 2, none⟩ = some (.int .i32 192) := (blk_cell BKW 2).trans rfl
  have hk3 : W.cell? ⟨gb, 3, none⟩ = some (.int .i32 224) := (blk_cell BKW 3).trans rfl
  have hk4 : W.cell? ⟨gb, 4, none⟩ = some (.int .i32 240) := (blk_cell BKW 4).trans rfl
  have hxW0 := (HBW.cell (World.block_lt_of_cell? w _ hx0)).trans hx0
  have hxW1 := (HBW.cell (World.block_lt_of_cell? w _ hx1)).trans hx1
  have hxW2 := (HBW.cell (World.block_lt_of_cell? w _ hx2)).trans hx2
  have hxW3 := (HBW.cell (World.block_lt_of_cell? w _ hx3)).trans hx3
  clear HB BK
  go_wp2
  refine wp_loop_rounds 4 ?_
  rw [rounds_succ]
  go_wp2
  rw [rounds_succ]
  go_wp2
  rw [rounds_succ]
  go_wp2
  rw [rounds_succ]
  go_wp2
  go_ret
  exact ⟨by first | rfl | (simp [*] <;> rfl), HBW⟩
set_option maxHeartbeats 8000000 in
set_option maxRecDepth 100000 in
theorem num4_above (A0 : Option Addr) (c0 : Nat) (a b c d : Int) (w : World) (hr0 : Kd.C (Kd.int .u8) w A0 4 [a, b, c, d]) (hc0 : 4 ≤ c0) (ha : 0 ≤ a ∧ a < 256) (hb : 0 ≤ b ∧ b < 256) (hc : 0 ≤ c ∧ c < 256) (hd : 0 ≤ d ∧ d < 256) (p0 : ¬ a < 240) (p1 : 248 ≤ a) :
    Calls Tryd.prog 71 #[.slice A0 4 c0] w fun e w' => e = .returned (.int .i32 (-1)) ∧ Below w.heap.size w w' := by
  have HB := ak (Below.refl w.heap.size w)
  obtain ⟨ad, e0, hx0⟩ := Kd.at_int hr0 0 (by decide) (by decide)
  subst e0
  have hx0 : w.cell? ad = some (.int .u8 a) := by have h := hx0; simpa [rd, Addr.add] using h
  obtain ⟨ad1, e1, hx1⟩ := Kd.at_int hr0 1 (by decide) (by decide)
  obtain rfl := Option.some.inj e1
  have hx1 : w.cell? ⟨ad.block, ad.off + 1, none⟩ = some (.int .u8 b) := by have h := hx1; simpa [rd, Addr.add] using h
  obtain ⟨ad2, e2, hx2⟩ := Kd.at_int hr0 2 (by decide) (by decide)
  obtain rfl := Option.some.inj e2
  have hx2 : w.cell? ⟨ad.block, ad.off + 2, none⟩ = some (.int .u8 c) := by have h := hx2; simpa [rd, Addr.add] using h
  obtain ⟨ad3, e3, hx3⟩ := Kd.at_int hr0 3 (by decide) (by decide)
  obtain rfl := Option.some.inj e3
  have hx3 : w.cell? ⟨ad.block, ad.off + 3, none⟩ = some (.int .u8 d) := by have h := hx3; simpa [rd, Addr.add] using h
  have hw_a := fit32 (n := a) (by omega) (by omega)
  have hw_b := fit32 (n := b) (by omega) (by omega)
  have hw_c := fit32 (n := c) (by omega) (by omega)
  have hw_d := fit32 (n := d) (by omega) (by omega)
  have q0 := decide_eq_false p0
  have q1 := decide_eq_true p1
  have z0 := fit32 (n := a - 240) (by omega) (by omega)
  go_enter Tryd.func71, Tryd.ntmps71
  go_upto_region 3 with (first | ((with_reducible refine gate_dst (N := 4) rfl ?_); refine box_event ?hg (N := 4) ?hd (cs := #[.int .i32 0, .int .i32 0, .int .i32 0, .int .i32 0, .int .i32 0]) (t := 105) ?hr ?_; (case hd => rfl); (case hg => rfl); (case hr => first | (go_simp; done) | (go_simp; rfl)); intro gb hg w5 hbox hb; have n0_ := ak (below_step (by repeat (first | (with_reducible first | exact HB.out | apply wA | apply wN | apply wD) | exact HB.out)) hb); have n1_ := ak (hbox); have n3_ := ak ((by rw [hg]; exact (below_size (by repeat (first | (with_reducible first | exact HB.out | apply wA | apply wN | apply wD) | exact HB.out))) : w.heap.size ≤ gb)); clear HB; have HB := n0_; have BK := n1_; have GE := n3_; clear n0_ n1_ n3_; clear hb hbox hg; have hcz_0 : w5.cell? ⟨gb, 0, none⟩ = some (.int .i32 0) := (blk_cell BK.out 0).trans rfl; have hcz_1 : w5.cell? ⟨gb, 1, none⟩ = some (.int .i32 0) := (blk_cell BK.out 1).trans rfl; have hcz_2 : w5.cell? ⟨gb, 2, none⟩ = some (.int .i32 0) := (blk_cell BK.out 2).trans rfl; have hcz_3 : w5.cell? ⟨gb, 3, none⟩ = some (.int .i32 0) := (blk_cell BK.out 3).trans rfl; have hcz_4 : w5.cell? ⟨gb, 4, none⟩ = some (.int .i32 0) := (blk_cell BK.out 4).trans rfl; have hfz_0 := blk_frozen BK.out 0; have hfz_1 := blk_frozen BK.out 1; have hfz_2 := blk_frozen BK.out 2; have hfz_3 := blk_frozen BK.out 3; have hfz_4 := blk_frozen BK.out 4))
  refine name_world (fun W => W.heap[gb]? = some (.cells #[.int .i32 0, .int .i32 0, .int .i32 192, .int .i32 224, .int .i32 240] 105 (0, 0)) ∧ Below w.heap.size w W) ⟨?bk, ?be⟩ (fun W ⟨BKW, HBW⟩ => ?_)
  case bk => (with_reducible repeat (first | refine bN ?_ _ | refine bD ?_ | refine bA ?_ _)); refine blk_put (cs := #[.int .i32 0, .int .i32 0, .int .i32 192, .int .i32 224, .int .i32 0]) ?_ 4 _ rfl; (with_reducible repeat (first | refine bN ?_ _ | refine bD ?_ | refine bA ?_ _)); refine blk_put (cs := #[.int .i32 0, .int .i32 0, .int .i32 192, .int .i32 0, .int .i32 0]) ?_ 3 _ rfl; (with_reducible repeat (first | refine bN ?_ _ | refine bD ?_ | refine bA ?_ _)); refine blk_put (cs := #[.int .i32 0, .int .i32 0, .int .i32 0, .int .i32 0, .int .i32 0]) ?_ 2 _ rfl; (with_reducible repeat (first | refine bN ?_ _ | refine bD ?_ | refine bA ?_ _)); refine blk_put (cs := #[.int .i32 0, .int .i32 0, .int .i32 0, .int .i32 0, .int .i32 0]) ?_ 1 _ rfl; (with_reducible repeat (first | refine bN ?_ _ | refine bD ?_ | refine bA ?_ _)); refine blk_put (cs := #[.int .i32 0, .int .i32 0, .int .i32 0, .int .i32 0, .int .i32 0]) ?_ 0 _ rfl; (with_reducible repeat (first | refine bN ?_ _ | refine bD ?_ | refine bA ?_ _)); exact BK.out
  case be => repeat (first | (with_reducible first | exact HB.out | apply wA | apply wN | apply wD | refine below_set ?_ GE.out) | exact HB.out)
  have hk2 : W.cell? ⟨gb, 2, none⟩ = some (.int .i32 192) := (blk_cell BKW 2).trans rfl
  have hk3 : W.cell? ⟨gb, 3, none⟩ = some (.int .i32 224) := (blk_cell BKW 3).trans rfl
  have hk4 : W.cell? ⟨gb, 4, none⟩ = some (.int .i32 240) := (blk_cell BKW 4).trans rfl
  have hxW0 := (HBW.cell (World.block_lt_of_cell? w _ hx0)).trans hx0
  have hxW1 := (HBW.cell (World.block_lt_of_cell? w _ hx1)).trans hx1
  have hxW2 := (HBW.cell (World.block_lt_of_cell? w _ hx2)).trans hx2
  have hxW3 := (HBW.cell (World.block_lt_of_cell? w _ hx3)).trans hx3
  clear HB BK
  go_wp2
  refine wp_loop_rounds 4 ?_
  rw [rounds_succ]
  go_wp2
  rw [rounds_succ]
  go_wp2
  rw [rounds_succ]
  go_wp2
  rw [rounds_succ]
  go_wp2
  go_ret
  exact ⟨by first | rfl | (simp [*] <;> rfl), HBW⟩
set_option maxHeartbeats 8000000 in
set_option maxRecDepth 100000 in
theorem num4_lo1 (A0 : Option Addr) (c0 : Nat) (a b c d : Int) (w : World) (hr0 : Kd.C (Kd.int .u8) w A0 4 [a, b, c, d]) (hc0 : 4 ≤ c0) (ha : 0 ≤ a ∧ a < 256) (hb : 0 ≤ b ∧ b < 256) (hc : 0 ≤ c ∧ c < 256) (hd : 0 ≤ d ∧ d < 256) (p0 : ¬ a < 240) (p1 : ¬ 248 ≤ a) (p2 : b < 128) :
    Calls Tryd.prog 71 #[.slice A0 4 c0] w fun e w' => e = .returned (.int .i32 (-1)) ∧ Below w.heap.size w w' := by
  have HB := ak (Below.refl w.heap.size w)
  obtain ⟨ad, e0, hx0⟩ := Kd.at_int hr0 0 (by decide) (by decide)
  subst e0
  have hx0 : w.cell? ad = some (.int .u8 a) := by have h := hx0; simpa [rd, Addr.add] using h
  obtain ⟨ad1, e1, hx1⟩ := Kd.at_int hr0 1 (by decide) (by decide)
  obtain rfl := Option.some.inj e1
  have hx1 : w.cell? ⟨ad.block, ad.off + 1, none⟩ = some (.int .u8 b) := by have h := hx1; simpa [rd, Addr.add] using h
  obtain ⟨ad2, e2, hx2⟩ := Kd.at_int hr0 2 (by decide) (by decide)
  obtain rfl := Option.some.inj e2
  have hx2 : w.cell? ⟨ad.block, ad.off + 2, none⟩ = some (.int .u8 c) := by have h := hx2; simpa [rd, Addr.add] using h
  obtain ⟨ad3, e3, hx3⟩ := Kd.at_int hr0 3 (by decide) (by decide)
  obtain rfl := Option.some.inj e3
  have hx3 : w.cell? ⟨ad.block, ad.off + 3, none⟩ = some (.int .u8 d) := by have h := hx3; simpa [rd, Addr.add] using h
  have hw_a := fit32 (n := a) (by omega) (by omega)
  have hw_b := fit32 (n := b) (by omega) (by omega)
  have hw_c := fit32 (n := c) (by omega) (by omega)
  have hw_d := fit32 (n := d) (by omega) (by omega)
  have q0 := decide_eq_false p0
  have q1 := decide_eq_false p1
  have q2 := decide_eq_true p2
  have z0 := fit32 (n := a - 240) (by omega) (by omega)
  go_enter Tryd.func71, Tryd.ntmps71
  go_upto_region 3 with (first | ((with_reducible refine gate_dst (N := 4) rfl ?_); refine box_event ?hg (N := 4) ?hd (cs := #[.int .i32 0, .int .i32 0, .int .i32 0, .int .i32 0, .int .i32 0]) (t := 105) ?hr ?_; (case hd => rfl); (case hg => rfl); (case hr => first | (go_simp; done) | (go_simp; rfl)); intro gb hg w5 hbox hb; have n0_ := ak (below_step (by repeat (first | (with_reducible first | exact HB.out | apply wA | apply wN | apply wD) | exact HB.out)) hb); have n1_ := ak (hbox); have n3_ := ak ((by rw [hg]; exact (below_size (by repeat (first | (with_reducible first | exact HB.out | apply wA | apply wN | apply wD) | exact HB.out))) : w.heap.size ≤ gb)); clear HB; have HB := n0_; have BK := n1_; have GE := n3_; clear n0_ n1_ n3_; clear hb hbox hg; have hcz_0 : w5.cell? ⟨gb, 0, none⟩ = some (.int .i32 0) := (blk_cell BK.out 0).trans rfl; have hcz_1 : w5.cell? ⟨gb, 1, none⟩ = some (.int .i32 0) := (blk_cell BK.out 1).trans rfl; have hcz_2 : w5.cell? ⟨gb, 2, none⟩ = some (.int .i32 0) := (blk_cell BK.out 2).trans rfl; have hcz_3 : w5.cell? ⟨gb, 3, none⟩ = some (.int .i32 0) := (blk_cell BK.out 3).trans rfl; have hcz_4 : w5.cell? ⟨gb, 4, none⟩ = some (.int .i32 0) := (blk_cell BK.out 4).trans rfl; have hfz_0 := blk_frozen BK.out 0; have hfz_1 := blk_frozen BK.out 1; have hfz_2 := blk_frozen BK.out 2; have hfz_3 := blk_frozen BK.out 3; have hfz_4 := blk_frozen BK.out 4))
  refine name_world (fun W => W.heap[gb]? = some (.cells #[.int .i32 0, .int .i32 0, .int .i32 192, .int .i32 224, .int .i32 240] 105 (0, 0)) ∧ Below w.heap.size w W) ⟨?bk, ?be⟩ (fun W ⟨BKW, HBW⟩ => ?_)
  case bk => (with_reducible repeat (first | refine bN ?_ _ | refine bD ?_ | refine bA ?_ _)); refine blk_put (cs := #[.int .i32 0, .int .i32 0, .int .i32 192, .int .i32 224, .int .i32 0]) ?_ 4 _ rfl; (with_reducible repeat (first | refine bN ?_ _ | refine bD ?_ | refine bA ?_ _)); refine blk_put (cs := #[.int .i32 0, .int .i32 0, .int .i32 192, .int .i32 0, .int .i32 0]) ?_ 3 _ rfl; (with_reducible repeat (first | refine bN ?_ _ | refine bD ?_ | refine bA ?_ _)); refine blk_put (cs := #[.int .i32 0, .int .i32 0, .int .i32 0, .int .i32 0, .int .i32 0]) ?_ 2 _ rfl; (with_reducible repeat (first | refine bN ?_ _ | refine bD ?_ | refine bA ?_ _)); refine blk_put (cs := #[.int .i32 0, .int .i32 0, .int .i32 0, .int .i32 0, .int .i32 0]) ?_ 1 _ rfl; (with_reducible repeat (first | refine bN ?_ _ | refine bD ?_ | refine bA ?_ _)); refine blk_put (cs := #[.int .i32 0, .int .i32 0, .int .i32 0, .int .i32 0, .int .i32 0]) ?_ 0 _ rfl; (with_reducible repeat (first | refine bN ?_ _ | refine bD ?_ | refine bA ?_ _)); exact BK.out
  case be => repeat (first | (with_reducible first | exact HB.out | apply wA | apply wN | apply wD | refine below_set ?_ GE.out) | exact HB.out)
  have hk2 : W.cell? ⟨gb, 2, none⟩ = some (.int .i32 192) := (blk_cell BKW 2).trans rfl
  have hk3 : W.cell? ⟨gb, 3, none⟩ = some (.int .i32 224) := (blk_cell BKW 3).trans rfl
  have hk4 : W.cell? ⟨gb, 4, none⟩ = some (.int .i32 240) := (blk_cell BKW 4).trans rfl
  have hxW0 := (HBW.cell (World.block_lt_of_cell? w _ hx0)).trans hx0
  have hxW1 := (HBW.cell (World.block_lt_of_cell? w _ hx1)).trans hx1
  have hxW2 := (HBW.cell (World.block_lt_of_cell? w _ hx2)).trans hx2
  have hxW3 := (HBW.cell (World.block_lt_of_cell? w _ hx3)).trans hx3
  clear HB BK
  go_wp2
  refine wp_loop_rounds 4 ?_
  rw [rounds_succ]
  go_wp2
  rw [rounds_succ]
  go_wp2
  rw [rounds_succ]
  go_wp2
  refine wp_loop_rounds 4 ?_
  rw [rounds_succ]
  go_wp2
  go_ret
  exact ⟨by first | rfl | (simp [*] <;> rfl), HBW⟩
set_option maxHeartbeats 8000000 in
set_option maxRecDepth 100000 in
theorem num4_hi1 (A0 : Option Addr) (c0 : Nat) (a b c d : Int) (w : World) (hr0 : Kd.C (Kd.int .u8) w A0 4 [a, b, c, d]) (hc0 : 4 ≤ c0) (ha : 0 ≤ a ∧ a < 256) (hb : 0 ≤ b ∧ b < 256) (hc : 0 ≤ c ∧ c < 256) (hd : 0 ≤ d ∧ d < 256) (p0 : ¬ a < 240) (p1 : ¬ 248 ≤ a) (p2 : ¬ b < 128) (p3 : 192 ≤ b) :
    Calls Tryd.prog 71 #[.slice A0 4 c0] w fun e w' => e = .returned (.int .i32 (-1)) ∧ Below w.heap.size w w' := by
  have HB := ak (Below.refl w.heap.size w)
  obtain ⟨ad, e0, hx0⟩ := Kd.at_int hr0 0 (by decide) (by decide)
  subst e0
  have hx0 : w.cell? ad = some (.int .u8 a) := by have h := hx0; simpa [rd, Addr.add] using h
  obtain ⟨ad1, e1, hx1⟩ := Kd.at_int hr0 1 (by decide) (by decide)
  obtain rfl := Option.some.inj e1
  have hx1 : w.cell? ⟨ad.block, ad.off + 1, none⟩ = some (.int .u8 b) := by have h := hx1; simpa [rd, Addr.add] using h
  obtain ⟨ad2, e2, hx2⟩ := Kd.at_int hr0 2 (by decide) (by decide)
  obtain rfl := Option.some.inj e2
  have hx2 : w.cell? ⟨ad.block, ad.off + 2, none⟩ = some (.int .u8 c) := by have h := hx2; simpa [rd, Addr.add] using h
  obtain ⟨ad3, e3, hx3⟩ := Kd.at_int hr0 3 (by decide) (by decide)
  obtain rfl := Option.some.inj e3
  have hx3 : w.cell? ⟨ad.block, ad.off + 3, none⟩ = some (.int .u8 d) := by have h := hx3; simpa [rd, Addr.add] using h
  have hw_a := fit32 (n := a) (by omega) (by omega)
  have hw_b := fit32 (n := b) (by omega) (by omega)
  have hw_c := fit32 (n := c) (by omega) (by omega)
  have hw_d := fit32 (n := d) (by omega) (by omega)
  have q0 := decide_eq_false p0
  have q1 := decide_eq_false p1
  have q2 := decide_eq_false p2
  have q3 := decide_eq_true p3
  have z0 := fit32 (n := a - 240) (by omega) (by omega)
  go_enter Tryd.func71, Tryd.ntmps71
  go_upto_region 3 with (first | ((with_reducible refine gate_dst (N := 4) rfl ?_); refine box_event ?hg (N := 4) ?hd (cs := #[.int .i32 0, .int .i32 0, .int .i32 0, .int .i32 0, .int .i32 0]) (t := 105) ?hr ?_; (case hd => rfl); (case hg => rfl); (case hr => first | (go_simp; done) | (go_simp; rfl)); intro gb hg w5 hbox hb; have n0_ := ak (below_step (by repeat (first | (with_reducible first | exact HB.out | apply wA | apply wN | apply wD) | exact HB.out)) hb); have n1_ := ak (hbox); have n3_ := ak ((by rw [hg]; exact (below_size (by repeat (first | (with_reducible first | exact HB.out | apply wA | apply wN | apply wD) | exact HB.out))) : w.heap.size ≤ gb)); clear HB; have HB := n0_; have BK := n1_; have GE := n3_; clear n0_ n1_ n3_; clear hb hbox hg; have hcz_0 : w5.cell? ⟨gb, 0, none⟩ = some (.int .i32 0) := (blk_cell BK.out 0).trans rfl; have hcz_1 : w5.cell? ⟨gb, 1, none⟩ = some (.int .i32 0) := (blk_cell BK.out 1).trans rfl; have hcz_2 : w5.cell? ⟨gb, 2, none⟩ = some (.int .i32 0) := (blk_cell BK.out 2).trans rfl; have hcz_3 : w5.cell? ⟨gb, 3, none⟩ = some (.int .i32 0) := (blk_cell BK.out 3).trans rfl; have hcz_4 : w5.cell? ⟨gb, 4, none⟩ = some (.int .i32 0) := (blk_cell BK.out 4).trans rfl; have hfz_0 := blk_frozen BK.out 0; have hfz_1 := blk_frozen BK.out 1; have hfz_2 := blk_frozen BK.out 2; have hfz_3 := blk_frozen BK.out 3; have hfz_4 := blk_frozen BK.out 4))
  refine name_world (fun W => W.heap[gb]? = some (.cells #[.int .i32 0, .int .i32 0, .int .i32 192, .int .i32 224, .int .i32 240] 105 (0, 0)) ∧ Below w.heap.size w W) ⟨?bk, ?be⟩ (fun W ⟨BKW, HBW⟩ => ?_)
  case bk => (with_reducible repeat (first | refine bN ?_ _ | refine bD ?_ | refine bA ?_ _)); refine blk_put (cs := #[.int .i32 0, .int .i32 0, .int .i32 192, .int .i32 224, .int .i32 0]) ?_ 4 _ rfl; (with_reducible repeat (first | refine bN ?_ _ | refine bD ?_ | refine bA ?_ _)); refine blk_put (cs := #[.int .i32 0, .int .i32 0, .int .i32 192, .int .i32 0, .int .i32 0]) ?_ 3 _ rfl; (with_reducible repeat (first | refine bN ?_ _ | refine bD ?_ | refine bA ?_ _)); refine blk_put (cs := #[.int .i32 0, .int .i32 0, .int .i32 0, .int .i32 0, .int .i32 0]) ?_ 2 _ rfl; (with_reducible repeat (first | refine bN ?_ _ | refine bD ?_ | refine bA ?_ _)); refine blk_put (cs := #[.int .i32 0, .int .i32 0, .int .i32 0, .int .i32 0, .int .i32 0]) ?_ 1 _ rfl; (with_reducible repeat (first | refine bN ?_ _ | refine bD ?_ | refine bA ?_ _)); refine blk_put (cs := #[.int .i32 0, .int .i32 0, .int .i32 0, .int .i32 0, .int .i32 0]) ?_ 0 _ rfl; (with_reducible repeat (first | refine bN ?_ _ | refine bD ?_ | refine bA ?_ _)); exact BK.out
  case be => repeat (first | (with_reducible first | exact HB.out | apply wA | apply wN | apply wD | refine below_set ?_ GE.out) | exact HB.out)
  have hk2 : W.cell? ⟨gb, 2, none⟩ = some (.int .i32 192) := (blk_cell BKW 2).trans rfl
  have hk3 : W.cell? ⟨gb, 3, none⟩ = some (.int .i32 224) := (blk_cell BKW 3).trans rfl
  have hk4 : W.cell? ⟨gb, 4, none⟩ = some (.int .i32 240) := (blk_cell BKW 4).trans rfl
  have hxW0 := (HBW.cell (World.block_lt_of_cell? w _ hx0)).trans hx0
  have hxW1 := (HBW.cell (World.block_lt_of_cell? w _ hx1)).trans hx1
  have hxW2 := (HBW.cell (World.block_lt_of_cell? w _ hx2)).trans hx2
  have hxW3 := (HBW.cell (World.block_lt_of_cell? w _ hx3)).trans hx3
  clear HB BK
  go_wp2
  refine wp_loop_rounds 4 ?_
  rw [rounds_succ]
  go_wp2
  rw [rounds_succ]
  go_wp2
  rw [rounds_succ]
  go_wp2
  refine wp_loop_rounds 4 ?_
  rw [rounds_succ]
  go_wp2
  go_ret
  exact ⟨by first | rfl | (simp [*] <;> rfl), HBW⟩
set_option maxHeartbeats 8000000 in
set_option maxRecDepth 100000 in
theorem num4_lo2 (A0 : Option Addr) (c0 : Nat) (a b c d : Int) (w : World) (hr0 : Kd.C (Kd.int .u8) w A0 4 [a, b, c, d]) (hc0 : 4 ≤ c0) (ha : 0 ≤ a ∧ a < 256) (hb : 0 ≤ b ∧ b < 256) (hc : 0 ≤ c ∧ c < 256) (hd : 0 ≤ d ∧ d < 256) (p0 : ¬ a < 240) (p1 : ¬ 248 ≤ a) (p2 : ¬ b < 128) (p3 : ¬ 192 ≤ b) (p4 : c < 128) :
    Calls Tryd.prog 71 #[.slice A0 4 c0] w fun e w' => e = .returned (.int .i32 (-1)) ∧ Below w.heap.size w w' := by
  have HB := ak (Below.refl w.heap.size w)
  obtain ⟨ad, e0, hx0⟩ := Kd.at_int hr0 0 (by decide) (by decide)
  subst e0
  have hx0 : w.cell? ad = some (.int .u8 a) := by have h := hx0; simpa [rd, Addr.add] using h
  obtain ⟨ad1, e1, hx1⟩ := Kd.at_int hr0 1 (by decide) (by decide)
  obtain rfl := Option.some.inj e1
  have hx1 : w.cell? ⟨ad.block, ad.off + 1, none⟩ = some (.int .u8 b) := by have h := hx1; simpa [rd, Addr.add] using h
  obtain ⟨ad2, e2, hx2⟩ := Kd.at_int hr0 2 (by decide) (by decide)
  obtain rfl := Option.some.inj e2
  have hx2 : w.cell? ⟨ad.block, ad.off + 2, none⟩ = some (.int .u8 c) := by have h := hx2; simpa [rd, Addr.add] using h
  obtain ⟨ad3, e3, hx3⟩ := Kd.at_int hr0 3 (by decide) (by decide)
  obtain rfl := Option.some.inj e3
  have hx3 : w.cell? ⟨ad.block, ad.off + 3, none⟩ = some (.int .u8 d) := by have h := hx3; simpa [rd, Addr.add] using h
  have hw_a := fit32 (n := a) (by omega) (by omega)
  have hw_b := fit32 (n := b) (by omega) (by omega)
  have hw_c := fit32 (n := c) (by omega) (by omega)
  have hw_d := fit32 (n := d) (by omega) (by omega)
  have q0 := decide_eq_false p0
  have q1 := decide_eq_false p1
  have q2 := decide_eq_false p2
  have q3 := decide_eq_false p3
  have q4 := decide_eq_true p4
  have z0 := fit32 (n := a - 240) (by omega) (by omega)
  have z1a := fit32 (n := 64 * (a - 240)) (by omega) (by omega)
  have z1b := fit32 (n := 64 * (a - 240) + b) (by omega) (by omega)
  have z1c := fit32 (n := 64 * (a - 240) + b - 128) (by omega) (by omega)
  go_enter Tryd.func71, Tryd.ntmps71
  go_upto_region 3 with (first | ((with_reducible refine gate_dst (N := 4) rfl ?_); refine box_event ?hg (N := 4) ?hd (cs := #[.int .i32 0, .int .i32 0, .int .i32 0, .int .i32 0, .int .i32 0]) (t := 105) ?hr ?_; (case hd => rfl); (case hg => rfl); (case hr => first | (go_simp; done) | (go_simp; rfl)); intro gb hg w5 hbox hb; have n0_ := ak (below_step (by repeat (first | (with_reducible first | exact HB.out | apply wA | apply wN | apply wD) | exact HB.out)) hb); have n1_ := ak (hbox); have n3_ := ak ((by rw [hg]; exact (below_size (by repeat (first | (with_reducible first | exact HB.out | apply wA | apply wN | apply wD) | exact HB.out))) : w.heap.size ≤ gb)); clear HB; have HB := n0_; have BK := n1_; have GE := n3_; clear n0_ n1_ n3_; clear hb hbox hg; have hcz_0 : w5.cell? ⟨gb, 0, none⟩ = some (.int .i32 0) := (blk_cell BK.out 0).trans rfl; have hcz_1 : w5.cell? ⟨gb, 1, none⟩ = some (.int .i32 0) := (blk_cell BK.out 1).trans rfl; have hcz_2 : w5.cell? ⟨gb, 2, none⟩ = some (.int .i32 0) := (blk_cell BK.out 2).trans rfl; have hcz_3 : w5.cell? ⟨gb, 3, none⟩ = some (.int .i32 0) := (blk_cell BK.out 3).trans rfl; have hcz_4 : w5.cell? ⟨gb, 4, none⟩ = some (.int .i32 0) := (blk_cell BK.out 4).trans rfl; have hfz_0 := blk_frozen BK.out 0; have hfz_1 := blk_frozen BK.out 1; have hfz_2 := blk_frozen BK.out 2; have hfz_3 := blk_frozen BK.out 3; have hfz_4 := blk_frozen BK.out 4))
  refine name_world (fun W => W.heap[gb]? = some (.cells #[.int .i32 0, .int .i32 0, .int .i32 192, .int .i32 224, .int .i32 240] 105 (0, 0)) ∧ Below w.heap.size w W) ⟨?bk, ?be⟩ (fun W ⟨BKW, HBW⟩ => ?_)
  case bk => (with_reducible repeat (first | refine bN ?_ _ | refine bD ?_ | refine bA ?_ _)); refine blk_put (cs := #[.int .i32 0, .int .i32 0, .int .i32 192, .int .i32 224, .int .i32 0]) ?_ 4 _ rfl; (with_reducible repeat (first | refine bN ?_ _ | refine bD ?_ | refine bA ?_ _)); refine blk_put (cs := #[.int .i32 0, .int .i32 0, .int .i32 192, .int .i32 0, .int .i32 0]) ?_ 3 _ rfl; (with_reducible repeat (first | refine bN ?_ _ | refine bD ?_ | refine bA ?_ _)); refine blk_put (cs := #[.int .i32 0, .int .i32 0, .int .i32 0, .int .i32 0, .int .i32 0]) ?_ 2 _ rfl; (with_reducible repeat (first | refine bN ?_ _ | refine bD ?_ | refine bA ?_ _)); refine blk_put (cs := #[.int .i32 0, .int .i32 0, .int .i32 0, .int .i32 0, .int .i32 0]) ?_ 1 _ rfl; (with_reducible repeat (first | refine bN ?_ _ | refine bD ?_ | refine bA ?_ _)); refine blk_put (cs := #[.int .i32 0, .int .i32 0, .int .i32 0, .int .i32 0, .int .i32 0]) ?_ 0 _ rfl; (with_reducible repeat (first | refine bN ?_ _ | refine bD ?_ | refine bA ?_ _)); exact BK.out
  case be => repeat (first | (with_reducible first | exact HB.out | apply wA | apply wN | apply wD | refine below_set ?_ GE.out) | exact HB.out)
  have hk2 : W.cell? ⟨gb, 2, none⟩ = some (.int .i32 192) := (blk_cell BKW 2).trans rfl
  have hk3 : W.cell? ⟨gb, 3, none⟩ = some (.int .i32 224) := (blk_cell BKW 3).trans rfl
  have hk4 : W.cell? ⟨gb, 4, none⟩ = some (.int .i32 240) := (blk_cell BKW 4).trans rfl
  have hxW0 := (HBW.cell (World.block_lt_of_cell? w _ hx0)).trans hx0
  have hxW1 := (HBW.cell (World.block_lt_of_cell? w _ hx1)).trans hx1
  have hxW2 := (HBW.cell (World.block_lt_of_cell? w _ hx2)).trans hx2
  have hxW3 := (HBW.cell (World.block_lt_of_cell? w _ hx3)).trans hx3
  clear HB BK
  go_wp2
  refine wp_loop_rounds 4 ?_
  rw [rounds_succ]
  go_wp2
  rw [rounds_succ]
  go_wp2
  rw [rounds_succ]
  go_wp2
  refine wp_loop_rounds 4 ?_
  rw [rounds_succ]
  go_wp2
  rw [rounds_succ]
  go_wp2
  go_ret
  exact ⟨by first | rfl | (simp [*] <;> rfl), HBW⟩
set_option maxHeartbeats 8000000 in
set_option maxRecDepth 100000 in
theorem num4_hi2 (A0 : Option Addr) (c0 : Nat) (a b c d : Int) (w : World) (hr0 : Kd.C (Kd.int .u8) w A0 4 [a, b, c, d]) (hc0 : 4 ≤ c0) (ha : 0 ≤ a ∧ a < 256) (hb : 0 ≤ b ∧ b < 256) (hc : 0 ≤ c ∧ c < 256) (hd : 0 ≤ d ∧ d < 256) (p0 : ¬ a < 240) (p1 : ¬ 248 ≤ a) (p2 : ¬ b < 128) (p3 : ¬ 192 ≤ b) (p4 : ¬ c < 128) (p5 : 192 ≤ c) :
    Calls Tryd.prog 71 #[.slice A0 4 c0] w fun e w' => e = .returned (.int .i32 (-1)) ∧ Below w.heap.size w w' := by
  have HB := ak (Below.refl w.heap.size w)
  obtain ⟨ad, e0, hx0⟩ := Kd.at_int hr0 0 (by decide) (by decide)
  subst e0
  have hx0 : w.cell? ad = some (.int .u8 a) := by have h := hx0; simpa [rd, Addr.add] using h
  obtain ⟨ad1, e1, hx1⟩ := Kd.at_int hr0 1 (by decide) (by decide)
  obtain rfl := Option.some.inj e1
  have hx1 : w.cell? ⟨ad.block, ad.off + 1, none⟩ = some (.int .u8 b) := by have h := hx1; simpa [rd, Addr.add] using h
  obtain ⟨ad2, e2, hx2⟩ := Kd.at_int hr0 2 (by decide) (by decide)
  obtain rfl := Option.some.inj e2
  have hx2 : w.cell? ⟨ad.block, ad.off + 2, none⟩ = some (.int .u8 c) := by have h := hx2; simpa [rd, Addr.add] using h
  obtain ⟨ad3, e3, hx3⟩ := Kd.at_int hr0 3 (by decide) (by decide)
  obtain rfl := Option.some.inj e3
  have hx3 : w.cell? ⟨ad.block, ad.off + 3, none⟩ = some (.int .u8 d) := by have h := hx3; simpa [rd, Addr.add] using h
  have hw_a := fit32 (n := a) (by omega) (by omega)
  have hw_b := fit32 (n := b) (by omega) (by omega)
  have hw_c := fit32 (n := c) (by omega) (by omega)
  have hw_d := fit32 (n := d) (by omega) (by omega)
  have q0 := decide_eq_false p0
  have q1 := decide_eq_false p1
  have q2 := decide_eq_false p2
  have q3 := decide_eq_false p3
  have q4 := decide_eq_false p4
  have q5 := decide_eq_true p5
  have z0 := fit32 (n := a - 240) (by omega) (by omega)
  have z1a := fit32 (n := 64 * (a - 240)) (by omega) (by omega)
  have z1b := fit32 (n := 64 * (a - 240) + b) (by omega) (by omega)
  have z1c := fit32 (n := 64 * (a - 240) + b - 128) (by omega) (by omega)
  go_enter Tryd.func71, Tryd.ntmps71
  go_upto_region 3 with (first | ((with_reducible refine gate_dst (N := 4) rfl ?_); refine box_event ?hg (N := 4) ?hd (cs := #[.int .i32 0, .int .i32 0, .int .i32 0, .int .i32 0, .int .i32 0]) (t := 105) ?hr ?_; (case hd => rfl); (case hg => rfl); (case hr => first | (go_simp; done) | (go_simp; rfl)); intro gb hg w5 hbox hb; have n0_ := ak (below_step (by repeat (first | (with_reducible first | exact HB.out | apply wA | apply wN | apply wD) | exact HB.out)) hb); have n1_ := ak (hbox); have n3_ := ak ((by rw [hg]; exact (below_size (by repeat (first | (with_reducible first | exact HB.out | apply wA | apply wN | apply wD) | exact HB.out))) : w.heap.size ≤ gb)); clear HB; have HB := n0_; have BK := n1_; have GE := n3_; clear n0_ n1_ n3_; clear hb hbox hg; have hcz_0 : w5.cell? ⟨gb, 0, none⟩ = some (.int .i32 0) := (blk_cell BK.out 0).trans rfl; have hcz_1 : w5.cell? ⟨gb, 1, none⟩ = some (.int .i32 0) := (blk_cell BK.out 1).trans rfl; have hcz_2 : w5.cell? ⟨gb, 2, none⟩ = some (.int .i32 0) := (blk_cell BK.out 2).trans rfl; have hcz_3 : w5.cell? ⟨gb, 3, none⟩ = some (.int .i32 0) := (blk_cell BK.out 3).trans rfl; have hcz_4 : w5.cell? ⟨gb, 4, none⟩ = some (.int .i32 0) := (blk_cell BK.out 4).trans rfl; have hfz_0 := blk_frozen BK.out 0; have hfz_1 := blk_frozen BK.out 1; have hfz_2 := blk_frozen BK.out 2; have hfz_3 := blk_frozen BK.out 3; have hfz_4 := blk_frozen BK.out 4))
  refine name_world (fun W => W.heap[gb]? = some (.cells #[.int .i32 0, .int .i32 0, .int .i32 192, .int .i32 224, .int .i32 240] 105 (0, 0)) ∧ Below w.heap.size w W) ⟨?bk, ?be⟩ (fun W ⟨BKW, HBW⟩ => ?_)
  case bk => (with_reducible repeat (first | refine bN ?_ _ | refine bD ?_ | refine bA ?_ _)); refine blk_put (cs := #[.int .i32 0, .int .i32 0, .int .i32 192, .int .i32 224, .int .i32 0]) ?_ 4 _ rfl; (with_reducible repeat (first | refine bN ?_ _ | refine bD ?_ | refine bA ?_ _)); refine blk_put (cs := #[.int .i32 0, .int .i32 0, .int .i32 192, .int .i32 0, .int .i32 0]) ?_ 3 _ rfl; (with_reducible repeat (first | refine bN ?_ _ | refine bD ?_ | refine bA ?_ _)); refine blk_put (cs := #[.int .i32 0, .int .i32 0, .int .i32 0, .int .i32 0, .int .i32 0]) ?_ 2 _ rfl; (with_reducible repeat (first | refine bN ?_ _ | refine bD ?_ | refine bA ?_ _)); refine blk_put (cs := #[.int .i32 0, .int .i32 0, .int .i32 0, .int .i32 0, .int .i32 0]) ?_ 1 _ rfl; (with_reducible repeat (first | refine bN ?_ _ | refine bD ?_ | refine bA ?_ _)); refine blk_put (cs := #[.int .i32 0, .int .i32 0, .int .i32 0, .int .i32 0, .int .i32 0]) ?_ 0 _ rfl; (with_reducible repeat (first | refine bN ?_ _ | refine bD ?_ | refine bA ?_ _)); exact BK.out
  case be => repeat (first | (with_reducible first | exact HB.out | apply wA | apply wN | apply wD | refine below_set ?_ GE.out) | exact HB.out)
  have hk2 : W.cell? ⟨gb, 2, none⟩ = some (.int .i32 192) := (blk_cell BKW 2).trans rfl
  have hk3 : W.cell? ⟨gb, 3, none⟩ = some (.int .i32 224) := (blk_cell BKW 3).trans rfl
  have hk4 : W.cell? ⟨gb, 4, none⟩ = some (.int .i32 240) := (blk_cell BKW 4).trans rfl
  have hxW0 := (HBW.cell (World.block_lt_of_cell? w _ hx0)).trans hx0
  have hxW1 := (HBW.cell (World.block_lt_of_cell? w _ hx1)).trans hx1
  have hxW2 := (HBW.cell (World.block_lt_of_cell? w _ hx2)).trans hx2
  have hxW3 := (HBW.cell (World.block_lt_of_cell? w _ hx3)).trans hx3
  clear HB BK
  go_wp2
  refine wp_loop_rounds 4 ?_
  rw [rounds_succ]
  go_wp2
  rw [rounds_succ]
  go_wp2
  rw [rounds_succ]
  go_wp2
  refine wp_loop_rounds 4 ?_
  rw [rounds_succ]
  go_wp2
  rw [rounds_succ]
  go_wp2
  go_ret
  exact ⟨by first | rfl | (simp [*] <;> rfl), HBW⟩
set_option maxHeartbeats 8000000 in
set_option maxRecDepth 100000 in
theorem num4_lo3 (A0 : Option Addr) (c0 : Nat) (a b c d : Int) (w : World) (hr0 : Kd.C (Kd.int .u8) w A0 4 [a, b, c, d]) (hc0 : 4 ≤ c0) (ha : 0 ≤ a ∧ a < 256) (hb : 0 ≤ b ∧ b < 256) (hc : 0 ≤ c ∧ c < 256) (hd : 0 ≤ d ∧ d < 256) (p0 : ¬ a < 240) (p1 : ¬ 248 ≤ a) (p2 : ¬ b < 128) (p3 : ¬ 192 ≤ b) (p4 : ¬ c < 128) (p5 : ¬ 192 ≤ c) (p6 : d < 128) :
    Calls Tryd.prog 71 #[.slice A0 4 c0] w fun e w' => e = .returned (.int .i32 (-1)) ∧ Below w.heap.size w w' := by
  have HB := ak (Below.refl w.heap.size w)
  obtain ⟨ad, e0, hx0⟩ := Kd.at_int hr0 0 (by decide) (by decide)
  subst e0
  have hx0 : w.cell? ad = some (.int .u8 a) := by have h := hx0; simpa [rd, Addr.add] using h
  obtain ⟨ad1, e1, hx1⟩ := Kd.at_int hr0 1 (by decide) (by decide)
  obtain rfl := Option.some.inj e1
  have hx1 : w.cell? ⟨ad.block, ad.off + 1, none⟩ = some (.int .u8 b) := by have h := hx1; simpa [rd, Addr.add] using h
  obtain ⟨ad2, e2, hx2⟩ := Kd.at_int hr0 2 (by decide) (by decide)
  obtain rfl := Option.some.inj e2
  have hx2 : w.cell? ⟨ad.block, ad.off + 2, none⟩ = some (.int .u8 c) := by have h := hx2; simpa [rd, Addr.add] using h
  obtain ⟨ad3, e3, hx3⟩ := Kd.at_int hr0 3 (by decide) (by decide)
  obtain rfl := Option.some.inj e3
  have hx3 : w.cell? ⟨ad.block, ad.off + 3, none⟩ = some (.int .u8 d) := by have h := hx3; simpa [rd, Addr.add] using h
  have hw_a := fit32 (n := a) (by omega) (by omega)
  have hw_b := fit32 (n := b) (by omega) (by omega)
  have hw_c := fit32 (n := c) (by omega) (by omega)
  have hw_d := fit32 (n := d) (by omega) (by omega)
  have q0 := decide_eq_false p0
  have q1 := decide_eq_false p1
  have q2 := decide_eq_false p2
  have q3 := decide_eq_false p3
  have q4 := decide_eq_false p4
  have q5 := decide_eq_false p5
  have q6 := decide_eq_true p6
  have z0 := fit32 (n := a - 240) (by omega) (by omega)
  have z1a := fit32 (n := 64 * (a - 240)) (by omega) (by omega)
  have z1b := fit32 (n := 64 * (a - 240) + b) (by omega) (by omega)
  have z1c := fit32 (n := 64 * (a - 240) + b - 128) (by omega) (by omega)
  have z2a := fit32 (n := 64 * (64 * (a - 240) + b - 128)) (by omega) (by omega)
  have z2b := fit32 (n := 64 * (64 * (a - 240) + b - 128) + c) (by omega) (by omega)
  have z2c := fit32 (n := 64 * (64 * (a - 240) + b - 128) + c - 128) (by omega) (by omega)
  go_enter Tryd.func71, Tryd.ntmps71
  go_upto_region 3 with (first | ((with_reducible refine gate_dst (N := 4) rfl ?_); refine box_event ?hg (N := 4) ?hd (cs := #[.int .i32 0, .int .i32 0, .int .i32 0, .int .i32 0, .int .i32 0]) (t := 105) ?hr ?_; (case hd => rfl); (case hg => rfl); (case hr => first | (go_simp; done) | (go_simp; rfl)); intro gb hg w5 hbox hb; have n0_ := ak (below_step (by repeat (first | (with_reducible first | exact HB.out | apply wA | apply wN | apply wD) | exact HB.out)) hb); have n1_ := ak (hbox); have n3_ := ak ((by rw [hg]; exact (below_size (by repeat (first | (with_reducible first | exact HB.out | apply wA | apply wN | apply wD) | exact HB.out))) : w.heap.size ≤ gb)); clear HB; have HB := n0_; have BK := n1_; have GE := n3_; clear n0_ n1_ n3_; clear hb hbox hg; have hcz_0 : w5.cell? ⟨gb, 0, none⟩ = some (.int .i32 0) := (blk_cell BK.out 0).trans rfl; have hcz_1 : w5.cell? ⟨gb, 1, none⟩ = some (.int .i32 0) := (blk_cell BK.out 1).trans rfl; have hcz_2 : w5.cell? ⟨gb, 2, none⟩ = some (.int .i32 0) := (blk_cell BK.out 2).trans rfl; have hcz_3 : w5.cell? ⟨gb, 3, none⟩ = some (.int .i32 0) := (blk_cell BK.out 3).trans rfl; have hcz_4 : w5.cell? ⟨gb, 4, none⟩ = some (.int .i32 0) := (blk_cell BK.out 4).trans rfl; have hfz_0 := blk_frozen BK.out 0; have hfz_1 := blk_frozen BK.out 1; have hfz_2 := blk_frozen BK.out 2; have hfz_3 := blk_frozen BK.out 3; have hfz_4 := blk_frozen BK.out 4))
  refine name_world (fun W => W.heap[gb]? = some (.cells #[.int .i32 0, .int .i32 0, .int .i32 192, .int .i32 224, .int .i32 240] 105 (0, 0)) ∧ Below w.heap.size w W) ⟨?bk, ?be⟩ (fun W ⟨BKW, HBW⟩ => ?_)
  case bk => (with_reducible repeat (first | refine bN ?_ _ | refine bD ?_ | refine bA ?_ _)); refine blk_put (cs := #[.int .i32 0, .int .i32 0, .int .i32 192, .int .i32 224, .int .i32 0]) ?_ 4 _ rfl; (with_reducible repeat (first | refine bN ?_ _ | refine bD ?_ | refine bA ?_ _)); refine blk_put (cs := #[.int .i32 0, .int .i32 0, .int .i32 192, .int .i32 0, .int .i32 0]) ?_ 3 _ rfl; (with_reducible repeat (first | refine bN ?_ _ | refine bD ?_ | refine bA ?_ _)); refine blk_put (cs := #[.int .i32 0, .int .i32 0, .int .i32 0, .int .i32 0, .int .i32 0]) ?_ 2 _ rfl; (with_reducible repeat (first | refine bN ?_ _ | refine bD ?_ | refine bA ?_ _)); refine blk_put (cs := #[.int .i32 0, .int .i32 0, .int .i32 0, .int .i32 0, .int .i32 0]) ?_ 1 _ rfl; (with_reducible repeat (first | refine bN ?_ _ | refine bD ?_ | refine bA ?_ _)); refine blk_put (cs := #[.int .i32 0, .int .i32 0, .int .i32 0, .int .i32 0, .int .i32 0]) ?_ 0 _ rfl; (with_reducible repeat (first | refine bN ?_ _ | refine bD ?_ | refine bA ?_ _)); exact BK.out
  case be => repeat (first | (with_reducible first | exact HB.out | apply wA | apply wN | apply wD | refine below_set ?_ GE.out) | exact HB.out)
  have hk2 : W.cell? ⟨gb, 2, none⟩ = some (.int .i32 192) := (blk_cell BKW 2).trans rfl
  have hk3 : W.cell? ⟨gb, 3, none⟩ = some (.int .i32 224) := (blk_cell BKW 3).trans rfl
  have hk4 : W.cell? ⟨gb, 4, none⟩ = some (.int .i32 240) := (blk_cell BKW 4).trans rfl
  have hxW0 := (HBW.cell (World.block_lt_of_cell? w _ hx0)).trans hx0
  have hxW1 := (HBW.cell (World.block_lt_of_cell? w _ hx1)).trans hx1
  have hxW2 := (HBW.cell (World.block_lt_of_cell? w _ hx2)).trans hx2
  have hxW3 := (HBW.cell (World.block_lt_of_cell? w _ hx3)).trans hx3
  clear HB BK
  go_wp2
  refine wp_loop_rounds 4 ?_
  rw [rounds_succ]
  go_wp2
  rw [rounds_succ]
  go_wp2
  rw [rounds_succ]
  go_wp2
  refine wp_loop_rounds 4 ?_
  rw [rounds_succ]
  go_wp2
  rw [rounds_succ]
  go_wp2
  rw [rounds_succ]
  go_wp2
  go_ret
  exact ⟨by first | rfl | (simp [*] <;> rfl), HBW⟩
set_option maxHeartbeats 8000000 in
set_option maxRecDepth 100000 in
theorem num4_hi3 (A0 : Option Addr) (c0 : Nat) (a b c d : Int) (w : World) (hr0 : Kd.C (Kd.int .u8) w A0 4 [a, b, c, d]) (hc0 : 4 ≤ c0) (ha : 0 ≤ a ∧ a < 256) (hb : 0 ≤ b ∧ b < 256) (hc : 0 ≤ c ∧ c < 256) (hd : 0 ≤ d ∧ d < 256) (p0 : ¬ a < 240) (p1 : ¬ 248 ≤ a) (p2 : ¬ b < 128) (p3 : ¬ 192 ≤ b) (p4 : ¬ c < 128) (p5 : ¬ 192 ≤ c) (p6 : ¬ d < 128) (p7 : 192 ≤ d) :
    Calls Tryd.prog 71 #[.slice A0 4 c0] w fun e w' => e = .returned (.int .i32 (-1)) ∧ Below w.heap.size w w' := by
  have HB := ak (Below.refl w.heap.size w)
  obtain ⟨ad, e0, hx0⟩ := Kd.at_int hr0 0 (by decide) (by decide)
  subst e0
  have hx0 : w.cell? ad = some (.int .u8 a) := by have h := hx0; simpa [rd, Addr.add] using h
  obtain ⟨ad1, e1, hx1⟩ := Kd.at_int hr0 1 (by decide) (by decide)
  obtain rfl := Option.some.inj e1
  have hx1 : w.cell? ⟨ad.block, ad.off + 1, none⟩ = some (.int .u8 b) := by have h := hx1; simpa [rd, Addr.add] using h
  obtain ⟨ad2, e2, hx2⟩ := Kd.at_int hr0 2 (by decide) (by decide)
  obtain rfl := Option.some.inj e2
  have hx2 : w.cell? ⟨ad.block, ad.off + 2, none⟩ = some (.int .u8 c) := by have h := hx2; simpa [rd, Addr.add] using h
  obtain ⟨ad3, e3, hx3⟩ := Kd.at_int hr0 3 (by decide) (by decide)
  obtain rfl := Option.some.inj e3
  have hx3 : w.cell? ⟨ad.block, ad.off + 3, none⟩ = some (.int .u8 d) := by have h := hx3; simpa [rd, Addr.add] using h
  have hw_a := fit32 (n := a) (by omega) (by omega)
  have hw_b := fit32 (n := b) (by omega) (by omega)
  have hw_c := fit32 (n := c) (by omega) (by omega)
  have hw_d := fit32 (n := d) (by omega) (by omega)
  have q0 := decide_eq_false p0
  have q1 := decide_eq_false p1
  have q2 := decide_eq_false p2
  have q3 := decide_eq_false p3
  have q4 := decide_eq_false p4
  have q5 := decide_eq_false p5
  have q6 := decide_eq_false p6
  have q7 := decide_eq_true p7
  have z0 := fit32 (n := a - 240) (by omega) (by omega)
  have z1a := fit32 (n := 64 * (a - 240)) (by omega) (by omega)
  have z1b := fit32 (n := 64 * (a - 240) + b) (by omega) (by omega)
  have z1c := fit32 (n := 64 * (a - 240) + b - 128) (by omega) (by omega)
  have z2a := fit32 (n := 64 * (64 * (a - 240) + b - 128)) (by omega) (by omega)
  have z2b := fit32 (n := 64 * (64 * (a - 240) + b - 128) + c) (by omega) (by omega)
  have z2c := fit32 (n := 64 * (64 * (a - 240) + b - 128) + c - 128) (by omega) (by omega)
  go_enter Tryd.func71, Tryd.ntmps71
  go_upto_region 3 with (first | ((with_reducible refine gate_dst (N := 4) rfl ?_); refine box_event ?hg (N := 4) ?hd (cs := #[.int .i32 0, .int .i32 0, .int .i32 0, .int .i32 0, .int .i32 0]) (t := 105) ?hr ?_; (case hd => rfl); (case hg => rfl); (case hr => first | (go_simp; done) | (go_simp; rfl)); intro gb hg w5 hbox hb; have n0_ := ak (below_step (by repeat (first | (with_reducible first | exact HB.out | apply wA | apply wN | apply wD) | exact HB.out)) hb); have n1_ := ak (hbox); have n3_ := ak ((by rw [hg]; exact (below_size (by repeat (first | (with_reducible first | exact HB.out | apply wA | apply wN | apply wD) | exact HB.out))) : w.heap.size ≤ gb)); clear HB; have HB := n0_; have BK := n1_; have GE := n3_; clear n0_ n1_ n3_; clear hb hbox hg; have hcz_0 : w5.cell? ⟨gb, 0, none⟩ = some (.int .i32 0) := (blk_cell BK.out 0).trans rfl; have hcz_1 : w5.cell? ⟨gb, 1, none⟩ = some (.int .i32 0) := (blk_cell BK.out 1).trans rfl; have hcz_2 : w5.cell? ⟨gb, 2, none⟩ = some (.int .i32 0) := (blk_cell BK.out 2).trans rfl; have hcz_3 : w5.cell? ⟨gb, 3, none⟩ = some (.int .i32 0) := (blk_cell BK.out 3).trans rfl; have hcz_4 : w5.cell? ⟨gb, 4, none⟩ = some (.int .i32 0) := (blk_cell BK.out 4).trans rfl; have hfz_0 := blk_frozen BK.out 0; have hfz_1 := blk_frozen BK.out 1; have hfz_2 := blk_frozen BK.out 2; have hfz_3 := blk_frozen BK.out 3; have hfz_4 := blk_frozen BK.out 4))
  refine name_world (fun W => W.heap[gb]? = some (.cells #[.int .i32 0, .int .i32 0, .int .i32 192, .int .i32 224, .int .i32 240] 105 (0, 0)) ∧ Below w.heap.size w W) ⟨?bk, ?be⟩ (fun W ⟨BKW, HBW⟩ => ?_)
  case bk => (with_reducible repeat (first | refine bN ?_ _ | refine bD ?_ | refine bA ?_ _)); refine blk_put (cs := #[.int .i32 0, .int .i32 0, .int .i32 192, .int .i32 224, .int .i32 0]) ?_ 4 _ rfl; (with_reducible repeat (first | refine bN ?_ _ | refine bD ?_ | refine bA ?_ _)); refine blk_put (cs := #[.int .i32 0, .int .i32 0, .int .i32 192, .int .i32 0, .int .i32 0]) ?_ 3 _ rfl; (with_reducible repeat (first | refine bN ?_ _ | refine bD ?_ | refine bA ?_ _)); refine blk_put (cs := #[.int .i32 0, .int .i32 0, .int .i32 0, .int .i32 0, .int .i32 0]) ?_ 2 _ rfl; (with_reducible repeat (first | refine bN ?_ _ | refine bD ?_ | refine bA ?_ _)); refine blk_put (cs := #[.int .i32 0, .int .i32 0, .int .i32 0, .int .i32 0, .int .i32 0]) ?_ 1 _ rfl; (with_reducible repeat (first | refine bN ?_ _ | refine bD ?_ | refine bA ?_ _)); refine blk_put (cs := #[.int .i32 0, .int .i32 0, .int .i32 0, .int .i32 0, .int .i32 0]) ?_ 0 _ rfl; (with_reducible repeat (first | refine bN ?_ _ | refine bD ?_ | refine bA ?_ _)); exact BK.out
  case be => repeat (first | (with_reducible first | exact HB.out | apply wA | apply wN | apply wD | refine below_set ?_ GE.out) | exact HB.out)
  have hk2 : W.cell? ⟨gb, 2, none⟩ = some (.int .i32 192) := (blk_cell BKW 2).trans rfl
  have hk3 : W.cell? ⟨gb, 3, none⟩ = some (.int .i32 224) := (blk_cell BKW 3).trans rfl
  have hk4 : W.cell? ⟨gb, 4, none⟩ = some (.int .i32 240) := (blk_cell BKW 4).trans rfl
  have hxW0 := (HBW.cell (World.block_lt_of_cell? w _ hx0)).trans hx0
  have hxW1 := (HBW.cell (World.block_lt_of_cell? w _ hx1)).trans hx1
  have hxW2 := (HBW.cell (World.block_lt_of_cell? w _ hx2)).trans hx2
  have hxW3 := (HBW.cell (World.block_lt_of_cell? w _ hx3)).trans hx3
  clear HB BK
  go_wp2
  refine wp_loop_rounds 4 ?_
  rw [rounds_succ]
  go_wp2
  rw [rounds_succ]
  go_wp2
  rw [rounds_succ]
  go_wp2
  refine wp_loop_rounds 4 ?_
  rw [rounds_succ]
  go_wp2
  rw [rounds_succ]
  go_wp2
  rw [rounds_succ]
  go_wp2
  go_ret
  exact ⟨by first | rfl | (simp [*] <;> rfl), HBW⟩
set_option maxHeartbeats 8000000 in
set_option maxRecDepth 100000 in
theorem num4_all (A0 : Option Addr) (c0 : Nat) (a b c d : Int) (w : World) (hr0 : Kd.C (Kd.int .u8) w A0 4 [a, b, c, d]) (hc0 : 4 ≤ c0) (ha : 0 ≤ a ∧ a < 256) (hb : 0 ≤ b ∧ b < 256) (hc : 0 ≤ c ∧ c < 256) (hd : 0 ≤ d ∧ d < 256) (p0 : ¬ a < 240) (p1 : ¬ 248 ≤ a) (p2 : ¬ b < 128) (p3 : ¬ 192 ≤ b) (p4 : ¬ c < 128) (p5 : ¬ 192 ≤ c) (p6 : ¬ d < 128) (p7 : ¬ 192 ≤ d) :
    Calls Tryd.prog 71 #[.slice A0 4 c0] w fun e w' => e = .returned (.int .i32 ((64 * (64 * (64 * (a - 240) + b - 128) + c - 128) + d - 128))) ∧ Below w.heap.size w w' := by
  have HB := ak (Below.refl w.heap.size w)
  obtain ⟨ad, e0, hx0⟩ := Kd.at_int hr0 0 (by decide) (by decide)
  subst e0
  have hx0 : w.cell? ad = some (.int .u8 a) := by have h := hx0; simpa [rd, Addr.add] using h
  obtain ⟨ad1, e1, hx1⟩ := Kd.at_int hr0 1 (by decide) (by decide)
  obtain rfl := Option.some.inj e1
  have hx1 : w.cell? ⟨ad.block, ad.off + 1, none⟩ = some (.int .u8 b) := by have h := hx1; simpa [rd, Addr.add] using h
  obtain ⟨ad2, e2, hx2⟩ := Kd.at_int hr0 2 (by decide) (by decide)
  obtain rfl := Option.some.inj e2
  have hx2 : w.cell? ⟨ad.block, ad.off + 2, none⟩ = some (.int .u8 c) := by have h := hx2; simpa [rd, Addr.add] using h
  obtain ⟨ad3, e3, hx3⟩ := Kd.at_int hr0 3 (by decide) (by decide)
  obtain rfl := Option.some.inj e3
  have hx3 : w.cell? ⟨ad.block, ad.off + 3, none⟩ = some (.int .u8 d) := by have h := hx3; simpa [rd, Addr.add] using h
  have hw_a := fit32 (n := a) (by omega) (by omega)
  have hw_b := fit32 (n := b) (by omega) (by omega)
  have hw_c := fit32 (n := c) (by omega) (by omega)
  have hw_d := fit32 (n := d) (by omega) (by omega)
  have q0 := decide_eq_false p0
  have q1 := decide_eq_false p1
  have q2 := decide_eq_false p2
  have q3 := decide_eq_false p3
  have q4 := decide_eq_false p4
  have q5 := decide_eq_false p5
  have q6 := decide_eq_false p6
  have q7 := decide_eq_false p7
  have z0 := fit32 (n := a - 240) (by omega) (by omega)
  have z1a := fit32 (n := 64 * (a - 240)) (by omega) (by omega)
  have z1b := fit32 (n := 64 * (a - 240) + b) (by omega) (by omega)
  have z1c := fit32 (n := 64 * (a - 240) + b - 128) (by omega) (by omega)
  have z2a := fit32 (n := 64 * (64 * (a - 240) + b - 128)) (by omega) (by omega)
  have z2b := fit32 (n := 64 * (64 * (a - 240) + b - 128) + c) (by omega) (by omega)
  have z2c := fit32 (n := 64 * (64 * (a - 240) + b - 128) + c - 128) (by omega) (by omega)
  have z3a := fit32 (n := 64 * (64 * (64 * (a - 240) + b - 128) + c - 128)) (by omega) (by omega)
  have z3b := fit32 (n := 64 * (64 * (64 * (a - 240) + b - 128) + c - 128) + d) (by omega) (by omega)
  have z3c := fit32 (n := 64 * (64 * (64 * (a - 240) + b - 128) + c - 128) + d - 128) (by omega) (by omega)
  go_enter Tryd.func71, Tryd.ntmps71
  go_upto_region 3 with (first | ((with_reducible refine gate_dst (N := 4) rfl ?_); refine box_event ?hg (N := 4) ?hd (cs := #[.int .i32 0, .int .i32 0, .int .i32 0, .int .i32 0, .int .i32 0]) (t := 105) ?hr ?_; (case hd => rfl); (case hg => rfl); (case hr => first | (go_simp; done) | (go_simp; rfl)); intro gb hg w5 hbox hb; have n0_ := ak (below_step (by repeat (first | (with_reducible first | exact HB.out | apply wA | apply wN | apply wD) | exact HB.out)) hb); have n1_ := ak (hbox); have n3_ := ak ((by rw [hg]; exact (below_size (by repeat (first | (with_reducible first | exact HB.out | apply wA | apply wN | apply wD) | exact HB.out))) : w.heap.size ≤ gb)); clear HB; have HB := n0_; have BK := n1_; have GE := n3_; clear n0_ n1_ n3_; clear hb hbox hg; have hcz_0 : w5.cell? ⟨gb, 0, none⟩ = some (.int .i32 0) := (blk_cell BK.out 0).trans rfl; have hcz_1 : w5.cell? ⟨gb, 1, none⟩ = some (.int .i32 0) := (blk_cell BK.out 1).trans rfl; have hcz_2 : w5.cell? ⟨gb, 2, none⟩ = some (.int .i32 0) := (blk_cell BK.out 2).trans rfl; have hcz_3 : w5.cell? ⟨gb, 3, none⟩ = some (.int .i32 0) := (blk_cell BK.out 3).trans rfl; have hcz_4 : w5.cell? ⟨gb, 4, none⟩ = some (.int .i32 0) := (blk_cell BK.out 4).trans rfl; have hfz_0 := blk_frozen BK.out 0; have hfz_1 := blk_frozen BK.out 1; have hfz_2 := blk_frozen BK.out 2; have hfz_3 := blk_frozen BK.out 3; have hfz_4 := blk_frozen BK.out 4))
  refine name_world (fun W => W.heap[gb]? = some (.cells #[.int .i32 0, .int .i32 0, .int .i32 192, .int .i32 224, .int .i32 240] 105 (0, 0)) ∧ Below w.heap.size w W) ⟨?bk, ?be⟩ (fun W ⟨BKW, HBW⟩ => ?_)
  case bk => (with_reducible repeat (first | refine bN ?_ _ | refine bD ?_ | refine bA ?_ _)); refine blk_put (cs := #[.int .i32 0, .int .i32 0, .int .i32 192, .int .i32 224, .int .i32 0]) ?_ 4 _ rfl; (with_reducible repeat (first | refine bN ?_ _ | refine bD ?_ | refine bA ?_ _)); refine blk_put (cs := #[.int .i32 0, .int .i32 0, .int .i32 192, .int .i32 0, .int .i32 0]) ?_ 3 _ rfl; (with_reducible repeat (first | refine bN ?_ _ | refine bD ?_ | refine bA ?_ _)); refine blk_put (cs := #[.int .i32 0, .int .i32 0, .int .i32 0, .int .i32 0, .int .i32 0]) ?_ 2 _ rfl; (with_reducible repeat (first | refine bN ?_ _ | refine bD ?_ | refine bA ?_ _)); refine blk_put (cs := #[.int .i32 0, .int .i32 0, .int .i32 0, .int .i32 0, .int .i32 0]) ?_ 1 _ rfl; (with_reducible repeat (first | refine bN ?_ _ | refine bD ?_ | refine bA ?_ _)); refine blk_put (cs := #[.int .i32 0, .int .i32 0, .int .i32 0, .int .i32 0, .int .i32 0]) ?_ 0 _ rfl; (with_reducible repeat (first | refine bN ?_ _ | refine bD ?_ | refine bA ?_ _)); exact BK.out
  case be => repeat (first | (with_reducible first | exact HB.out | apply wA | apply wN | apply wD | refine below_set ?_ GE.out) | exact HB.out)
  have hk2 : W.cell? ⟨gb, 2, none⟩ = some (.int .i32 192) := (blk_cell BKW 2).trans rfl
  have hk3 : W.cell? ⟨gb, 3, none⟩ = some (.int .i32 224) := (blk_cell BKW 3).trans rfl
  have hk4 : W.cell? ⟨gb, 4, none⟩ = some (.int .i32 240) := (blk_cell BKW 4).trans rfl
  have hxW0 := (HBW.cell (World.block_lt_of_cell? w _ hx0)).trans hx0
  have hxW1 := (HBW.cell (World.block_lt_of_cell? w _ hx1)).trans hx1
  have hxW2 := (HBW.cell (World.block_lt_of_cell? w _ hx2)).trans hx2
  have hxW3 := (HBW.cell (World.block_lt_of_cell? w _ hx3)).trans hx3
  clear HB BK
  go_wp2
  refine wp_loop_rounds 4 ?_
  rw [rounds_succ]
  go_wp2
  rw [rounds_succ]
  go_wp2
  rw [rounds_succ]
  go_wp2
  refine wp_loop_rounds 4 ?_
  rw [rounds_succ]
  go_wp2
  rw [rounds_succ]
  go_wp2
  rw [rounds_succ]
  go_wp2
  rw [rounds_succ]
  go_wp2
  go_ret
  exact ⟨by first | rfl | (simp [*] <;> rfl), HBW⟩
def mummerref02_number.f : List Int → Option Int
  | [a] => if (0 ≤ a ∧ a < 256) then some (if a < 128 then a else -1) else none
  | [a, b] => if (0 ≤ a ∧ a < 256) ∧ (0 ≤ b ∧ b < 256) then some (if a < 192 then -1 else (if 224 ≤ a then -1 else (if b < 128 then -1 else (if 192 ≤ b then -1 else (64 * (a - 192) + b - 128))))) else none
  | [a, b, c] => if (0 ≤ a ∧ a < 256) ∧ (0 ≤ b ∧ b < 256) ∧ (0 ≤ c ∧ c < 256) then some (if a < 224 then -1 else (if 240 ≤ a then -1 else (if b < 128 then -1 else (if 192 ≤ b then -1 else (if c < 128 then -1 else (if 192 ≤ c then -1 else (64 * (64 * (a - 224) + b - 128) + c - 128))))))) else none
  | [a, b, c, d] => if (0 ≤ a ∧ a < 256) ∧ (0 ≤ b ∧ b < 256) ∧ (0 ≤ c ∧ c < 256) ∧ (0 ≤ d ∧ d < 256) then some (if a < 240 then -1 else (if 248 ≤ a then -1 else (if b < 128 then -1 else (if 192 ≤ b then -1 else (if c < 128 then -1 else (if 192 ≤ c then -1 else (if d < 128 then -1 else (if 192 ≤ d then -1 else (64 * (64 * (64 * (a - 240) + b - 128) + c - 128) + d - 128))))))))) else none
  | _ => none
theorem mummerref02_number.calls (A0 : Option Addr) (c0 : Nat) (l0 : List Int) (r : Int) (w : World) (hr0 : Kd.C (Kd.int .u8) w A0 l0.length l0) (hc0 : l0.length ≤ c0) (h : mummerref02_number.f l0 = some r) :
    Calls Tryd.prog 71 #[.slice A0 l0.length c0] w fun e w' => e = .returned (.int .i32 r) ∧ Below w.heap.size w w' := by
  match l0, hr0, hc0, h with
  | [], _, _, h => cases h
  | _ :: _ :: _ :: _ :: _ :: _, _, _, h => cases h
  | [a], hr0, hc0, h =>
    simp only [mummerref02_number.f] at h
    by_cases hb : (0 ≤ a ∧ a < 256)
    · rw [if_pos hb] at h
      obtain rfl := Option.some.inj h
      have ha := hb
      by_cases p0 : a < 128
      · rw [if_pos p0]; exact num1_lo A0 c0 a w hr0 hc0 ha p0
      · rw [if_neg p0]; exact num1_hi A0 c0 a w hr0 hc0 ha p0
    · rw [if_neg hb] at h; cases h
  | [a, b], hr0, hc0, h =>
    simp only [mummerref02_number.f] at h
    by_cases hb : (0 ≤ a ∧ a < 256) ∧ (0 ≤ b ∧ b < 256)
    · rw [if_pos hb] at h
      obtain rfl := Option.some.inj h
      obtain ⟨ha, hb⟩ := hb
      by_cases p0 : a < 192
      · rw [if_pos p0]; exact num2_below A0 c0 a b w hr0 hc0 ha hb p0
      rw [if_neg p0]
      by_cases p1 : 224 ≤ a
      · rw [if_pos p1]; exact num2_above A0 c0 a b w hr0 hc0 ha hb p0 p1
      rw [if_neg p1]
      by_cases u1 : b < 128
      · rw [if_pos u1]; exact num2_lo1 A0 c0 a b w hr0 hc0 ha hb p0 p1 u1
      rw [if_neg u1]
      by_cases v1 : 192 ≤ b
      · rw [if_pos v1]; exact num2_hi1 A0 c0 a b w hr0 hc0 ha hb p0 p1 u1 v1
      rw [if_neg v1]
      exact num2_all A0 c0 a b w hr0 hc0 ha hb p0 p1 u1 v1
    · rw [if_neg hb] at h; cases h
  | [a, b, c], hr0, hc0, h =>
    simp only [mummerref02_number.f] at h
    by_cases hb : (0 ≤ a ∧ a < 256) ∧ (0 ≤ b ∧ b < 256) ∧ (0 ≤ c ∧ c < 256)
    · rw [if_pos hb] at h
      obtain rfl := Option.some.inj h
      obtain ⟨ha, hb, hc⟩ := hb
      by_cases p0 : a < 224
      · rw [if_pos p0]; exact num3_below A0 c0 a b c w hr0 hc0 ha hb hc p0
      rw [if_neg p0]
      by_cases p1 : 240 ≤ a
      · rw [if_pos p1]; exact num3_above A0 c0 a b c w hr0 hc0 ha hb hc p0 p1
      rw [if_neg p1]
      by_cases u1 : b < 128
      · rw [if_pos u1]; exact num3_lo1 A0 c0 a b c w hr0 hc0 ha hb hc p0 p1 u1
      rw [if_neg u1]
      by_cases v1 : 192 ≤ b
      · rw [if_pos v1]; exact num3_hi1 A0 c0 a b c w hr0 hc0 ha hb hc p0 p1 u1 v1
      rw [if_neg v1]
      by_cases u2 : c < 128
      · rw [if_pos u2]; exact num3_lo2 A0 c0 a b c w hr0 hc0 ha hb hc p0 p1 u1 v1 u2
      rw [if_neg u2]
      by_cases v2 : 192 ≤ c
      · rw [if_pos v2]; exact num3_hi2 A0 c0 a b c w hr0 hc0 ha hb hc p0 p1 u1 v1 u2 v2
      rw [if_neg v2]
      exact num3_all A0 c0 a b c w hr0 hc0 ha hb hc p0 p1 u1 v1 u2 v2
    · rw [if_neg hb] at h; cases h
  | [a, b, c, d], hr0, hc0, h =>
    simp only [mummerref02_number.f] at h
    by_cases hb : (0 ≤ a ∧ a < 256) ∧ (0 ≤ b ∧ b < 256) ∧ (0 ≤ c ∧ c < 256) ∧ (0 ≤ d ∧ d < 256)
    · rw [if_pos hb] at h
      obtain rfl := Option.some.inj h
      obtain ⟨ha, hb, hc, hd⟩ := hb
      by_cases p0 : a < 240
      · rw [if_pos p0]; exact num4_below A0 c0 a b c d w hr0 hc0 ha hb hc hd p0
      rw [if_neg p0]
      by_cases p1 : 248 ≤ a
      · rw [if_pos p1]; exact num4_above A0 c0 a b c d w hr0 hc0 ha hb hc hd p0 p1
      rw [if_neg p1]
      by_cases u1 : b < 128
      · rw [if_pos u1]; exact num4_lo1 A0 c0 a b c d w hr0 hc0 ha hb hc hd p0 p1 u1
      rw [if_neg u1]
      by_cases v1 : 192 ≤ b
      · rw [if_pos v1]; exact num4_hi1 A0 c0 a b c d w hr0 hc0 ha hb hc hd p0 p1 u1 v1
      rw [if_neg v1]
      by_cases u2 : c < 128
      · rw [if_pos u2]; exact num4_lo2 A0 c0 a b c d w hr0 hc0 ha hb hc hd p0 p1 u1 v1 u2
      rw [if_neg u2]
      by_cases v2 : 192 ≤ c
      · rw [if_pos v2]; exact num4_hi2 A0 c0 a b c d w hr0 hc0 ha hb hc hd p0 p1 u1 v1 u2 v2
      rw [if_neg v2]
      by_cases u3 : d < 128
      · rw [if_pos u3]; exact num4_lo3 A0 c0 a b c d w hr0 hc0 ha hb hc hd p0 p1 u1 v1 u2 v2 u3
      rw [if_neg u3]
      by_cases v3 : 192 ≤ d
      · rw [if_pos v3]; exact num4_hi3 A0 c0 a b c d w hr0 hc0 ha hb hc hd p0 p1 u1 v1 u2 v2 u3 v3
      rw [if_neg v3]
      exact num4_all A0 c0 a b c d w hr0 hc0 ha hb hc hd p0 p1 u1 v1 u2 v2 u3 v3
    · rw [if_neg hb] at h; cases h
end Go.Proofs.YtnkfdobcmfdhfaaDoor.P
namespace Go.Proofs.YtnkfdobcmfdhfaaDoor.P
open Go.RowKit Go.Proofs.YtnkfdobcmfdhfaaDoorW.PrintWords Go.Proofs.YtnkfdobcmfdhfaaDoorW.PrintLast Go.Proofs.YtnkfdobcmfdhfaaDoorW.PrintMore
attribute [local go_sem] max2_int min2_int max_two min_two max_three min_three max_four min_four   -- for this text's walks alone
set_option linter.unusedVariables false
set_option linter.unusedSimpArgs false
def mummerref02_Is.f (a0 : Int) : Option (Bool) := if a0 ≥ 0 then (if a0 ≤ 1114111 then (if a0 < 55296 then (some true) else (some (decide (a0 > 57343)))) else (some false)) else (some false)
set_option maxHeartbeats 8000000 in
set_option maxRecDepth 100000 in
theorem mummerref02_Is.calls (a0 : Int) (r : Bool) (w : World) (h : mummerref02_Is.f a0 = some r) :
    Calls Tryd.prog 72 #[.int .i32 a0] w fun e w' => e = .returned (.bool r) ∧ Drawn0 w w' := by
  have H : (if a0 ≥ 0 then (if a0 ≤ 1114111 then (if a0 < 55296 then (some true) else (some (decide (a0 > 57343)))) else (some false)) else (some false)) = some r := h
  clear h
  by_cases c2 : a0 ≥ 0
  · rw [if_pos c2] at H
    have c2b0 : decide (0 ≤ a0) = true := decide_eq_true c2
    clear c2
    by_cases c3 : a0 ≤ 1114111
    · rw [if_pos c3] at H
      have c3b0 : decide (a0 ≤ 1114111) = true := decide_eq_true c3
      clear c3
      by_cases c4 : a0 < 55296
      · rw [if_pos c4] at H
        have c4b0 : decide (a0 < 55296) = true := decide_eq_true c4
        clear c4
        obtain rfl := Option.some.inj H
        go_enter Tryd.func72, Tryd.ntmps72
        go_wp2
        go_ret
        exact ⟨by first | rfl | (simp; done) | (simp [*]; done), by repeat (first | exact Drawn0.refl _ | apply Drawn0.step)⟩
      · rw [if_neg c4] at H
        have c4b0 : decide (a0 < 55296) = false := decide_eq_false c4
        clear c4
        obtain rfl := Option.some.inj H
        go_enter Tryd.func72, Tryd.ntmps72
        go_wp2
        go_ret
        exact ⟨by first | rfl | (simp; done) | (simp [*]; done), by repeat (first | exact Drawn0.refl _ | apply Drawn0.step)⟩
    · rw [if_neg c3] at H
      have c3b0 : decide (a0 ≤ 1114111) = false := decide_eq_false c3
      clear c3
      obtain rfl := Option.some.inj H
      go_enter Tryd.func72, Tryd.ntmps72
      go_wp2
      go_ret
      exact ⟨by first | rfl | (simp; done) | (simp [*]; done), by repeat (first | exact Drawn0.refl _ | apply Drawn0.step)⟩
  · rw [if_neg c2] at H
    have c2b0 : decide (0 ≤ a0) = false := decide_eq_false c2
    clear c2
    obtain rfl := Option.some.inj H
    go_enter Tryd.func72, Tryd.ntmps72
    go_wp2
    go_ret
    exact ⟨by first | rfl | (simp; done) | (simp [*]; done), by repeat (first | exact Drawn0.refl _ | apply Drawn0.step)⟩
def mummerref02_Encode.f (a0 : Int) : Option (List Int × Int) := (mummerref02_Is.f a0).bind fun t447 => (if t447 = true then (if a0 < 128 then (some ((([(a0) % 256] : List Int)), 0)) else (if a0 < 2048 then (some ((([(wrap32 (192 + (wrap32 (Int.tdiv a0 64)))) % 256, (wrap32 (128 + (Int.tmod a0 64))) % 256] : List Int)), 0)) else (if a0 < 65536 then (some ((([(wrap32 (224 + (wrap32 (Int.tdiv a0 4096)))) % 256, (wrap32 (128 + (Int.tmod (wrap32 (Int.tdiv a0 64)) 64))) % 256, (wrap32 (128 + (Int.tmod a0 64))) % 256] : List Int)), 0)) else (some ((([(wrap32 (240 + (wrap32 (Int.tdiv a0 262144)))) % 256, (wrap32 (128 + (Int.tmod (wrap32 (Int.tdiv a0 4096)) 64))) % 256, (wrap32 (128 + (Int.tmod (wrap32 (Int.tdiv a0 64)) 64))) % 256, (wrap32 (128 + (Int.tmod a0 64))) % 256] : List Int)), 0))))) else (some (([] : List Int), 7)))
set_option maxHeartbeats 8000000 in
set_option maxRecDepth 100000 in
theorem mummerref02_Encode.calls (a0 : Int) (r1 : List Int) (r2 : Int) (w : World) (h : mummerref02_Encode.f a0 = some (r1, r2)) :
    Calls Tryd.prog 73 #[.int .i32 a0] w fun e w' => ∃ v0_ : Value, e = .returned (.tuple #[v0_, .int .i64 r2]) ∧ Kd.R (Kd.int .u8) 5 w' w.heap.size (fun _ => True) v0_ r1 ∧ Below w.heap.size w w' := by
  have HB := ak (Below.refl w.heap.size w)
  have H : ((mummerref02_Is.f a0).bind fun t447 => (if t447 = true then (if a0 < 128 then (some ((([(a0) % 256] : List Int)), 0)) else (if a0 < 2048 then (some ((([(wrap32 (192 + (wrap32 (Int.tdiv a0 64)))) % 256, (wrap32 (128 + (Int.tmod a0 64))) % 256] : List Int)), 0)) else (if a0 < 65536 then (some ((([(wrap32 (224 + (wrap32 (Int.tdiv a0 4096)))) % 256, (wrap32 (128 + (Int.tmod (wrap32 (Int.tdiv a0 64)) 64))) % 256, (wrap32 (128 + (Int.tmod a0 64))) % 256] : List Int)), 0)) else (some ((([(wrap32 (240 + (wrap32 (Int.tdiv a0 262144)))) % 256, (wrap32 (128 + (Int.tmod (wrap32 (Int.tdiv a0 4096)) 64))) % 256, (wrap32 (128 + (Int.tmod (wrap32 (Int.tdiv a0 64)) 64))) % 256, (wrap32 (128 + (Int.tmod a0 64))) % 256] : List Int)), 0))))) else (some (([] : List Int), 7)))) = some (r1, r2) := h
  clear h
  replace H := Option.bind_eq_some_iff.mp H
  obtain ⟨t447, A20, H⟩ := H
  replace H : (if t447 = true then (if a0 < 128 then (some ((([(a0) % 256] : List Int)), 0)) else (if a0 < 2048 then (some ((([(wrap32 (192 + (wrap32 (Int.tdiv a0 64)))) % 256, (wrap32 (128 + (Int.tmod a0 64))) % 256] : List Int)), 0)) else (if a0 < 65536 then (some ((([(wrap32 (224 + (wrap32 (Int.tdiv a0 4096)))) % 256, (wrap32 (128 + (Int.tmod (wrap32 (Int.tdiv a0 64)) 64))) % 256, (wrap32 (128 + (Int.tmod a0 64))) % 256] : List Int)), 0)) else (some ((([(wrap32 (240 + (wrap32 (Int.tdiv a0 262144)))) % 256, (wrap32 (128 + (Int.tmod (wrap32 (Int.tdiv a0 4096)) 64))) % 256, (wrap32 (128 + (Int.tmod (wrap32 (Int.tdiv a0 64)) 64))) % 256, (wrap32 (128 + (Int.tmod a0 64))) % 256] : List Int)), 0))))) else (some (([] : List Int), 7))) = some (r1, r2) := H
  have A2 := ak A20
  clear A20
  by_cases c3 : t447 = true
  · subst c3
    have H1 : (if a0 < 128 then (some ((([(a0) % 256] : List Int)), 0)) else (if a0 < 2048 then (some ((([(wrap32 (192 + (wrap32 (Int.tdiv a0 64)))) % 256, (wrap32 (128 + (Int.tmod a0 64))) % 256] : List Int)), 0)) else (if a0 < 65536 then (some ((([(wrap32 (224 + (wrap32 (Int.tdiv a0 4096)))) % 256, (wrap32 (128 + (Int.tmod (wrap32 (Int.tdiv a0 64)) 64))) % 256, (wrap32 (128 + (Int.tmod a0 64))) % 256] : List Int)), 0)) else (some ((([(wrap32 (240 + (wrap32 (Int.tdiv a0 262144)))) % 256, (wrap32 (128 + (Int.tmod (wrap32 (Int.tdiv a0 4096)) 64))) % 256, (wrap32 (128 + (Int.tmod (wrap32 (Int.tdiv a0 64)) 64))) % 256, (wrap32 (128 + (Int.tmod a0 64))) % 256] : List Int)), 0))))) = some (r1, r2) := by rw [if_pos rfl] at H; exact H
    clear H
    have H := H1
    clear H1
    by_cases c4 : a0 < 128
    · rw [if_pos c4] at H
      have c4b0 : decide (a0 < 128) = true := decide_eq_true c4
      clear c4
      obtain ⟨y448, hy448⟩ : ∃ y_ : List Int, y_ = (([(a0) % 256] : List Int)) := ⟨_, rfl⟩
      replace H : (some (y448, 0)) = some (r1, r2) := by first | (rw [hy448]; with_reducible exact H) | (have H2_ := (Option.bind_some _ _).symm.trans H; rw [hy448]; with_reducible exact H2_) | (have H2_ := (Option.bind_some _ _).symm.trans H; with_reducible exact H2_) | with_reducible exact H | (rw [hy448]; exact H) | exact H
      have Ny448 := ak hy448
      clear hy448
      simp only [Option.some.injEq, Prod.mk.injEq] at H
      obtain ⟨rfl, rfl⟩ := H
      go_enter Tryd.func73, Tryd.ntmps73
      go_wp2_with (first | ((with_reducible refine gate_callee (f := 72) rfl ?_); refine goesL_ (some 5) rfl rfl Tryd.func72 (by kernel_rfl) rfl #[.int .i32 a0] rfl (by (try simp only [List.map_toArray, List.map_cons, List.map_nil]); first | done | rfl | (simp only [List.length_drop, List.length_take]; rfl)) ?_; (with_reducible refine (mummerref02_Is.calls a0 true _ A2.out).mono ?_); rintro e w' ⟨rfl, ⟨nd, rfl⟩⟩; refine ⟨_, rfl, ?_⟩) | ((with_reducible refine gate_dst (N := 11) rfl ?_); refine Kd.R_lit (Kd.int .u8) _ 5 ?hg (N := 11) ?hd (xs := ([(a0) % 256] : List Int)) (inner := [.int .u8 ((a0) % 256)]) (ok := fun _ => True) (okp := fun _ => True) ?hr ?hp (fun _ hk => hk) trivial (Below.refl _ _) (Nat.le_refl _) (by simp) ?_; (case hd => rfl); (case hg => rfl); (case hr => first | (go_simp; done) | (go_simp; rfl)); (case hp => exact (Reps.one (show Kd.M (Kd.int .u8) _ _ _ ((a0) % 256) [.int .u8 ((a0) % 256)] from rfl) (Reps.none _ _))); intro v449 w5 ho6 hb hg_ hnew_; clear hg_ hnew_; (first | rw [← Ny448.out] at ho6 | (simp only [Int.reduceToNat] at ho6; rw [← Ny448.out] at ho6)); have n0_ := ak (Kd.R_lower ho6 (below_size (by repeat (first | (with_reducible first | exact HB.out | apply wA | apply wN | apply wD) | exact HB.out)))); have n1_ := ak (below_step (by repeat (first | (with_reducible first | exact HB.out | apply wA | apply wN | apply wD) | exact HB.out)) hb); clear HB; have HO450 := n0_; have HB := n1_; clear n0_ n1_; clear hb ho6))
      go_ret2
      exact ⟨_, by first | rfl | (simp [errW_none, errW_some] <;> rfl) | (simp [*, errW_none, errW_some] <;> rfl), by (with_reducible repeat (first | apply Kd.R_alloc | apply Kd.R_drewN | apply Kd.R_drew)); exact HO450.out, by repeat (first | (with_reducible first | exact HB.out | apply wA | apply wN | apply wD) | exact HB.out)⟩
    · rw [if_neg c4] at H
      have c4b0 : decide (a0 < 128) = false := decide_eq_false c4
      clear c4
      by_cases c7 : a0 < 2048
      · rw [if_pos c7] at H
        have c7b0 : decide (a0 < 2048) = true := decide_eq_true c7
        clear c7
        obtain ⟨y451, hy451⟩ : ∃ y_ : List Int, y_ = (([(wrap32 (192 + (wrap32 (Int.tdiv a0 64)))) % 256, (wrap32 (128 + (Int.tmod a0 64))) % 256] : List Int)) := ⟨_, rfl⟩
        replace H : (some (y451, 0)) = some (r1, r2) := by first | (rw [hy451]; with_reducible exact H) | (have H2_ := (Option.bind_some _ _).symm.trans H; rw [hy451]; with_reducible exact H2_) | (have H2_ := (Option.bind_some _ _).symm.trans H; with_reducible exact H2_) | with_reducible exact H | (rw [hy451]; exact H) | exact H
        have Ny451 := ak hy451
        clear hy451
        simp only [Option.some.injEq, Prod.mk.injEq] at H
        obtain ⟨rfl, rfl⟩ := H
        go_enter Tryd.func73, Tryd.ntmps73
        go_wp2_with (first | ((with_reducible refine gate_callee (f := 72) rfl ?_); refine goesL_ (some 5) rfl rfl Tryd.func72 (by kernel_rfl) rfl #[.int .i32 a0] rfl (by (try simp only [List.map_toArray, List.map_cons, List.map_nil]); first | done | rfl | (simp only [List.length_drop, List.length_take]; rfl)) ?_; (with_reducible refine (mummerref02_Is.calls a0 true _ A2.out).mono ?_); rintro e w' ⟨rfl, ⟨nd, rfl⟩⟩; refine ⟨_, rfl, ?_⟩) | ((with_reducible refine gate_dst (N := 22) rfl ?_); refine Kd.R_lit (Kd.int .u8) _ 5 ?hg (N := 22) ?hd (xs := ([(wrap32 (192 + (wrap32 (Int.tdiv a0 64)))) % 256, (wrap32 (128 + (Int.tmod a0 64))) % 256] : List Int)) (inner := [.int .u8 ((wrap32 (192 + (wrap32 (Int.tdiv a0 64)))) % 256), .int .u8 ((wrap32 (128 + (Int.tmod a0 64))) % 256)]) (ok := fun _ => True) (okp := fun _ => True) ?hr ?hp (fun _ hk => hk) trivial (Below.refl _ _) (Nat.le_refl _) (by simp) ?_; (case hd => rfl); (case hg => rfl); (case hr => first | (go_simp; done) | (go_simp; rfl)); (case hp => exact (Reps.one (show Kd.M (Kd.int .u8) _ _ _ ((wrap32 (192 + (wrap32 (Int.tdiv a0 64)))) % 256) [.int .u8 ((wrap32 (192 + (wrap32 (Int.tdiv a0 64)))) % 256)] from rfl) (Reps.one (show Kd.M (Kd.int .u8) _ _ _ ((wrap32 (128 + (Int.tmod a0 64))) % 256) [.int .u8 ((wrap32 (128 + (Int.tmod a0 64))) % 256)] from rfl) (Reps.none _ _)))); intro v452 w8 ho9 hb hg_ hnew_; clear hg_ hnew_; (first | rw [← Ny451.out] at ho9 | (simp only [Int.reduceToNat] at ho9; rw [← Ny451.out] at ho9)); have n0_ := ak (Kd.R_lower ho9 (below_size (by repeat (first | (with_reducible first | exact HB.out | apply wA | apply wN | apply wD) | exact HB.out)))); have n1_ := ak (below_step (by repeat (first | (with_reducible first | exact HB.out | apply wA | apply wN | apply wD) | exact HB.out)) hb); clear HB; have HO453 := n0_; have HB := n1_; clear n0_ n1_; clear hb ho9))
        go_ret2
        exact ⟨_, by first | rfl | (simp [errW_none, errW_some] <;> rfl) | (simp [*, errW_none, errW_some] <;> rfl), by (with_reducible repeat (first | apply Kd.R_alloc | apply Kd.R_drewN | apply Kd.R_drew)); exact HO453.out, by repeat (first | (with_reducible first | exact HB.out | apply wA | apply wN | apply wD) | exact HB.out)⟩
      · rw [if_neg c7] at H
        have c7b0 : decide (a0 < 2048) = false := decide_eq_false c7
        clear c7
        by_cases c10 : a0 < 65536
        · rw [if_pos c10] at H
          have c10b0 : decide (a0 < 65536) = true := decide_eq_true c10
          clear c10
          obtain ⟨y454, hy454⟩ : ∃ y_ : List Int, y_ = (([(wrap32 (224 + (wrap32 (Int.tdiv a0 4096)))) % 256, (wrap32 (128 + (Int.tmod (wrap32 (Int.tdiv a0 64)) 64))) % 256, (wrap32 (128 + (Int.tmod a0 64))) % 256] : List Int)) := ⟨_, rfl⟩
          replace H : (some (y454, 0)) = some (r1, r2) := by first | (rw [hy454]; with_reducible exact H) | (have H2_ := (Option.bind_some _ _).symm.trans H; rw [hy454]; with_reducible exact H2_) | (have H2_ := (Option.bind_some _ _).symm.trans H; with_reducible exact H2_) | with_reducible exact H | (rw [hy454]; exact H) | exact H
          have Ny454 := ak hy454
          clear hy454
          simp only [Option.some.injEq, Prod.mk.injEq] at H
          obtain ⟨rfl, rfl⟩ := H
          go_enter Tryd.func73, Tryd.ntmps73
          go_wp2_with (first | ((with_reducible refine gate_callee (f := 72) rfl ?_); refine goesL_ (some 5) rfl rfl Tryd.func72 (by kernel_rfl) rfl #[.int .i32 a0] rfl (by (try simp only [List.map_toArray, List.map_cons, List.map_nil]); first | done | rfl | (simp only [List.length_drop, List.length_take]; rfl)) ?_; (with_reducible refine (mummerref02_Is.calls a0 true _ A2.out).mono ?_); rintro e w' ⟨rfl, ⟨nd, rfl⟩⟩; refine ⟨_, rfl, ?_⟩) | ((with_reducible refine gate_dst (N := 38) rfl ?_); refine Kd.R_lit (Kd.int .u8) _ 5 ?hg (N := 38) ?hd (xs := ([(wrap32 (224 + (wrap32 (Int.tdiv a0 4096)))) % 256, (wrap32 (128 + (Int.tmod (wrap32 (Int.tdiv a0 64)) 64))) % 256, (wrap32 (128 + (Int.tmod a0 64))) % 256] : List Int)) (inner := [.int .u8 ((wrap32 (224 + (wrap32 (Int.tdiv a0 4096)))) % 256), .int .u8 ((wrap32 (128 + (Int.tmod (wrap32 (Int.tdiv a0 64)) 64))) % 256), .int .u8 ((wrap32 (128 + (Int.tmod a0 64))) % 256)]) (ok := fun _ => True) (okp := fun _ => True) ?hr ?hp (fun _ hk => hk) trivial (Below.refl _ _) (Nat.le_refl _) (by simp) ?_; (case hd => rfl); (case hg => rfl); (case hr => first | (go_simp; done) | (go_simp; rfl)); (case hp => exact (Reps.one (show Kd.M (Kd.int .u8) _ _ _ ((wrap32 (224 + (wrap32 (Int.tdiv a0 4096)))) % 256) [.int .u8 ((wrap32 (224 + (wrap32 (Int.tdiv a0 4096)))) % 256)] from rfl) (Reps.one (show Kd.M (Kd.int .u8) _ _ _ ((wrap32 (128 + (Int.tmod (wrap32 (Int.tdiv a0 64)) 64))) % 256) [.int .u8 ((wrap32 (128 + (Int.tmod (wrap32 (Int.tdiv a0 64)) 64))) % 256)] from rfl) (Reps.one (show Kd.M (Kd.int .u8) _ _ _ ((wrap32 (128 + (Int.tmod a0 64))) % 256) [.int .u8 ((wrap32 (128 + (Int.tmod a0 64))) % 256)] from rfl) (Reps.none _ _))))); intro v455 w11 ho12 hb hg_ hnew_; clear hg_ hnew_; (first | rw [← Ny454.out] at ho12 | (simp only [Int.reduceToNat] at ho12; rw [← Ny454.out] at ho12)); have n0_ := ak (Kd.R_lower ho12 (below_size (by repeat (first | (with_reducible first | exact HB.out | apply wA | apply wN | apply wD) | exact HB.out)))); have n1_ := ak (below_step (by repeat (first | (with_reducible first | exact HB.out | apply wA | apply wN | apply wD) | exact HB.out)) hb); clear HB; have HO456 := n0_; have HB := n1_; clear n0_ n1_; clear hb ho12))
          go_ret2
          exact ⟨_, by first | rfl | (simp [errW_none, errW_some] <;> rfl) | (simp [*, errW_none, errW_some] <;> rfl), by (with_reducible repeat (first | apply Kd.R_alloc | apply Kd.R_drewN | apply Kd.R_drew)); exact HO456.out, by repeat (first | (with_reducible first | exact HB.out | apply wA | apply wN | apply wD) | exact HB.out)⟩
        · rw [if_neg c10] at H
          have c10b0 : decide (a0 < 65536) = false := decide_eq_false c10
          clear c10
          obtain ⟨y457, hy457⟩ : ∃ y_ : List Int, y_ = (([(wrap32 (240 + (wrap32 (Int.tdiv a0 262144)))) % 256, (wrap32 (128 + (Int.tmod (wrap32 (Int.tdiv a0 4096)) 64))) % 256, (wrap32 (128 + (Int.tmod (wrap32 (Int.tdiv a0 64)) 64))) % 256, (wrap32 (128 + (Int.tmod a0 64))) % 256] : List Int)) := ⟨_, rfl⟩
          replace H : (some (y457, 0)) = some (r1, r2) := by first | (rw [hy457]; with_reducible exact H) | (have H2_ := (Option.bind_some _ _).symm.trans H; rw [hy457]; with_reducible exact H2_) | (have H2_ := (Option.bind_some _ _).symm.trans H; with_reducible exact H2_) | with_reducible exact H | (rw [hy457]; exact H) | exact H
          have Ny457 := ak hy457
          clear hy457
          simp only [Option.some.injEq, Prod.mk.injEq] at H
          obtain ⟨rfl, rfl⟩ := H
          go_enter Tryd.func73, Tryd.ntmps73
          go_wp2_with (first | ((with_reducible refine gate_callee (f := 72) rfl ?_); refine goesL_ (some 5) rfl rfl Tryd.func72 (by kernel_rfl) rfl #[.int .i32 a0] rfl (by (try simp only [List.map_toArray, List.map_cons, List.map_nil]); first | done | rfl | (simp only [List.length_drop, List.length_take]; rfl)) ?_; (with_reducible refine (mummerref02_Is.calls a0 true _ A2.out).mono ?_); rintro e w' ⟨rfl, ⟨nd, rfl⟩⟩; refine ⟨_, rfl, ?_⟩) | ((with_reducible refine gate_dst (N := 57) rfl ?_); refine Kd.R_lit (Kd.int .u8) _ 5 ?hg (N := 57) ?hd (xs := ([(wrap32 (240 + (wrap32 (Int.tdiv a0 262144)))) % 256, (wrap32 (128 + (Int.tmod (wrap32 (Int.tdiv a0 4096)) 64))) % 256, (wrap32 (128 + (Int.tmod (wrap32 (Int.tdiv a0 64)) 64))) % 256, (wrap32 (128 + (Int.tmod a0 64))) % 256] : List Int)) (inner := [.int .u8 ((wrap32 (240 + (wrap32 (Int.tdiv a0 262144)))) % 256), .int .u8 ((wrap32 (128 + (Int.tmod (wrap32 (Int.tdiv a0 4096)) 64))) % 256), .int .u8 ((wrap32 (128 + (Int.tmod (wrap32 (Int.tdiv a0 64)) 64))) % 256), .int .u8 ((wrap32 (128 + (Int.tmod a0 64))) % 256)]) (ok := fun _ => True) (okp := fun _ => True) ?hr ?hp (fun _ hk => hk) trivial (Below.refl _ _) (Nat.le_refl _) (by simp) ?_; (case hd => rfl); (case hg => rfl); (case hr => first | (go_simp; done) | (go_simp; rfl)); (case hp => exact (Reps.one (show Kd.M (Kd.int .u8) _ _ _ ((wrap32 (240 + (wrap32 (Int.tdiv a0 262144)))) % 256) [.int .u8 ((wrap32 (240 + (wrap32 (Int.tdiv a0 262144)))) % 256)] from rfl) (Reps.one (show Kd.M (Kd.int .u8) _ _ _ ((wrap32 (128 + (Int.tmod (wrap32 (Int.tdiv a0 4096)) 64))) % 256) [.int .u8 ((wrap32 (128 + (Int.tmod (wrap32 (Int.tdiv a0 4096)) 64))) % 256)] from rfl) (Reps.one (show Kd.M (Kd.int .u8) _ _ _ ((wrap32 (128 + (Int.tmod (wrap32 (Int.tdiv a0 64)) 64))) % 256) [.int .u8 ((wrap32 (128 + (Int.tmod (wrap32 (Int.tdiv a0 64)) 64))) % 256)] from rfl) (Reps.one (show Kd.M (Kd.int .u8) _ _ _ ((wrap32 (128 + (Int.tmod a0 64))) % 256) [.int .u8 ((wrap32 (128 + (Int.tmod a0 64))) % 256)] from rfl) (Reps.none _ _)))))); intro v458 w13 ho14 hb hg_ hnew_; clear hg_ hnew_; (first | rw [← Ny457.out] at ho14 | (simp only [Int.reduceToNat] at ho14; rw [← Ny457.out] at ho14)); have n0_ := ak (Kd.R_lower ho14 (below_size (by repeat (first | (with_reducible first | exact HB.out | apply wA | apply wN | apply wD) | exact HB.out)))); have n1_ := ak (below_step (by repeat (first | (with_reducible first | exact HB.out | apply wA | apply wN | apply wD) | exact HB.out)) hb); clear HB; have HO459 := n0_; have HB := n1_; clear n0_ n1_; clear hb ho14))
          go_ret2
          exact ⟨_, by first | rfl | (simp [errW_none, errW_some] <;> rfl) | (simp [*, errW_none, errW_some] <;> rfl), by (with_reducible repeat (first | apply Kd.R_alloc | apply Kd.R_drewN | apply Kd.R_drew)); exact HO459.out, by repeat (first | (with_reducible first | exact HB.out | apply wA | apply wN | apply wD) | exact HB.out)⟩
  · replace c3 := Bool.eq_false_iff.mpr c3
    subst c3
    have H1 : (some (([] : List Int), 7)) = some (r1, r2) := by rw [if_neg (show ¬ (false = true) by decide)] at H; exact H
    clear H
    have H := H1
    clear H1
    simp only [Option.some.injEq, Prod.mk.injEq] at H
    obtain ⟨rfl, rfl⟩ := H
    go_enter Tryd.func73, Tryd.ntmps73
    go_wp2_with (first | ((with_reducible refine gate_callee (f := 72) rfl ?_); refine goesL_ (some 5) rfl rfl Tryd.func72 (by kernel_rfl) rfl #[.int .i32 a0] rfl (by (try simp only [List.map_toArray, List.map_cons, List.map_nil]); first | done | rfl | (simp only [List.length_drop, List.length_take]; rfl)) ?_; (with_reducible refine (mummerref02_Is.calls a0 false _ A2.out).mono ?_); rintro e w' ⟨rfl, ⟨nd, rfl⟩⟩; refine ⟨_, rfl, ?_⟩))
    go_ret2
    exact ⟨_, by first | rfl | (simp [errW_none, errW_some] <;> rfl) | (simp [*, errW_none, errW_some] <;> rfl), by first | exact Kd.R_nil _ _ _ _ _ | exact Kd.N_nil _ _ _ _ _ | exact Kd.V_nil _ _ _ _ _ | exact Kd.Q_nil _ _ _ _ _ | exact Kd.S_nil _ _ _ _ _, by repeat (first | (with_reducible first | exact HB.out | apply wA | apply wN | apply wD) | exact HB.out)⟩
end Go.Proofs.YtnkfdobcmfdhfaaDoor.P
namespace Go.Proofs.YtnkfdobcmfdhfaaDoor.P
open Go.RowKit Go.Proofs.YtnkfdobcmfdhfaaDoorW.PrintWords Go.Proofs.YtnkfdobcmfdhfaaDoorW.PrintLast Go.Proofs.YtnkfdobcmfdhfaaDoorW.PrintMore
attribute [local go_sem] max2_int min2_int max_two min_two max_three min_three max_four min_four   -- for this text's walks alone
set_option linter.unusedVariables false
set_option linter.unusedSimpArgs false
def mummerref02_stands.f (l0 : List Int) : Option (Int × Bool) := (mummerref02_number.f l0).bind fun t460 => ((mummerref02_Is.f t460).bind fun t461 => (if t461 = true then ((mummerref02_Encode.f t460).bind fun bt462 => (some (t460, ((strOfNums l0).toList == (strOfNums bt462.1).toList)))) else (some (0, false))))
set_option maxHeartbeats 8000000 in
set_option maxRecDepth 100000 in
theorem mummerref02_stands.calls (A0 : Option Addr) (c0 : Nat) (l0 : List Int) (r1 : Int) (r2 : Bool) (w : World) (hr0 : Kd.C (Kd.int .u8) w A0 l0.length l0) (hc0 : l0.length ≤ c0) (h : mummerref02_stands.f l0 = some (r1, r2)) :
    Calls Tryd.prog 62 #[.slice A0 l0.length c0] w fun e w' => e = .returned (.tuple #[.int .i32 r1, .bool r2]) ∧ Below w.heap.size w w' := by
  have HR0 := ak hr0
  have HC0 := ak hc0
  clear hr0 hc0
  have HB := ak (Below.refl w.heap.size w)
  have H : ((mummerref02_number.f l0).bind fun t460 => ((mummerref02_Is.f t460).bind fun t461 => (if t461 = true then ((mummerref02_Encode.f t460).bind fun bt462 => (some (t460, ((strOfNums l0).toList == (strOfNums bt462.1).toList)))) else (some (0, false))))) = some (r1, r2) := h
  clear h
  replace H := Option.bind_eq_some_iff.mp H
  obtain ⟨t460, A20, H⟩ := H
  replace H : ((mummerref02_Is.f t460).bind fun t461 => (if t461 = true then ((mummerref02_Encode.f t460).bind fun bt462 => (some (t460, ((strOfNums l0).toList == (strOfNums bt462.1).toList)))) else (some (0, false)))) = some (r1, r2) := H
  have A2 := ak A20
  clear A20
  replace H := Option.bind_eq_some_iff.mp H
  obtain ⟨t461, A30, H⟩ := H
  replace H : (if t461 = true then ((mummerref02_Encode.f t460).bind fun bt462 => (some (t460, ((strOfNums l0).toList == (strOfNums bt462.1).toList)))) else (some (0, false))) = some (r1, r2) := H
  have A3 := ak A30
  clear A30
  by_cases c4 : t461 = true
  · subst c4
    have H1 : ((mummerref02_Encode.f t460).bind fun bt462 => (some (t460, ((strOfNums l0).toList == (strOfNums bt462.1).toList)))) = some (r1, r2) := by rw [if_pos rfl] at H; exact H
    clear H
    have H := H1
    clear H1
    replace H := Option.bind_eq_some_iff.mp H
    obtain ⟨⟨t462, t463⟩, A50, H⟩ := H
    replace H : (some (t460, ((strOfNums l0).toList == (strOfNums t462).toList))) = some (r1, r2) := H
    have A5 := ak A50
    clear A50
    simp only [Option.some.injEq, Prod.mk.injEq] at H
    obtain ⟨rfl, rfl⟩ := H
    go_enter Tryd.func62, Tryd.ntmps62
    go_wp2_with (first | (go_at_call 71; (with_reducible refine (mummerref02_number.calls _ _ l0 t460 _ ?side1 ?side2 A2.out).mono ?_); (case side1 => repeat (first | exact HR0.out | (with_reducible refine Kd.C_alloc ?_ _) | (with_reducible refine Kd.C_drewN ?_ _) | (with_reducible refine Kd.C_drew ?_))); (case side2 => exact HC0.out); rintro e w6 ⟨rfl, hb⟩; have n0_ := ak (below_step (by repeat (first | (with_reducible first | exact HB.out | apply wA | apply wN | apply wD) | exact HB.out)) hb); clear HB; have HB := n0_; clear n0_; (try clear hb); (try clear hb2); (try clear hk); (try clear hi)) | (go_at_call 72; (with_reducible refine (mummerref02_Is.calls t460 true _ A3.out).mono ?_); rintro e w' ⟨rfl, ⟨nd, rfl⟩⟩; (try first | exact ⟨rfl, _, World.drewN_drewN _ _ _⟩ | exact ⟨rfl, _, Eq.trans (World.drewN_drewN _ _ _) (congrArg (World.drewN _) (Nat.add_assoc _ _ _))⟩)) | (go_at_call 73; (with_reducible refine (mummerref02_Encode.calls t460 t462 t463 _ A5.out).mono ?_); rintro e w7 ⟨v464, rfl, ho0, hb⟩; have n0_ := ak (Kd.R_lower ho0 (below_size (by repeat (first | (with_reducible first | exact HB.out | apply wA | apply wN | apply wD) | exact HB.out)))); have n1_ := ak (below_step (by repeat (first | (with_reducible first | exact HB.out | apply wA | apply wN | apply wD) | exact HB.out)) hb); clear HB; have HO465 := n0_; have HB := n1_; clear n0_ n1_; (try clear hb); (try clear hb2); (try clear hk); (try clear hi); (try clear ho0); have hcv8 := Kd.C_string (P := Tryd.prog) (A := A0) (c := c0) Tryd.underlying45 Tryd.underlying5 Tryd.underlying9 (Kd.C_below HR0.out HB.out); have hcv9 := own_string (P := Tryd.prog) Tryd.underlying45 Tryd.underlying5 Tryd.underlying9 (Kd.own_of_R HO465.out)))
    have hs1_ := Kd.C_string (P := Tryd.prog) (A := A0) (c := c0) Tryd.underlying45 Tryd.underlying5 Tryd.underlying9 (Kd.C_drew (Kd.C_below HR0.out HB.out))
    have hs2_ := own_string (P := Tryd.prog) Tryd.underlying45 Tryd.underlying5 Tryd.underlying9 (Kd.own_of_R (Kd.R_drew HO465.out))
    refine start_ (n := 8) (S := fun w' => (convert 45 9 (.slice A0 l0.length c0)).run Tryd.prog w' = .ok (.string (strOfNums l0)) w' ∧ (convert 45 9 v464).run Tryd.prog w' = .ok (.string (strOfNums t462)) w') (ds := []) #[false, false, false, false, false, false, false, false] (by kernel_rfl) rfl rfl ⟨hs1_, hs2_⟩ (fun hHeld => ?_)
    refine pure_ (i := 0) (N := some 17) (v := ?_) (a' := ?_) #[true, false, false, false, false, false, false, false] rfl rfl (by kernel_rfl) (fun _ _ _ h => h) (Or.inl ⟨by rfl, ?_⟩) ?_ ?_; rotate_left; · (intro w'; go_simp; with_reducible rfl)
    rotate_left; · (simp only [Act.put, List.setIfInBounds_toArray, List.set_cons_zero, List.set_cons_succ, i64_w, i32_w]; rfl)
    refine pure_ (i := 1) (N := some 18) (v := ?_) (a' := ?_) #[true, true, false, false, false, false, false, false] rfl rfl (by kernel_rfl) (fun _ _ _ h => h) (Or.inl ⟨by rfl, ?_⟩) ?_ ?_; rotate_left; · (intro w'; go_simp; with_reducible rfl)
    rotate_left; · (simp only [Act.put, List.setIfInBounds_toArray, List.set_cons_zero, List.set_cons_succ, i64_w, i32_w]; rfl)
    refine take_ (i := 2) (N := some 19) (v := ?_) (a' := ?_) #[true, true, true, false, false, false, false, false] rfl rfl (by kernel_rfl) (fun _ _ _ h => h) (Or.inl ⟨by rfl, ?_⟩) hHeld ?_ ?_; rotate_left; · (rintro w' ⟨s0, s1⟩; go_simp; with_reducible rfl)
    rotate_left; · (simp only [Act.put, List.setIfInBounds_toArray, List.set_cons_zero, List.set_cons_succ, i64_w, i32_w]; rfl)
    refine pure_ (i := 3) (N := some 20) (v := ?_) (a' := ?_) #[true, true, true, true, false, false, false, false] rfl rfl (by kernel_rfl) (fun _ _ _ h => h) (Or.inl ⟨by rfl, ?_⟩) ?_ ?_; rotate_left; · (intro w'; go_simp; with_reducible rfl)
    rotate_left; · (simp only [Act.put, List.setIfInBounds_toArray, List.set_cons_zero, List.set_cons_succ, i64_w, i32_w]; rfl)
    refine take_ (i := 4) (N := some 21) (v := ?_) (a' := ?_) #[true, true, true, true, true, false, false, false] rfl rfl (by kernel_rfl) (fun _ _ _ h => h) (Or.inl ⟨by rfl, ?_⟩) hHeld ?_ ?_; rotate_left; · (rintro w' ⟨s0, s1⟩; go_simp; with_reducible rfl)
    rotate_left; · (simp only [Act.put, List.setIfInBounds_toArray, List.set_cons_zero, List.set_cons_succ, i64_w, i32_w]; rfl)
    refine pure_ (i := 5) (N := some 22) (v := ?_) (a' := ?_) #[true, true, true, true, true, true, false, false] rfl rfl (by kernel_rfl) (fun _ _ _ h => h) (Or.inl ⟨by rfl, ?_⟩) ?_ ?_; rotate_left; · (intro w'; go_simp; with_reducible rfl)
    rotate_left; · (simp only [Act.put, List.setIfInBounds_toArray, List.set_cons_zero, List.set_cons_succ, i64_w, i32_w]; rfl)
    refine pure_ (i := 6) (N := some 2) (v := ?_) (a' := ?_) #[true, true, true, true, true, true, true, false] rfl rfl (by kernel_rfl) (fun _ _ _ h => h) (Or.inl ⟨by rfl, ?_⟩) ?_ ?_; rotate_left; · (intro w'; go_simp; with_reducible rfl)
    rotate_left; · (simp only [Act.put, List.setIfInBounds_toArray, List.set_cons_zero, List.set_cons_succ, i64_w, i32_w]; rfl)
    refine pure_ (i := 7) (N := some 3) (v := ?_) (a' := ?_) #[true, true, true, true, true, true, true, true] rfl rfl (by kernel_rfl) (fun _ _ _ h => h) (Or.inl ⟨by rfl, ?_⟩) ?_ ?_; rotate_left; · (intro w'; go_simp; with_reducible rfl)
    rotate_left; · (simp only [Act.put, List.setIfInBounds_toArray, List.set_cons_zero, List.set_cons_succ, i64_w, i32_w]; rfl)
    refine done_ (by kernel_rfl) ?_
    try go_wp2
    go_ret2
    exact ⟨by first | rfl | (simp [errW_none, errW_some] <;> rfl) | (simp [*, errW_none, errW_some] <;> rfl), by repeat (first | (with_reducible first | exact HB.out | apply wA | apply wN | apply wD) | exact HB.out)⟩
  · replace c4 := Bool.eq_false_iff.mpr c4
    subst c4
    have H1 : (some (0, false)) = some (r1, r2) := by rw [if_neg (show ¬ (false = true) by decide)] at H; exact H
    clear H
    have H := H1
    clear H1
    simp only [Option.some.injEq, Prod.mk.injEq] at H
    obtain ⟨rfl, rfl⟩ := H
    go_enter Tryd.func62, Tryd.ntmps62
    go_wp2_with (first | (go_at_call 71; (with_reducible refine (mummerref02_number.calls _ _ l0 t460 _ ?side1 ?side2 A2.out).mono ?_); (case side1 => repeat (first | exact HR0.out | (with_reducible refine Kd.C_alloc ?_ _) | (with_reducible refine Kd.C_drewN ?_ _) | (with_reducible refine Kd.C_drew ?_))); (case side2 => exact HC0.out); rintro e w10 ⟨rfl, hb⟩; have n0_ := ak (below_step (by repeat (first | (with_reducible first | exact HB.out | apply wA | apply wN | apply wD) | exact HB.out)) hb); clear HB; have HB := n0_; clear n0_; (try clear hb); (try clear hb2); (try clear hk); (try clear hi)) | (go_at_call 72; (with_reducible refine (mummerref02_Is.calls t460 false _ A3.out).mono ?_); rintro e w' ⟨rfl, ⟨nd, rfl⟩⟩; (try first | exact ⟨rfl, _, World.drewN_drewN _ _ _⟩ | exact ⟨rfl, _, Eq.trans (World.drewN_drewN _ _ _) (congrArg (World.drewN _) (Nat.add_assoc _ _ _))⟩)))
    repeat (go_quiet (first | (go_at_call 71; (with_reducible refine (mummerref02_number.calls _ _ l0 t460 _ ?side1 ?side2 A2.out).mono ?_); (case side1 => repeat (first | exact HR0.out | (with_reducible refine Kd.C_alloc ?_ _) | (with_reducible refine Kd.C_drewN ?_ _) | (with_reducible refine Kd.C_drew ?_))); (case side2 => exact HC0.out); rintro e w10 ⟨rfl, hb⟩; have n0_ := ak (below_step (by repeat (first | (with_reducible first | exact HB.out | apply wA | apply wN | apply wD) | exact HB.out)) hb); clear HB; have HB := n0_; clear n0_; (try clear hb); (try clear hb2); (try clear hk); (try clear hi)) | (go_at_call 72; (with_reducible refine (mummerref02_Is.calls t460 false _ A3.out).mono ?_); rintro e w' ⟨rfl, ⟨nd, rfl⟩⟩; (try first | exact ⟨rfl, _, World.drewN_drewN _ _ _⟩ | exact ⟨rfl, _, Eq.trans (World.drewN_drewN _ _ _) (congrArg (World.drewN _) (Nat.add_assoc _ _ _))⟩))); try go_wp2_with (first | (go_at_call 71; (with_reducible refine (mummerref02_number.calls _ _ l0 t460 _ ?side1 ?side2 A2.out).mono ?_); (case side1 => repeat (first | exact HR0.out | (with_reducible refine Kd.C_alloc ?_ _) | (with_reducible refine Kd.C_drewN ?_ _) | (with_reducible refine Kd.C_drew ?_))); (case side2 => exact HC0.out); rintro e w10 ⟨rfl, hb⟩; have n0_ := ak (below_step (by repeat (first | (with_reducible first | exact HB.out | apply wA | apply wN | apply wD) | exact HB.out)) hb); clear HB; have HB := n0_; clear n0_; (try clear hb); (try clear hb2); (try clear hk); (try clear hi)) | (go_at_call 72; (with_reducible refine (mummerref02_Is.calls t460 false _ A3.out).mono ?_); rintro e w' ⟨rfl, ⟨nd, rfl⟩⟩; (try first | exact ⟨rfl, _, World.drewN_drewN _ _ _⟩ | exact ⟨rfl, _, Eq.trans (World.drewN_drewN _ _ _) (congrArg (World.drewN _) (Nat.add_assoc _ _ _))⟩))))
    go_ret2
    exact ⟨by first | rfl | (simp [errW_none, errW_some] <;> rfl) | (simp [*, errW_none, errW_some] <;> rfl), by repeat (first | (with_reducible first | exact HB.out | apply wA | apply wN | apply wD) | exact HB.out)⟩
end Go.Proofs.YtnkfdobcmfdhfaaDoor.P
namespace Go.Proofs.YtnkfdobcmfdhfaaDoor.P
open Go.RowKit Go.Proofs.YtnkfdobcmfdhfaaDoorW.PrintWords Go.Proofs.YtnkfdobcmfdhfaaDoorW.PrintLast Go.Proofs.YtnkfdobcmfdhfaaDoorW.PrintMore
attribute [local go_sem] max2_int min2_int max_two min_two max_three min_three max_four min_four   -- for this text's walks alone
set_option linter.unusedVariables false
set_option linter.unusedSimpArgs false
mutual
def mummerref02_begins.j2 : Nat → List Int → Int → Option (Bool)
  | 0, _, _ => none
  | k + 1, x0, x3 => if (x0.length : Int) ≥ x3 then (some false) else (mummerref02_begins.l0 k x0 x3 128)
def mummerref02_begins.l0 : Nat → List Int → Int → Int → Option (Bool)
  | 0, _, _, _ => none
  | k + 1, x0, x3, x5 => if x5 ≤ 191 then ((some (([] : List Int) : List Int)).bind fun y467 => (if y467.length + x0.length < 140737488355328 then (mummerref02_begins.l1 k x0 x3 x5 (y467 ++ x0)) else (none))) else (some false)
def mummerref02_begins.l1 : Nat → List Int → Int → Int → List Int → Option (Bool)
  | 0, _, _, _, _ => none
  | k + 1, x0, x3, x5, x6 => if (x6.length : Int) < x3 then (if x6.length < 140737488355328 then (mummerref02_begins.l1 k x0 x3 x5 (x6 ++ [(x5) % 256])) else (none)) else ((mummerref02_stands.f x6).bind fun bt476 => (if bt476.2 = true then (some true) else (mummerref02_begins.l0 k x0 x3 (wrap64 (x5 + 63)))))
def mummerref02_begins.j0 : Nat → List Int → Int → Int → Bool → Option (Bool)
  | 0, _, _, _, _ => none
  | k + 1, x0, x3, x4, x13 => if x13 = true then (mummerref02_begins.j2 k x0 2) else (if x4 ≥ 224 then (mummerref02_begins.j1 k x0 x3 x4 (decide (x4 < 240))) else (mummerref02_begins.j1 k x0 x3 x4 false))
def mummerref02_begins.j1 : Nat → List Int → Int → Int → Bool → Option (Bool)
  | 0, _, _, _, _ => none
  | k + 1, x0, x3, x4, x20 => if x20 = true then (mummerref02_begins.j2 k x0 3) else (if x4 ≥ 240 then (if x4 < 248 then (mummerref02_begins.j2 k x0 4) else (mummerref02_begins.j2 k x0 x3)) else (mummerref02_begins.j2 k x0 x3))
end
def mummerref02_begins.f (k : Nat) (l0 : List Int) : Option (Bool) := if 0 < (l0.length : Int) then (if (wrap32 (rd l0 0)) ≥ 192 then (mummerref02_begins.j0 k l0 0 (wrap32 (rd l0 0)) (decide ((wrap32 (rd l0 0)) < 224))) else (mummerref02_begins.j0 k l0 0 (wrap32 (rd l0 0)) false)) else (none)
theorem mummerref02_begins.mono_l : ∀ k, (∀ y0 y1, LeO (mummerref02_begins.j2 k y0 y1) (mummerref02_begins.j2 (k + 1) y0 y1)) ∧ (∀ y0 y1 y2, LeO (mummerref02_begins.l0 k y0 y1 y2) (mummerref02_begins.l0 (k + 1) y0 y1 y2)) ∧ (∀ y0 y1 y2 y3, LeO (mummerref02_begins.l1 k y0 y1 y2 y3) (mummerref02_begins.l1 (k + 1) y0 y1 y2 y3)) ∧ (∀ y0 y1 y2 y3, LeO (mummerref02_begins.j0 k y0 y1 y2 y3) (mummerref02_begins.j0 (k + 1) y0 y1 y2 y3)) ∧ (∀ y0 y1 y2 y3, LeO (mummerref02_begins.j1 k y0 y1 y2 y3) (mummerref02_begins.j1 (k + 1) y0 y1 y2 y3))
  | 0 => ⟨fun _ _ r h => by simp [mummerref02_begins.j2] at h, fun _ _ _ r h => by simp [mummerref02_begins.l0] at h, fun _ _ _ _ r h => by simp [mummerref02_begins.l1] at h, fun _ _ _ _ r h => by simp [mummerref02_begins.j0] at h, fun _ _ _ _ r h => by simp [mummerref02_begins.j1] at h⟩
  | k + 1 => by
    obtain ⟨ih0, ih1, ih2, ih3, ih4⟩ := mummerref02_begins.mono_l k
    refine ⟨?_, ?_, ?_, ?_, ?_⟩
    · intro y0 y1
      unfold mummerref02_begins.j2
      repeat' first
      | (with_reducible exact ih0 _ _)
      | (with_reducible exact ih1 _ _ _)
      | (with_reducible exact ih2 _ _ _ _)
      | (with_reducible exact ih3 _ _ _ _)
      | (with_reducible exact ih4 _ _ _ _)
      | (with_reducible exact LeO.refl _)
      | (with_reducible exact LeO.none _)
      | (with_reducible refine LeO.ite ?_ ?_)
      | (with_reducible refine LeO.bind ?_ (fun _ => ?_))
      | exact ih0 _ _
      | exact ih1 _ _ _
      | exact ih2 _ _ _ _
      | exact ih3 _ _ _ _
      | exact ih4 _ _ _ _
      | exact LeO.none _
      | refine LeO.ite ?_ ?_
      | refine LeO.bind ?_ (fun _ => ?_)
    · intro y0 y1 y2
      unfold mummerref02_begins.l0
      repeat' first
      | (with_reducible exact ih0 _ _)
      | (with_reducible exact ih1 _ _ _)
      | (with_reducible exact ih2 _ _ _ _)
      | (with_reducible exact ih3 _ _ _ _)
      | (with_reducible exact ih4 _ _ _ _)
      | (with_reducible exact LeO.refl _)
      | (with_reducible exact LeO.none _)
      | (with_reducible refine LeO.ite ?_ ?_)
      | (with_reducible refine LeO.bind ?_ (fun _ => ?_))
      | exact ih0 _ _
      | exact ih1 _ _ _
      | exact ih2 _ _ _ _
      | exact ih3 _ _ _ _
      | exact ih4 _ _ _ _
      | exact LeO.none _
      | refine LeO.ite ?_ ?_
      | refine LeO.bind ?_ (fun _ => ?_)
    · intro y0 y1 y2 y3
      unfold mummerref02_begins.l1
      repeat' first
      | (with_reducible exact ih0 _ _)
      | (with_reducible exact ih1 _ _ _)
      | (with_reducible exact ih2 _ _ _ _)
      | (with_reducible exact ih3 _ _ _ _)
      | (with_reducible exact ih4 _ _ _ _)
      | (with_reducible exact LeO.refl _)
      | (with_reducible exact LeO.none _)
      | (with_reducible refine LeO.ite ?_ ?_)
      | (with_reducible refine LeO.bind ?_ (fun _ => ?_))
      | exact ih0 _ _
      | exact ih1 _ _ _
      | exact ih2 _ _ _ _
      | exact ih3 _ _ _ _
      | exact ih4 _ _ _ _
      | exact LeO.none _
      | refine LeO.ite ?_ ?_
      | refine LeO.bind ?_ (fun _ => ?_)
    · intro y0 y1 y2 y3
      unfold mummerref02_begins.j0
      repeat' first
      | (with_reducible exact ih0 _ _)
      | (with_reducible exact ih1 _ _ _)
      | (with_reducible exact ih2 _ _ _ _)
      | (with_reducible exact ih3 _ _ _ _)
      | (with_reducible exact ih4 _ _ _ _)
      | (with_reducible exact LeO.refl _)
      | (with_reducible exact LeO.none _)
      | (with_reducible refine LeO.ite ?_ ?_)
      | (with_reducible refine LeO.bind ?_ (fun _ => ?_))
      | exact ih0 _ _
      | exact ih1 _ _ _
      | exact ih2 _ _ _ _
      | exact ih3 _ _ _ _
      | exact ih4 _ _ _ _
      | exact LeO.none _
      | refine LeO.ite ?_ ?_
      | refine LeO.bind ?_ (fun _ => ?_)
    · intro y0 y1 y2 y3
      unfold mummerref02_begins.j1
      repeat' first
      | (with_reducible exact ih0 _ _)
      | (with_reducible exact ih1 _ _ _)
      | (with_reducible exact ih2 _ _ _ _)
      | (with_reducible exact ih3 _ _ _ _)
      | (with_reducible exact ih4 _ _ _ _)
      | (with_reducible exact LeO.refl _)
      | (with_reducible exact LeO.none _)
      | (with_reducible refine LeO.ite ?_ ?_)
      | (with_reducible refine LeO.bind ?_ (fun _ => ?_))
      | exact ih0 _ _
      | exact ih1 _ _ _
      | exact ih2 _ _ _ _
      | exact ih3 _ _ _ _
      | exact ih4 _ _ _ _
      | exact LeO.none _
      | refine LeO.ite ?_ ?_
      | refine LeO.bind ?_ (fun _ => ?_)
theorem mummerref02_begins.mono : ∀ a0 k, LeO (mummerref02_begins.f k a0) (mummerref02_begins.f (k + 1) a0) := by
  intro a0 k
  obtain ⟨ih0, ih1, ih2, ih3, ih4⟩ := mummerref02_begins.mono_l k
  unfold mummerref02_begins.f
  repeat' first
      | (with_reducible exact ih0 _ _)
      | (with_reducible exact ih1 _ _ _)
      | (with_reducible exact ih2 _ _ _ _)
      | (with_reducible exact ih3 _ _ _ _)
      | (with_reducible exact ih4 _ _ _ _)
      | (with_reducible exact LeO.refl _)
      | (with_reducible exact LeO.none _)
      | (with_reducible refine LeO.ite ?_ ?_)
      | (with_reducible refine LeO.bind ?_ (fun _ => ?_))
      | exact ih0 _ _
      | exact ih1 _ _ _
      | exact ih2 _ _ _ _
      | exact ih3 _ _ _ _
      | exact ih4 _ _ _ _
      | exact LeO.none _
      | refine LeO.ite ?_ ?_
      | refine LeO.bind ?_ (fun _ => ?_)
set_option maxHeartbeats 8000000 in
set_option maxRecDepth 100000 in
theorem mummerref02_begins.calls (k : Nat) (A0 : Option Addr) (c0 : Nat) (l0 : List Int) (r : Bool) (w : World) (hr0 : Kd.C (Kd.int .u8) w A0 l0.length l0) (hc0 : l0.length ≤ c0) (h : mummerref02_begins.f k l0 = some r) :
    Calls Tryd.prog 63 #[.slice A0 l0.length c0] w fun e w' => e = .returned (.bool r) ∧ Below w.heap.size w w' := by
  have HR0 := ak hr0
  have HC0 := ak hc0
  clear hr0 hc0
  have HB := ak (Below.refl w.heap.size w)
  have H : (if 0 < (l0.length : Int) then (if (wrap32 (rd l0 0)) ≥ 192 then (mummerref02_begins.j0 k l0 0 (wrap32 (rd l0 0)) (decide ((wrap32 (rd l0 0)) < 224))) else (mummerref02_begins.j0 k l0 0 (wrap32 (rd l0 0)) false)) else (none)) = some r := h
  clear h
  by_cases c2 : 0 < (l0.length : Int)
  · rw [if_pos c2] at H
    have c2b0 : decide (0 < (l0.length : Int)) = true := decide_eq_true c2
    have c2b1 : decide (0 < l0.length) = true := decide_eq_true (by omega)
    clear c2
    have HC3 := ak H
    clear H
    have p466 : 0 ≤ (0 : Int) := (by omega)
    have q466 : 0 < (l0.length : Int) := of_decide_eq_true (by first | (with_reducible assumption) | assumption)
    obtain ⟨ad466, e466, hx466_0⟩ := Kd.at_int HR0.out 0 p466 q466
    cases e466
    have qi466 : (0 < l0.length) = True := eq_true (by omega)
    (try rw [show ((0 : Int)).toNat = 0 from rfl] at hx466_0)
    (try rw [Addr.add_zero'] at hx466_0)
    replace p466 := eq_true p466
    replace q466 := eq_true q466
    go_enter Tryd.func63, Tryd.ntmps63
    go_upto_block 0 with (fail)
    go_cut [3] (fun v3 wc => ∃ (kq : Nat) (x3_2 : Int), v3 = .int .i64 x3_2 ∧ Aside0 (mummerref02_begins.j2 kq l0 x3_2 = some r) ∧ Aside0 (kq ≤ k) ∧ Aside0 (Below w.heap.size w wc))
    case first =>
      have H := HC3.out
      clear HC3
      have HC4 := ak H
      clear H
      go_upto_region 3 with (fail)
      go_cut [13] (fun v13 wc => ∃ (kq : Nat) (x13_3 : Bool), v13 = .bool x13_3 ∧ Aside0 (mummerref02_begins.j0 kq l0 0 (wrap32 (rd l0 0)) x13_3 = some r) ∧ Aside0 (kq ≤ k) ∧ Aside0 (Below w.heap.size w wc))
      case first =>
        have H := HC4.out
        clear HC4
        by_cases c5 : (wrap32 (rd l0 0)) ≥ 192
        · rw [if_pos c5] at H
          have c5b0 : decide (192 ≤ (wrap32 (rd l0 0))) = true := decide_eq_true c5
          clear c5
          (first | rw [c5b0] | (simp only [i64_w, i32_w]; rw [c5b0]) | skip)
          have H' := ak H
          clear H
          go_wp2
          go_meet
          case rel => exact ⟨_, (decide ((wrap32 (rd l0 0)) < 224)), (by first | rfl | (simp; done) | (simp [*]; done)), H', ⟨by first | omega | exact Nat.le_refl _⟩, ⟨by repeat (first | (with_reducible first | exact HB.out | apply wA | apply wN | apply wD) | exact HB.out)⟩⟩
        · rw [if_neg c5] at H
          have c5b0 : decide (192 ≤ (wrap32 (rd l0 0))) = false := decide_eq_false c5
          clear c5
          (first | rw [c5b0] | (simp only [i64_w, i32_w]; rw [c5b0]) | skip)
          have H' := ak H
          clear H
          go_wp2
          go_meet
          case rel => exact ⟨_, (false), (by first | rfl | (simp; done) | (simp [*]; done)), H', ⟨by first | omega | exact Nat.le_refl _⟩, ⟨by repeat (first | (with_reducible first | exact HB.out | apply wA | apply wN | apply wD) | exact HB.out)⟩⟩
      case rest =>
        clear HC4
        try clear c2
        try clear c2b0
        try clear c2b1
        try clear p2
        try clear p3
        try clear p4
        try clear q4
        try clear hx4
        try clear qi4
        try clear c5
        try clear c5b0
        try clear hx466_0
        try clear p466
        try clear q466
        obtain ⟨kq, x13_3, rfl, HA, HJ3, HB⟩ := hcut
        cases kq with
        | zero => exact absurd HA.out (by simp [mummerref02_begins.j0])
        | succ kj3 =>
          have H := HA.out
          clear HA
          simp only [mummerref02_begins.j0] at H
          by_cases c6 : x13_3 = true
          · subst c6
            have H1 : (mummerref02_begins.j2 kj3 l0 2) = some r := by rw [if_pos rfl] at H; exact H
            clear H
            have H := H1
            clear H1
            have H' := ak H
            clear H
            go_wp2
            go_meet
            case rel => exact ⟨_, (2), (by first | rfl | (simp; done) | (simp [*]; done)), H', ⟨by have := HJ3.out; first | omega | exact Nat.le_refl _⟩, ⟨by repeat (first | (with_reducible first | exact HB.out | apply wA | apply wN | apply wD) | exact HB.out)⟩⟩
          · replace c6 := Bool.eq_false_iff.mpr c6
            subst c6
            have H1 : (if (wrap32 (rd l0 0)) ≥ 224 then (mummerref02_begins.j1 kj3 l0 0 (wrap32 (rd l0 0)) (decide ((wrap32 (rd l0 0)) < 240))) else (mummerref02_begins.j1 kj3 l0 0 (wrap32 (rd l0 0)) false)) = some r := by rw [if_neg (show ¬ (false = true) by decide)] at H; exact H
            clear H
            have H := H1
            clear H1
            have HC7 := ak H
            clear H
            go_upto_region 5 with (fail)
            go_cut [20] (fun v20 wc => ∃ (kq : Nat) (x20_6 : Bool), v20 = .bool x20_6 ∧ Aside0 (mummerref02_begins.j1 kq l0 0 (wrap32 (rd l0 0)) x20_6 = some r) ∧ Aside0 (kq ≤ kj3) ∧ Aside0 (Below w.heap.size w wc))
            case first =>
              have H := HC7.out
              clear HC7
              by_cases c8 : (wrap32 (rd l0 0)) ≥ 224
              · rw [if_pos c8] at H
                have c8b0 : decide (224 ≤ (wrap32 (rd l0 0))) = true := decide_eq_true c8
                clear c8
                (first | rw [c8b0] | (simp only [i64_w, i32_w]; rw [c8b0]) | skip)
                have H' := ak H
                clear H
                go_wp2
                go_meet
                case rel => exact ⟨_, (decide ((wrap32 (rd l0 0)) < 240)), (by first | rfl | (simp; done) | (simp [*]; done)), H', ⟨by have := HJ3.out; first | omega | exact Nat.le_refl _⟩, ⟨by repeat (first | (with_reducible first | exact HB.out | apply wA | apply wN | apply wD) | exact HB.out)⟩⟩
              · rw [if_neg c8] at H
                have c8b0 : decide (224 ≤ (wrap32 (rd l0 0))) = false := decide_eq_false c8
                clear c8
                (first | rw [c8b0] | (simp only [i64_w, i32_w]; rw [c8b0]) | skip)
                have H' := ak H
                clear H
                go_wp2
                go_meet
                case rel => exact ⟨_, (false), (by first | rfl | (simp; done) | (simp [*]; done)), H', ⟨by have := HJ3.out; first | omega | exact Nat.le_refl _⟩, ⟨by repeat (first | (with_reducible first | exact HB.out | apply wA | apply wN | apply wD) | exact HB.out)⟩⟩
            case rest =>
              clear HC7
              try clear c2
              try clear c2b0
              try clear c2b1
              try clear p2
              try clear p3
              try clear p4
              try clear q4
              try clear hx4
              try clear qi4
              try clear c5
              try clear c5b0
              try clear c6
              try clear c8
              try clear c8b0
              try clear hx466_0
              try clear p2
              try clear p3
              try clear p4
              try clear p466
              try clear q4
              try clear q466
              obtain ⟨kq, x20_6, rfl, HA, HJ6, HB⟩ := hcut
              cases kq with
              | zero => exact absurd HA.out (by simp [mummerref02_begins.j1])
              | succ kj6 =>
                have H := HA.out
                clear HA
                simp only [mummerref02_begins.j1] at H
                by_cases c9 : x20_6 = true
                · subst c9
                  have H1 : (mummerref02_begins.j2 kj6 l0 3) = some r := by rw [if_pos rfl] at H; exact H
                  clear H
                  have H := H1
                  clear H1
                  have H' := ak H
                  clear H
                  go_wp2
                  go_meet
                  case rel => exact ⟨_, (3), (by first | rfl | (simp; done) | (simp [*]; done)), H', ⟨by have := HJ3.out; have := HJ6.out; first | omega | exact Nat.le_refl _⟩, ⟨by repeat (first | (with_reducible first | exact HB.out | apply wA | apply wN | apply wD) | exact HB.out)⟩⟩
                · replace c9 := Bool.eq_false_iff.mpr c9
                  subst c9
                  have H1 : (if (wrap32 (rd l0 0)) ≥ 240 then (if (wrap32 (rd l0 0)) < 248 then (mummerref02_begins.j2 kj6 l0 4) else (mummerref02_begins.j2 kj6 l0 0)) else (mummerref02_begins.j2 kj6 l0 0)) = some r := by rw [if_neg (show ¬ (false = true) by decide)] at H; exact H
                  clear H
                  have H := H1
                  clear H1
                  by_cases c10 : (wrap32 (rd l0 0)) ≥ 240
                  · rw [if_pos c10] at H
                    have c10b0 : decide (240 ≤ (wrap32 (rd l0 0))) = true := decide_eq_true c10
                    clear c10
                    by_cases c11 : (wrap32 (rd l0 0)) < 248
                    · rw [if_pos c11] at H
                      have c11b0 : decide ((wrap32 (rd l0 0)) < 248) = true := decide_eq_true c11
                      clear c11
                      have H' := ak H
                      clear H
                      go_wp2
                      go_meet
                      case rel => exact ⟨_, (4), (by first | rfl | (simp; done) | (simp [*]; done)), H', ⟨by have := HJ3.out; have := HJ6.out; first | omega | exact Nat.le_refl _⟩, ⟨by repeat (first | (with_reducible first | exact HB.out | apply wA | apply wN | apply wD) | exact HB.out)⟩⟩
                    · rw [if_neg c11] at H
                      have c11b0 : decide ((wrap32 (rd l0 0)) < 248) = false := decide_eq_false c11
                      clear c11
                      have H' := ak H
                      clear H
                      go_wp2
                      go_meet
                      case rel => exact ⟨_, (0), (by first | rfl | (simp; done) | (simp [*]; done)), H', ⟨by have := HJ3.out; have := HJ6.out; first | omega | exact Nat.le_refl _⟩, ⟨by repeat (first | (with_reducible first | exact HB.out | apply wA | apply wN | apply wD) | exact HB.out)⟩⟩
                  · rw [if_neg c10] at H
                    have c10b0 : decide (240 ≤ (wrap32 (rd l0 0))) = false := decide_eq_false c10
                    clear c10
                    have H' := ak H
                    clear H
                    go_wp2
                    go_meet
                    case rel => exact ⟨_, (0), (by first | rfl | (simp; done) | (simp [*]; done)), H', ⟨by have := HJ3.out; have := HJ6.out; first | omega | exact Nat.le_refl _⟩, ⟨by repeat (first | (with_reducible first | exact HB.out | apply wA | apply wN | apply wD) | exact HB.out)⟩⟩
    case rest =>
      clear HC3
      try clear c1
      try clear c2
      try clear c2b0
      try clear c2b1
      try clear p2
      try clear p3
      try clear p4
      try clear q4
      try clear hx4
      try clear qi4
      try clear c5
      try clear c5b0
      try clear c6
      try clear c8
      try clear c8b0
      try clear c9
      try clear c10
      try clear c10b0
      try clear c11
      try clear c11b0
      try clear hx466_0
      try clear p2
      try clear p3
      try clear p4
      try clear p466
      try clear q4
      try clear q466
      obtain ⟨kq, x3_2, rfl, HA, HJ2, HB⟩ := hcut
      cases kq with
      | zero => exact absurd HA.out (by simp [mummerref02_begins.j2])
      | succ kj2 =>
        have H := HA.out
        clear HA
        simp only [mummerref02_begins.j2] at H
        by_cases c12 : (l0.length : Int) ≥ x3_2
        · rw [if_pos c12] at H
          have c12b0 : decide (x3_2 ≤ (l0.length : Int)) = true := decide_eq_true c12
          clear c12
          obtain rfl := Option.some.inj H
          go_wp2
          go_ret
          exact ⟨by first | rfl | (simp [errW_none, errW_some] <;> rfl) | (simp [*, errW_none, errW_some] <;> rfl), by repeat (first | (with_reducible first | exact HB.out | apply wA | apply wN | apply wD) | exact HB.out)⟩
        · rw [if_neg c12] at H
          have c12b0 : decide (x3_2 ≤ (l0.length : Int)) = false := decide_eq_false c12
          clear c12
          have H' := ak H
          clear H
          go_wp2
          go_loopg [5] kj2 (fun kq v5 w' => ∃ (x5_2 : Int), v5 = .int .i64 x5_2 ∧ Aside0 (mummerref02_begins.l0 kq l0 x3_2 x5_2 = some r) ∧ Aside0 (kq ≤ kj2) ∧ Aside0 (Below w.heap.size w w'))
          case atStart => exact ⟨(128), (by first | rfl | (simp; done) | (simp [*]; done)), H', ⟨Nat.le_refl _⟩, ⟨by repeat (first | (with_reducible first | exact HB.out | apply wA | apply wN | apply wD) | exact HB.out)⟩⟩
          case round =>
            clear H'
            try clear c1
            try clear c2
            try clear c2b0
            try clear c2b1
            try clear p2
            try clear p3
            try clear p4
            try clear q4
            try clear hx4
            try clear qi4
            try clear c5
            try clear c5b0
            try clear c6
            try clear c8
            try clear c8b0
            try clear c9
            try clear c10
            try clear c10b0
            try clear c11
            try clear c11b0
            try clear c12
            try clear c12b0
            try clear hx466_0
            try clear p2
            try clear p3
            try clear p4
            try clear p466
            try clear q4
            try clear q466
            obtain ⟨x5_2, rfl, HA, HK2, HB⟩ := hrel
            cases gk with
            | zero => exact absurd HA.out (by simp [mummerref02_begins.l0])
            | succ k2 =>
              have H := HA.out
              clear HA
              simp only [mummerref02_begins.l0] at H
              by_cases c13 : x5_2 ≤ 191
              · rw [if_pos c13] at H
                have c13b0 : decide (x5_2 ≤ 191) = true := decide_eq_true c13
                clear c13
                obtain ⟨y467, hy467⟩ : ∃ y_ : List Int, y_ = (([] : List Int)) := ⟨_, rfl⟩
                replace H : (if y467.length + l0.length < 140737488355328 then (mummerref02_begins.l1 k2 l0 x3_2 x5_2 (y467 ++ l0)) else (none)) = some r := by first | (rw [hy467]; with_reducible exact H) | (have H2_ := (Option.bind_some _ _).symm.trans H; rw [hy467]; with_reducible exact H2_) | (have H2_ := (Option.bind_some _ _).symm.trans H; with_reducible exact H2_) | with_reducible exact H | (rw [hy467]; exact H) | exact H
                have Ny467 := ak hy467
                clear hy467
                by_cases c14 : y467.length + l0.length < 140737488355328
                · rw [if_pos c14] at H
                  have LMc14 := ak c14
                  clear c14
                  obtain ⟨y470, hy470⟩ : ∃ y_ : List Int, y_ = (y467 ++ l0) := ⟨_, rfl⟩
                  replace H : (mummerref02_begins.l1 k2 l0 x3_2 x5_2 y470) = some r := by first | (rw [hy470]; with_reducible exact H) | (have H2_ := (Option.bind_some _ _).symm.trans H; rw [hy470]; with_reducible exact H2_) | (have H2_ := (Option.bind_some _ _).symm.trans H; with_reducible exact H2_) | with_reducible exact H | (rw [hy470]; exact H) | exact H
                  have Ny470 := ak hy470
                  clear hy470
                  have H' := ak H
                  clear H
                  go_wp2_with (first | ((with_reducible refine gate_dst (N := 42) rfl ?_); refine Kd.R_lit (Kd.int .u8) _ 5 ?hg (N := 42) ?hd (xs := ([] : List Int)) (inner := []) (ok := fun _ => True) (okp := fun _ => True) ?hr ?hp (fun _ hk => hk) trivial (Below.refl _ _) (Nat.le_refl _) (by simp) ?_; (case hd => rfl); (case hg => rfl); (case hr => first | (go_simp; done) | (go_simp; rfl)); (case hp => exact (Reps.none _ _)); intro v468 w15 ho16 hb hg_ hnew_; clear hg_ hnew_; (first | rw [← Ny467.out] at ho16 | (simp only [Int.reduceToNat] at ho16; rw [← Ny467.out] at ho16)); have n0_ := ak (Kd.R_lower ho16 (below_size (by repeat (first | (with_reducible first | exact HB.out | apply wA | apply wN | apply wD) | exact HB.out)))); have n1_ := ak (below_step (by repeat (first | (with_reducible first | exact HB.out | apply wA | apply wN | apply wD) | exact HB.out)) hb); clear HB; have HO469 := n0_; have HB := n1_; clear n0_ n1_; clear hb ho16) | ((with_reducible refine gate_builtin (b := .append) (xs := #[.tmp 42, .tmp 43]) rfl ?_); at_builtin; refine Kd.R_append_rows (Kd.int .u8) (w0 := w) w.heap.size rfl (.tmp 42) (.tmp 43) 45 5 (.int .u8 0) 1 rfl Tryd.underlying45 info5 rfl (by decide) (by omega) v468 y467 l0 _ _ _ (fun _ => True) (fun _ => False) rfl rfl ?aO ?aR (fun _ _ h => h) (fun _ h => h.elim) ?aF ?aB ?aS ?aL ?_; (case aR => repeat (first | exact (Kd.C_below HR0.out HB.out) | (with_reducible refine Kd.C_alloc ?_ _) | (with_reducible refine Kd.C_drewN ?_ _) | (with_reducible refine Kd.C_drew ?_))); (case aB => exact (by repeat (first | (with_reducible first | exact HB.out | apply wA | apply wN | apply wD) | exact HB.out))); (case aF => exact (fun _ _ => trivial)); (case aO => exact (by (with_reducible repeat (first | apply Kd.R_alloc | apply Kd.R_drewN | apply Kd.R_drew)); exact HO469.out)); (case aS => exact (below_size (by repeat (first | (with_reducible first | exact HB.out | apply wA | apply wN | apply wD) | exact HB.out)))); (case aL => have := LMc14.out; omega); intro v471 w17 ho hb hg hat; rw [← Ny470.out] at ho; have n0_ := ak (hb); have n1_ := ak (ho); clear HB; clear HO469; have HB := n0_; have HO472 := n1_; clear n0_ n1_; clear ho hb hg hat))
                  go_loopg [6] k2 (fun kq v6 w' => ∃ (x6_3 : List Int), Aside0 (mummerref02_begins.l1 kq l0 x3_2 x5_2 x6_3 = some r) ∧ Aside0 (kq ≤ k2) ∧ Aside0 (Kd.R (Kd.int .u8) 5 w' w.heap.size (fun _ => True) v6 x6_3) ∧ Aside0 (Below w.heap.size w w'))
                  case atStart => exact ⟨(y470), H', ⟨Nat.le_refl _⟩, ⟨by (with_reducible repeat (first | apply Kd.R_alloc | apply Kd.R_drewN | apply Kd.R_drew)); exact HO472.out⟩, ⟨by repeat (first | (with_reducible first | exact HB.out | apply wA | apply wN | apply wD) | exact HB.out)⟩⟩
                  case round =>
                    clear H'
                    try clear c1
                    try clear c2
                    try clear c2b0
                    try clear c2b1
                    try clear p2
                    try clear p3
                    try clear p4
                    try clear q4
                    try clear hx4
                    try clear qi4
                    try clear c5
                    try clear c5b0
                    try clear c6
                    try clear c8
                    try clear c8b0
                    try clear c9
                    try clear c10
                    try clear c10b0
                    try clear c11
                    try clear c11b0
                    try clear c12
                    try clear c12b0
                    try clear c13
                    try clear c13b0
                    try clear c14
                    try clear hx466_0
                    try clear p2
                    try clear p3
                    try clear p4
                    try clear p466
                    try clear q4
                    try clear q466
                    obtain ⟨x6_3, HA, HK3, HO_6, HB⟩ := hrel
                    cases gk with
                    | zero => exact absurd HA.out (by simp [mummerref02_begins.l1])
                    | succ k3 =>
                      have H := HA.out
                      clear HA
                      simp only [mummerref02_begins.l1] at H
                      by_cases c18 : (x6_3.length : Int) < x3_2
                      · rw [if_pos c18] at H
                        have c18b0 : decide ((x6_3.length : Int) < x3_2) = true := decide_eq_true c18
                        clear c18
                        by_cases c19 : x6_3.length < 140737488355328
                        · rw [if_pos c19] at H
                          have LMc19 := ak c19
                          clear c19
                          obtain ⟨y473, hy473⟩ : ∃ y_ : List Int, y_ = (x6_3 ++ [(x5_2) % 256]) := ⟨_, rfl⟩
                          replace H : (mummerref02_begins.l1 k3 l0 x3_2 x5_2 y473) = some r := by first | (rw [hy473]; with_reducible exact H) | (have H2_ := (Option.bind_some _ _).symm.trans H; rw [hy473]; with_reducible exact H2_) | (have H2_ := (Option.bind_some _ _).symm.trans H; with_reducible exact H2_) | with_reducible exact H | (rw [hy473]; exact H) | exact H
                          have Ny473 := ak hy473
                          clear hy473
                          have H' := ak H
                          clear H
                          obtain ⟨Ao20, co20, eo20⟩ := Kd.R_slice HO_6.out
                          subst eo20
                          go_wp2_with (first | ((with_reducible refine gate_builtin (b := .append) (xs := #[.tmp 49, .tmp 52]) rfl ?_); at_builtin; refine Kd.R_append (Kd.int .u8) (w0 := w) w.heap.size rfl (.tmp 49) (.tmp 52) 45 5 (.int .u8 0) 1 rfl Tryd.underlying45 info5 rfl (by decide) (by omega) (.slice Ao20 x6_3.length co20) x6_3 ((x5_2) % 256) [.int .u8 ((x5_2) % 256)] (fun _ => True) (fun _ => False) rfl rfl ?aP (fun _ hk => hk.elim) ?aF ?aO ?aB ?aS ?aL ?_; (case aP => exact rfl); (case aB => exact (by repeat (first | (with_reducible first | exact HB.out | apply wA | apply wN | apply wD) | exact HB.out))); (case aF => exact (fun _ _ => trivial)); (case aO => exact (by (with_reducible repeat (first | apply Kd.R_alloc | apply Kd.R_drewN | apply Kd.R_drew)); exact HO_6.out)); (case aS => exact (below_size (by repeat (first | (with_reducible first | exact HB.out | apply wA | apply wN | apply wD) | exact HB.out)))); (case aL => have := LMc19.out; omega); intro v474 w21 ho hb hg hat; rw [← Ny473.out] at ho; have n0_ := ak (hb); have n1_ := ak (ho); clear HB; clear HO_6; have HB := n0_; have HO475 := n1_; clear n0_ n1_; clear ho hb hg hat))
                          go_roundg k3
                          case measure => have := HJ2.out; have := HK2.out; have := HK3.out; omega
                          case rel => exact ⟨(y473), H', ⟨by have := HJ2.out; have := HK2.out; have := HK3.out; omega⟩, ⟨by (with_reducible repeat (first | apply Kd.R_alloc | apply Kd.R_drewN | apply Kd.R_drew)); exact HO475.out⟩, ⟨by repeat (first | (with_reducible first | exact HB.out | apply wA | apply wN | apply wD) | exact HB.out)⟩⟩
                        · rw [if_neg c19] at H
                          exact absurd H (by simp)
                      · rw [if_neg c18] at H
                        have c18b0 : decide ((x6_3.length : Int) < x3_2) = false := decide_eq_false c18
                        clear c18
                        replace H := Option.bind_eq_some_iff.mp H
                        obtain ⟨⟨t476, t477⟩, A220, H⟩ := H
                        replace H : (if t477 = true then (some true) else (mummerref02_begins.l0 k3 l0 x3_2 (wrap64 (x5_2 + 63)))) = some r := H
                        have A22 := ak A220
                        clear A220
                        by_cases c23 : t477 = true
                        · subst c23
                          have H1 : (some true) = some r := by rw [if_pos rfl] at H; exact H
                          clear H
                          have H := H1
                          clear H1
                          obtain rfl := Option.some.inj H
                          obtain ⟨Ao24, co24, eo24⟩ := Kd.R_slice HO_6.out
                          subst eo24
                          go_wp2_with (first | ((with_reducible refine gate_callee (f := 62) rfl ?_); refine goesL_ (some 56) rfl rfl Tryd.func62 (by kernel_rfl) rfl #[.slice Ao24 x6_3.length co24] rfl (by (try simp only [List.map_toArray, List.map_cons, List.map_nil]); first | done | rfl | (simp only [List.length_drop, List.length_take]; rfl)) ?_; (with_reducible refine (mummerref02_stands.calls _ _ x6_3 t476 true _ ?side1 ?side2 A22.out).mono ?_); (case side1 => repeat (first | exact (Kd.R_reads' HO_6.out).2.2 | (with_reducible refine Kd.C_alloc ?_ _) | (with_reducible refine Kd.C_drewN ?_ _) | (with_reducible refine Kd.C_drew ?_))); (case side2 => exact (Kd.R_reads' HO_6.out).2.1); rintro e w25 ⟨rfl, hb⟩; refine ⟨_, rfl, ?_⟩; have n0_ := ak (Kd.R_below (by (with_reducible repeat (first | apply Kd.R_alloc | apply Kd.R_drewN | apply Kd.R_drew)); exact HO_6.out) hb); have n1_ := ak (below_step (by repeat (first | (with_reducible first | exact HB.out | apply wA | apply wN | apply wD) | exact HB.out)) hb); clear HO_6; clear HB; have HO_6 := n0_; have HB := n1_; clear n0_ n1_; (try clear hb); (try clear hb2); (try clear hk); (try clear hi)))
                          go_ret
                          exact ⟨by first | rfl | (simp [errW_none, errW_some] <;> rfl) | (simp [*, errW_none, errW_some] <;> rfl), by repeat (first | (with_reducible first | exact HB.out | apply wA | apply wN | apply wD) | exact HB.out)⟩
                        · replace c23 := Bool.eq_false_iff.mpr c23
                          subst c23
                          have H1 : (mummerref02_begins.l0 k3 l0 x3_2 (wrap64 (x5_2 + 63))) = some r := by rw [if_neg (show ¬ (false = true) by decide)] at H; exact H
                          clear H
                          have H := H1
                          clear H1
                          have H' := ak H
                          clear H
                          obtain ⟨Ao26, co26, eo26⟩ := Kd.R_slice HO_6.out
                          subst eo26
                          go_wp2_with (first | ((with_reducible refine gate_callee (f := 62) rfl ?_); refine goesL_ (some 56) rfl rfl Tryd.func62 (by kernel_rfl) rfl #[.slice Ao26 x6_3.length co26] rfl (by (try simp only [List.map_toArray, List.map_cons, List.map_nil]); first | done | rfl | (simp only [List.length_drop, List.length_take]; rfl)) ?_; (with_reducible refine (mummerref02_stands.calls _ _ x6_3 t476 false _ ?side1 ?side2 A22.out).mono ?_); (case side1 => repeat (first | exact (Kd.R_reads' HO_6.out).2.2 | (with_reducible refine Kd.C_alloc ?_ _) | (with_reducible refine Kd.C_drewN ?_ _) | (with_reducible refine Kd.C_drew ?_))); (case side2 => exact (Kd.R_reads' HO_6.out).2.1); rintro e w27 ⟨rfl, hb⟩; refine ⟨_, rfl, ?_⟩; have n0_ := ak (Kd.R_below (by (with_reducible repeat (first | apply Kd.R_alloc | apply Kd.R_drewN | apply Kd.R_drew)); exact HO_6.out) hb); have n1_ := ak (below_step (by repeat (first | (with_reducible first | exact HB.out | apply wA | apply wN | apply wD) | exact HB.out)) hb); clear HO_6; clear HB; have HO_6 := n0_; have HB := n1_; clear n0_ n1_; (try clear hb); (try clear hb2); (try clear hk); (try clear hi)))
                          go_roundg k3
                          case measure => have := HJ2.out; have := HK2.out; have := HK3.out; omega
                          case rel => exact ⟨(wrap64 (x5_2 + 63)), (by first | rfl | (simp; done) | (simp [*]; done)), H', ⟨by have := HJ2.out; have := HK2.out; have := HK3.out; omega⟩, ⟨by repeat (first | (with_reducible first | exact HB.out | apply wA | apply wN | apply wD) | exact HB.out)⟩⟩
                · rw [if_neg c14] at H
                  exact absurd H (by simp)
              · rw [if_neg c13] at H
                have c13b0 : decide (x5_2 ≤ 191) = false := decide_eq_false c13
                clear c13
                obtain rfl := Option.some.inj H
                go_wp2
                go_ret
                exact ⟨by first | rfl | (simp [errW_none, errW_some] <;> rfl) | (simp [*, errW_none, errW_some] <;> rfl), by repeat (first | (with_reducible first | exact HB.out | apply wA | apply wN | apply wD) | exact HB.out)⟩
  · rw [if_neg c2] at H
    exact absurd H (by simp)
end Go.Proofs.YtnkfdobcmfdhfaaDoor.P
namespace Go.Proofs.YtnkfdobcmfdhfaaDoor.P
open Go.RowKit Go.Proofs.YtnkfdobcmfdhfaaDoorW.PrintWords Go.Proofs.YtnkfdobcmfdhfaaDoorW.PrintLast Go.Proofs.YtnkfdobcmfdhfaaDoorW.PrintMore
attribute [local go_sem] max2_int min2_int max_two min_two max_three min_three max_four min_four   -- for this text's walks alone
set_option linter.unusedVariables false
set_option linter.unusedSimpArgs false
mutual
def mummerref02_Decode.j0 : Nat → List Int → Int → Bool → Option (Int × Int × Int)
  | 0, _, _, _ => none
  | k + 1, x0, x1, x17 => if x17 = true then (some (0, 0, 7)) else (mummerref02_Decode.l0 k x0 x1 1)
def mummerref02_Decode.l0 : Nat → List Int → Int → Int → Option (Int × Int × Int)
  | 0, _, _, _ => none
  | k + 1, x0, x1, x7 => if x7 ≤ 4 then (mummerref02_Decode.j2 k x0 x1 x7 (decide ((wrap64 (x1 + x7)) ≤ (x0.length : Int)))) else (mummerref02_Decode.j2 k x0 x1 x7 false)
def mummerref02_Decode.j2 : Nat → List Int → Int → Int → Bool → Option (Int × Int × Int)
  | 0, _, _, _, _ => none
  | k + 1, x0, x1, x7, x27 => if x27 = true then (if 0 ≤ x1 then (if x1 ≤ (wrap64 (x1 + x7)) then (if (wrap64 (x1 + x7)) ≤ (x0.length : Int) then ((mummerref02_stands.f ((x0.take ((wrap64 (x1 + x7)) : Int).toNat).drop (x1 : Int).toNat)).bind fun bt479 => (if bt479.2 = true then (some (bt479.1, x7, 0)) else (mummerref02_Decode.l0 k x0 x1 (wrap64 (x7 + 1))))) else (none)) else (none)) else (none)) else (if (wrap64 ((x0.length : Int) - x1)) < 4 then (if 0 ≤ x1 then (if x1 ≤ (x0.length : Int) then ((mummerref02_begins.f k (x0.drop (x1 : Int).toNat)).bind fun t482 => (if t482 = true then (some (0, 0, 320)) else (some (0, 0, 6)))) else (none)) else (none)) else (some (0, 0, 6)))
end
def mummerref02_Decode.f (k : Nat) (l0 : List Int) (a1 : Int) : Option (Int × Int × Int) := if a1 < 0 then (mummerref02_Decode.j0 k l0 a1 true) else (mummerref02_Decode.j0 k l0 a1 (decide (a1 ≥ (l0.length : Int))))
theorem mummerref02_Decode.mono_l : ∀ k, (∀ y0 y1 y2, LeO (mummerref02_Decode.j0 k y0 y1 y2) (mummerref02_Decode.j0 (k + 1) y0 y1 y2)) ∧ (∀ y0 y1 y2, LeO (mummerref02_Decode.l0 k y0 y1 y2) (mummerref02_Decode.l0 (k + 1) y0 y1 y2)) ∧ (∀ y0 y1 y2 y3, LeO (mummerref02_Decode.j2 k y0 y1 y2 y3) (mummerref02_Decode.j2 (k + 1) y0 y1 y2 y3))
  | 0 => ⟨fun _ _ _ r h => by simp [mummerref02_Decode.j0] at h, fun _ _ _ r h => by simp [mummerref02_Decode.l0] at h, fun _ _ _ _ r h => by simp [mummerref02_Decode.j2] at h⟩
  | k + 1 => by
    obtain ⟨ih0, ih1, ih2⟩ := mummerref02_Decode.mono_l k
    refine ⟨?_, ?_, ?_⟩
    · intro y0 y1 y2
      unfold mummerref02_Decode.j0
      repeat' first
      | (with_reducible exact ih0 _ _ _)
      | (with_reducible exact ih1 _ _ _)
      | (with_reducible exact ih2 _ _ _ _)
      | (with_reducible exact mummerref02_begins.mono _ _)
      | (with_reducible exact LeO.refl _)
      | (with_reducible exact LeO.none _)
      | (with_reducible refine LeO.ite ?_ ?_)
      | (with_reducible refine LeO.bind ?_ (fun _ => ?_))
      | exact ih0 _ _ _
      | exact ih1 _ _ _
      | exact ih2 _ _ _ _
      | exact mummerref02_begins.mono _ _
      | exact LeO.none _
      | refine LeO.ite ?_ ?_
      | refine LeO.bind ?_ (fun _ => ?_)
    · intro y0 y1 y2
      unfold mummerref02_Decode.l0
      repeat' first
      | (with_reducible exact ih0 _ _ _)
      | (with_reducible exact ih1 _ _ _)
      | (with_reducible exact ih2 _ _ _ _)
      | (with_reducible exact mummerref02_begins.mono _ _)
      | (with_reducible exact LeO.refl _)
      | (with_reducible exact LeO.none _)
      | (with_reducible refine LeO.ite ?_ ?_)
      | (with_reducible refine LeO.bind ?_ (fun _ => ?_))
      | exact ih0 _ _ _
      | exact ih1 _ _ _
      | exact ih2 _ _ _ _
      | exact mummerref02_begins.mono _ _
      | exact LeO.none _
      | refine LeO.ite ?_ ?_
      | refine LeO.bind ?_ (fun _ => ?_)
    · intro y0 y1 y2 y3
      unfold mummerref02_Decode.j2
      repeat' first
      | (with_reducible exact ih0 _ _ _)
      | (with_reducible exact ih1 _ _ _)
      | (with_reducible exact ih2 _ _ _ _)
      | (with_reducible exact mummerref02_begins.mono _ _)
      | (with_reducible exact LeO.refl _)
      | (with_reducible exact LeO.none _)
      | (with_reducible refine LeO.ite ?_ ?_)
      | (with_reducible refine LeO.bind ?_ (fun _ => ?_))
      | exact ih0 _ _ _
      | exact ih1 _ _ _
      | exact ih2 _ _ _ _
      | exact mummerref02_begins.mono _ _
      | exact LeO.none _
      | refine LeO.ite ?_ ?_
      | refine LeO.bind ?_ (fun _ => ?_)
theorem mummerref02_Decode.mono : ∀ a0 a1 k, LeO (mummerref02_Decode.f k a0 a1) (mummerref02_Decode.f (k + 1) a0 a1) := by
  intro a0 a1 k
  obtain ⟨ih0, ih1, ih2⟩ := mummerref02_Decode.mono_l k
  unfold mummerref02_Decode.f
  repeat' first
      | (with_reducible exact ih0 _ _ _)
      | (with_reducible exact ih1 _ _ _)
      | (with_reducible exact ih2 _ _ _ _)
      | (with_reducible exact mummerref02_begins.mono _ _)
      | (with_reducible exact LeO.refl _)
      | (with_reducible exact LeO.none _)
      | (with_reducible refine LeO.ite ?_ ?_)
      | (with_reducible refine LeO.bind ?_ (fun _ => ?_))
      | exact ih0 _ _ _
      | exact ih1 _ _ _
      | exact ih2 _ _ _ _
      | exact mummerref02_begins.mono _ _
      | exact LeO.none _
      | refine LeO.ite ?_ ?_
      | refine LeO.bind ?_ (fun _ => ?_)
set_option maxHeartbeats 8000000 in
set_option maxRecDepth 100000 in
theorem mummerref02_Decode.calls (k : Nat) (A0 : Option Addr) (c0 : Nat) (l0 : List Int) (a1 : Int) (r1 : Int) (r2 : Int) (r3 : Int) (w : World) (hr0 : Kd.C (Kd.int .u8) w A0 l0.length l0) (hc0 : l0.length ≤ c0) (h : mummerref02_Decode.f k l0 a1 = some (r1, r2, r3)) :
    Calls Tryd.prog 54 #[.slice A0 l0.length c0, .int .i64 a1] w fun e w' => e = .returned (.tuple #[.int .i32 r1, .int .i64 r2, .int .i64 r3]) ∧ Below w.heap.size w w' := by
  have HR0 := ak hr0
  have HC0 := ak hc0
  clear hr0 hc0
  have HB := ak (Below.refl w.heap.size w)
  have H : (if a1 < 0 then (mummerref02_Decode.j0 k l0 a1 true) else (mummerref02_Decode.j0 k l0 a1 (decide (a1 ≥ (l0.length : Int))))) = some (r1, r2, r3) := h
  clear h
  have HC3 := ak H
  clear H
  go_enter Tryd.func54, Tryd.ntmps54
  go_upto_region 1 with (fail)
  go_cut [17] (fun v17 wc => ∃ (kq : Nat) (x17_2 : Bool), v17 = .bool x17_2 ∧ Aside0 (mummerref02_Decode.j0 kq l0 a1 x17_2 = some (r1, r2, r3)) ∧ Aside0 (kq ≤ k) ∧ Aside0 (Below w.heap.size w wc))
  case first =>
    have H := HC3.out
    clear HC3
    by_cases c4 : a1 < 0
    · rw [if_pos c4] at H
      have c4b0 : decide (a1 < 0) = true := decide_eq_true c4
      clear c4
      (first | rw [c4b0] | (simp only [i64_w, i32_w]; rw [c4b0]) | skip)
      have H' := ak H
      clear H
      go_wp2
      go_meet
      case rel => exact ⟨_, (true), (by first | rfl | (simp; done) | (simp [*]; done)), H', ⟨by first | omega | exact Nat.le_refl _⟩, ⟨by repeat (first | (with_reducible first | exact HB.out | apply wA | apply wN | apply wD) | exact HB.out)⟩⟩
    · rw [if_neg c4] at H
      have c4b0 : decide (a1 < 0) = false := decide_eq_false c4
      clear c4
      (first | rw [c4b0] | (simp only [i64_w, i32_w]; rw [c4b0]) | skip)
      have H' := ak H
      clear H
      go_wp2
      go_meet
      case rel => exact ⟨_, (decide (a1 ≥ (l0.length : Int))), (by first | rfl | (simp; done) | (simp [*]; done)), H', ⟨by first | omega | exact Nat.le_refl _⟩, ⟨by repeat (first | (with_reducible first | exact HB.out | apply wA | apply wN | apply wD) | exact HB.out)⟩⟩
  case rest =>
    clear HC3
    try clear p2
    try clear c4
    try clear c4b0
    obtain ⟨kq, x17_2, rfl, HA, HJ2, HB⟩ := hcut
    cases kq with
    | zero => exact absurd HA.out (by simp [mummerref02_Decode.j0])
    | succ kj2 =>
      have H := HA.out
      clear HA
      simp only [mummerref02_Decode.j0] at H
      by_cases c5 : x17_2 = true
      · subst c5
        have H1 : (some (0, 0, 7)) = some (r1, r2, r3) := by rw [if_pos rfl] at H; exact H
        clear H
        have H := H1
        clear H1
        simp only [Option.some.injEq, Prod.mk.injEq] at H
        obtain ⟨rfl, rfl, rfl⟩ := H
        go_wp2
        go_ret3
        exact ⟨by first | rfl | (simp [errW_none, errW_some] <;> rfl) | (simp [*, errW_none, errW_some] <;> rfl), by repeat (first | (with_reducible first | exact HB.out | apply wA | apply wN | apply wD) | exact HB.out)⟩
      · replace c5 := Bool.eq_false_iff.mpr c5
        subst c5
        have H1 : (mummerref02_Decode.l0 kj2 l0 a1 1) = some (r1, r2, r3) := by rw [if_neg (show ¬ (false = true) by decide)] at H; exact H
        clear H
        have H := H1
        clear H1
        have H' := ak H
        clear H
        go_wp2
        go_loopg [7] kj2 (fun kq v7 w' => ∃ (x7_2 : Int), v7 = .int .i64 x7_2 ∧ Aside0 (mummerref02_Decode.l0 kq l0 a1 x7_2 = some (r1, r2, r3)) ∧ Aside0 (kq ≤ kj2) ∧ Aside0 (Below w.heap.size w w'))
        case atStart => exact ⟨(1), (by first | rfl | (simp; done) | (simp [*]; done)), H', ⟨Nat.le_refl _⟩, ⟨by repeat (first | (with_reducible first | exact HB.out | apply wA | apply wN | apply wD) | exact HB.out)⟩⟩
        case round =>
          clear H'
          try clear p2
          try clear c4
          try clear c4b0
          try clear c5
          try clear p2
          obtain ⟨x7_2, rfl, HA, HK2, HB⟩ := hrel
          cases gk with
          | zero => exact absurd HA.out (by simp [mummerref02_Decode.l0])
          | succ k2 =>
            have H := HA.out
            clear HA
            simp only [mummerref02_Decode.l0] at H
            have HC6 := ak H
            clear H
            go_upto_region 4 with (fail)
            go_cut [27] (fun v27 wc => ∃ (kq : Nat) (x27_5 : Bool), v27 = .bool x27_5 ∧ Aside0 (mummerref02_Decode.j2 kq l0 a1 x7_2 x27_5 = some (r1, r2, r3)) ∧ Aside0 (kq ≤ k2) ∧ Aside0 (Below w.heap.size w wc))
            case first =>
              have H := HC6.out
              clear HC6
              by_cases c7 : x7_2 ≤ 4
              · rw [if_pos c7] at H
                have c7b0 : decide (x7_2 ≤ 4) = true := decide_eq_true c7
                clear c7
                (first | rw [c7b0] | (simp only [i64_w, i32_w]; rw [c7b0]) | skip)
                have H' := ak H
                clear H
                go_wp2
                go_meet
                case rel => exact ⟨_, (decide ((wrap64 (a1 + x7_2)) ≤ (l0.length : Int))), (by first | rfl | (simp; done) | (simp [*]; done)), H', ⟨by have := HJ2.out; have := HK2.out; first | omega | exact Nat.le_refl _⟩, ⟨by repeat (first | (with_reducible first | exact HB.out | apply wA | apply wN | apply wD) | exact HB.out)⟩⟩
              · rw [if_neg c7] at H
                have c7b0 : decide (x7_2 ≤ 4) = false := decide_eq_false c7
                clear c7
                (first | rw [c7b0] | (simp only [i64_w, i32_w]; rw [c7b0]) | skip)
                have H' := ak H
                clear H
                go_wp2
                go_meet
                case rel => exact ⟨_, (false), (by first | rfl | (simp; done) | (simp [*]; done)), H', ⟨by have := HJ2.out; have := HK2.out; first | omega | exact Nat.le_refl _⟩, ⟨by repeat (first | (with_reducible first | exact HB.out | apply wA | apply wN | apply wD) | exact HB.out)⟩⟩
            case rest =>
              clear HC6
              try clear p2
              try clear c4
              try clear c4b0
              try clear c5
              try clear p6
              try clear c7
              try clear c7b0
              try clear p2
              obtain ⟨kq, x27_5, rfl, HA, HJ5, HB⟩ := hcut
              cases kq with
              | zero => exact absurd HA.out (by simp [mummerref02_Decode.j2])
              | succ kj5 =>
                have H := HA.out
                clear HA
                simp only [mummerref02_Decode.j2] at H
                by_cases c8 : x27_5 = true
                · subst c8
                  have H1 : (if 0 ≤ a1 then (if a1 ≤ (wrap64 (a1 + x7_2)) then (if (wrap64 (a1 + x7_2)) ≤ (l0.length : Int) then ((mummerref02_stands.f ((l0.take ((wrap64 (a1 + x7_2)) : Int).toNat).drop (a1 : Int).toNat)).bind fun bt479 => (if bt479.2 = true then (some (bt479.1, x7_2, 0)) else (mummerref02_Decode.l0 kj5 l0 a1 (wrap64 (x7_2 + 1))))) else (none)) else (none)) else (none)) = some (r1, r2, r3) := by rw [if_pos rfl] at H; exact H
                  clear H
                  have H := H1
                  clear H1
                  by_cases c9 : 0 ≤ a1
                  · rw [if_pos c9] at H
                    have c9b0 := eq_true c9
                    have c9b1 : decide (0 ≤ a1) = true := decide_eq_true c9
                    clear c9
                    by_cases c10 : a1 ≤ (wrap64 (a1 + x7_2))
                    · rw [if_pos c10] at H
                      have c10b0 := eq_true c10
                      have c10b1 : decide (a1 ≤ (wrap64 (a1 + x7_2))) = true := decide_eq_true c10
                      by_cases c11 : (wrap64 (a1 + x7_2)) ≤ (l0.length : Int)
                      · rw [if_pos c11] at H
                        have c11b0 := eq_true c11
                        have c11b1 : decide ((wrap64 (a1 + x7_2)) ≤ (l0.length : Int)) = true := decide_eq_true c11
                        replace H := Option.bind_eq_some_iff.mp H
                        obtain ⟨⟨t479, t480⟩, A120, H⟩ := H
                        replace H : (if t480 = true then (some (t479, x7_2, 0)) else (mummerref02_Decode.l0 kj5 l0 a1 (wrap64 (x7_2 + 1)))) = some (r1, r2, r3) := H
                        have A12 := ak A120
                        clear A120
                        by_cases c13 : t480 = true
                        · subst c13
                          have H1 : (some (t479, x7_2, 0)) = some (r1, r2, r3) := by rw [if_pos rfl] at H; exact H
                          clear H
                          have H := H1
                          clear H1
                          simp only [Option.some.injEq, Prod.mk.injEq] at H
                          obtain ⟨rfl, rfl, rfl⟩ := H
                          obtain ⟨i014, hi014, _, hsz14, _⟩ := info_parts info5
                          obtain ⟨A14, hcut14, hA14, hC14⟩ := print_mid_of (P := Tryd.prog) (Value.int .u8) 0 45 5 .i64 .i64 Tryd.underlying45 hi014 hsz14 A0 c0 l0 a1 (wrap64 (a1 + x7_2)) (of_decide_eq_true (by first | (with_reducible assumption) | assumption)) (by first | omega | exact of_decide_eq_true (by first | (with_reducible assumption) | assumption)) (of_decide_eq_true (by first | (with_reducible assumption) | assumption)) HC0.out
                          have HR478 := ak (Kd.C_of_reads (h1 := fun _ => rfl) (hA14 _ (Kd.reads_of_C HR0.out)))
                          have HC478 := ak hC14
                          clear hA14 hC14 hi014 hsz14
                          go_wp2_with (first | ((with_reducible refine gate_callee (f := 62) rfl ?_); refine goesL_ (some 37) rfl rfl Tryd.func62 (by kernel_rfl) rfl #[.slice A14 ((l0.take ((wrap64 (a1 + x7_2)) : Int).toNat).drop (a1 : Int).toNat).length (c0 - a1.toNat)] rfl (by (try simp only [List.map_toArray, List.map_cons, List.map_nil]); first | done | (rw [show ((l0.take ((wrap64 (a1 + x7_2)) : Int).toNat).drop (a1 : Int).toNat).length = ((wrap64 (a1 + x7_2)).toNat - a1.toNat) from (by rw [List.length_drop, List.length_take]; have h_ : ((wrap64 (a1 + x7_2)) : Int) ≤ (l0.length : Int) := of_decide_eq_true (by first | (with_reducible assumption) | assumption); omega)] <;> rfl) | rfl | (simp only [List.length_drop, List.length_take]; rfl)) ?_; (with_reducible refine (mummerref02_stands.calls _ _ ((l0.take ((wrap64 (a1 + x7_2)) : Int).toNat).drop (a1 : Int).toNat) t479 true _ ?side1 ?side2 A12.out).mono ?_); (case side1 => repeat (first | exact (Kd.C_below HR478.out HB.out) | (with_reducible refine Kd.C_alloc ?_ _) | (with_reducible refine Kd.C_drewN ?_ _) | (with_reducible refine Kd.C_drew ?_))); (case side2 => exact HC478.out); rintro e w15 ⟨rfl, hb⟩; refine ⟨_, rfl, ?_⟩; have n0_ := ak (below_step (by repeat (first | (with_reducible first | exact HB.out | apply wA | apply wN | apply wD) | exact HB.out)) hb); clear HB; have HB := n0_; clear n0_; (try clear hb); (try clear hb2); (try clear hk); (try clear hi)))
                          go_ret3
                          exact ⟨by first | rfl | (simp [errW_none, errW_some] <;> rfl) | (simp [*, errW_none, errW_some] <;> rfl), by repeat (first | (with_reducible first | exact HB.out | apply wA | apply wN | apply wD) | exact HB.out)⟩
                        · replace c13 := Bool.eq_false_iff.mpr c13
                          subst c13
                          have H1 : (mummerref02_Decode.l0 kj5 l0 a1 (wrap64 (x7_2 + 1))) = some (r1, r2, r3) := by rw [if_neg (show ¬ (false = true) by decide)] at H; exact H
                          clear H
                          have H := H1
                          clear H1
                          have H' := ak H
                          clear H
                          obtain ⟨i016, hi016, _, hsz16, _⟩ := info_parts info5
                          obtain ⟨A16, hcut16, hA16, hC16⟩ := print_mid_of (P := Tryd.prog) (Value.int .u8) 0 45 5 .i64 .i64 Tryd.underlying45 hi016 hsz16 A0 c0 l0 a1 (wrap64 (a1 + x7_2)) (of_decide_eq_true (by first | (with_reducible assumption) | assumption)) (by first | omega | exact of_decide_eq_true (by first | (with_reducible assumption) | assumption)) (of_decide_eq_true (by first | (with_reducible assumption) | assumption)) HC0.out
                          have HR478 := ak (Kd.C_of_reads (h1 := fun _ => rfl) (hA16 _ (Kd.reads_of_C HR0.out)))
                          have HC478 := ak hC16
                          clear hA16 hC16 hi016 hsz16
                          go_wp2_with (first | ((with_reducible refine gate_callee (f := 62) rfl ?_); refine goesL_ (some 37) rfl rfl Tryd.func62 (by kernel_rfl) rfl #[.slice A16 ((l0.take ((wrap64 (a1 + x7_2)) : Int).toNat).drop (a1 : Int).toNat).length (c0 - a1.toNat)] rfl (by (try simp only [List.map_toArray, List.map_cons, List.map_nil]); first | done | (rw [show ((l0.take ((wrap64 (a1 + x7_2)) : Int).toNat).drop (a1 : Int).toNat).length = ((wrap64 (a1 + x7_2)).toNat - a1.toNat) from (by rw [List.length_drop, List.length_take]; have h_ : ((wrap64 (a1 + x7_2)) : Int) ≤ (l0.length : Int) := of_decide_eq_true (by first | (with_reducible assumption) | assumption); omega)] <;> rfl) | rfl | (simp only [List.length_drop, List.length_take]; rfl)) ?_; (with_reducible refine (mummerref02_stands.calls _ _ ((l0.take ((wrap64 (a1 + x7_2)) : Int).toNat).drop (a1 : Int).toNat) t479 false _ ?side1 ?side2 A12.out).mono ?_); (case side1 => repeat (first | exact (Kd.C_below HR478.out HB.out) | (with_reducible refine Kd.C_alloc ?_ _) | (with_reducible refine Kd.C_drewN ?_ _) | (with_reducible refine Kd.C_drew ?_))); (case side2 => exact HC478.out); rintro e w17 ⟨rfl, hb⟩; refine ⟨_, rfl, ?_⟩; have n0_ := ak (below_step (by repeat (first | (with_reducible first | exact HB.out | apply wA | apply wN | apply wD) | exact HB.out)) hb); clear HB; have HB := n0_; clear n0_; (try clear hb); (try clear hb2); (try clear hk); (try clear hi)))
                          go_roundg kj5
                          case measure => have := HJ2.out; have := HK2.out; have := HJ5.out; omega
                          case rel => exact ⟨(wrap64 (x7_2 + 1)), (by first | rfl | (simp; done) | (simp [*]; done)), H', ⟨by have := HJ2.out; have := HK2.out; have := HJ5.out; omega⟩, ⟨by repeat (first | (with_reducible first | exact HB.out | apply wA | apply wN | apply wD) | exact HB.out)⟩⟩
                      · rw [if_neg c11] at H
                        exact absurd H (by simp)
                    · rw [if_neg c10] at H
                      exact absurd H (by simp)
                  · rw [if_neg c9] at H
                    exact absurd H (by simp)
                · replace c8 := Bool.eq_false_iff.mpr c8
                  subst c8
                  have H1 : (if (wrap64 ((l0.length : Int) - a1)) < 4 then (if 0 ≤ a1 then (if a1 ≤ (l0.length : Int) then ((mummerref02_begins.f kj5 (l0.drop (a1 : Int).toNat)).bind fun t482 => (if t482 = true then (some (0, 0, 320)) else (some (0, 0, 6)))) else (none)) else (none)) else (some (0, 0, 6))) = some (r1, r2, r3) := by rw [if_neg (show ¬ (false = true) by decide)] at H; exact H
                  clear H
                  have H := H1
                  clear H1
                  by_cases c18 : (wrap64 ((l0.length : Int) - a1)) < 4
                  · rw [if_pos c18] at H
                    have c18b0 : decide ((wrap64 ((l0.length : Int) - a1)) < 4) = true := decide_eq_true c18
                    clear c18
                    by_cases c19 : 0 ≤ a1
                    · rw [if_pos c19] at H
                      have c19b0 := eq_true c19
                      have c19b1 : decide (0 ≤ a1) = true := decide_eq_true c19
                      clear c19
                      by_cases c20 : a1 ≤ (l0.length : Int)
                      · rw [if_pos c20] at H
                        have c20b0 := eq_true c20
                        have c20b1 : decide (a1 ≤ (l0.length : Int)) = true := decide_eq_true c20
                        clear c20
                        replace H := Option.bind_eq_some_iff.mp H
                        obtain ⟨t482, A210, H⟩ := H
                        replace H : (if t482 = true then (some (0, 0, 320)) else (some (0, 0, 6))) = some (r1, r2, r3) := H
                        have A21 := ak A210
                        clear A210
                        by_cases c22 : t482 = true
                        · subst c22
                          have H1 : (some (0, 0, 320)) = some (r1, r2, r3) := by rw [if_pos rfl] at H; exact H
                          clear H
                          have H := H1
                          clear H1
                          simp only [Option.some.injEq, Prod.mk.injEq] at H
                          obtain ⟨rfl, rfl, rfl⟩ := H
                          obtain ⟨i023, hi023, _, hsz23, _⟩ := info_parts info5
                          obtain ⟨A23, hcut23, hA23, hC23⟩ := print_drop_of (P := Tryd.prog) (Value.int .u8) 0 45 5 .i64 Tryd.underlying45 hi023 hsz23 A0 c0 l0 a1 (of_decide_eq_true (by first | (with_reducible assumption) | assumption)) (of_decide_eq_true (by first | (with_reducible assumption) | assumption)) HC0.out
                          have HR481 := ak (Kd.C_of_reads (h1 := fun _ => rfl) (hA23 _ (Kd.reads_of_C HR0.out)))
                          have HC481 := ak hC23
                          clear hA23 hC23 hi023 hsz23
                          go_wp2_with (first | (go_at_call 63; (first | rw [show l0.length - (a1 : Int).toNat = (l0.drop (a1 : Int).toNat).length by rw [List.length_drop]] | skip); (with_reducible refine (mummerref02_begins.calls kj5 _ _ (l0.drop (a1 : Int).toNat) true _ ?side1 ?side2 A21.out).mono ?_); (case side1 => repeat (first | exact (Kd.C_below HR481.out HB.out) | (with_reducible refine Kd.C_alloc ?_ _) | (with_reducible refine Kd.C_drewN ?_ _) | (with_reducible refine Kd.C_drew ?_))); (case side2 => exact HC481.out); rintro e w24 ⟨rfl, hb⟩; have n0_ := ak (below_step (by repeat (first | (with_reducible first | exact HB.out | apply wA | apply wN | apply wD) | exact HB.out)) hb); clear HB; have HB := n0_; clear n0_; (try clear hb); (try clear hb2); (try clear hk); (try clear hi)))
                          go_ret3
                          exact ⟨by first | rfl | (simp [errW_none, errW_some] <;> rfl) | (simp [*, errW_none, errW_some] <;> rfl), by repeat (first | (with_reducible first | exact HB.out | apply wA | apply wN | apply wD) | exact HB.out)⟩
                        · replace c22 := Bool.eq_false_iff.mpr c22
                          subst c22
                          have H1 : (some (0, 0, 6)) = some (r1, r2, r3) := by rw [if_neg (show ¬ (false = true) by decide)] at H; exact H
                          clear H
                          have H := H1
                          clear H1
                          simp only [Option.some.injEq, Prod.mk.injEq] at H
                          obtain ⟨rfl, rfl, rfl⟩ := H
                          obtain ⟨i025, hi025, _, hsz25, _⟩ := info_parts info5
                          obtain ⟨A25, hcut25, hA25, hC25⟩ := print_drop_of (P := Tryd.prog) (Value.int .u8) 0 45 5 .i64 Tryd.underlying45 hi025 hsz25 A0 c0 l0 a1 (of_decide_eq_true (by first | (with_reducible assumption) | assumption)) (of_decide_eq_true (by first | (with_reducible assumption) | assumption)) HC0.out
                          have HR481 := ak (Kd.C_of_reads (h1 := fun _ => rfl) (hA25 _ (Kd.reads_of_C HR0.out)))
                          have HC481 := ak hC25
                          clear hA25 hC25 hi025 hsz25
                          go_wp2_with (first | (go_at_call 63; (first | rw [show l0.length - (a1 : Int).toNat = (l0.drop (a1 : Int).toNat).length by rw [List.length_drop]] | skip); (with_reducible refine (mummerref02_begins.calls kj5 _ _ (l0.drop (a1 : Int).toNat) false _ ?side1 ?side2 A21.out).mono ?_); (case side1 => repeat (first | exact (Kd.C_below HR481.out HB.out) | (with_reducible refine Kd.C_alloc ?_ _) | (with_reducible refine Kd.C_drewN ?_ _) | (with_reducible refine Kd.C_drew ?_))); (case side2 => exact HC481.out); rintro e w26 ⟨rfl, hb⟩; have n0_ := ak (below_step (by repeat (first | (with_reducible first | exact HB.out | apply wA | apply wN | apply wD) | exact HB.out)) hb); clear HB; have HB := n0_; clear n0_; (try clear hb); (try clear hb2); (try clear hk); (try clear hi)))
                          go_ret3
                          exact ⟨by first | rfl | (simp [errW_none, errW_some] <;> rfl) | (simp [*, errW_none, errW_some] <;> rfl), by repeat (first | (with_reducible first | exact HB.out | apply wA | apply wN | apply wD) | exact HB.out)⟩
                      · rw [if_neg c20] at H
                        exact absurd H (by simp)
                    · rw [if_neg c19] at H
                      exact absurd H (by simp)
                  · rw [if_neg c18] at H
                    have c18b0 : decide ((wrap64 ((l0.length : Int) - a1)) < 4) = false := decide_eq_false c18
                    clear c18
                    simp only [Option.some.injEq, Prod.mk.injEq] at H
                    obtain ⟨rfl, rfl, rfl⟩ := H
                    go_wp2
                    go_ret3
                    exact ⟨by first | rfl | (simp [errW_none, errW_some] <;> rfl) | (simp [*, errW_none, errW_some] <;> rfl), by repeat (first | (with_reducible first | exact HB.out | apply wA | apply wN | apply wD) | exact HB.out)⟩
end Go.Proofs.YtnkfdobcmfdhfaaDoor.P
namespace Go.Proofs.YtnkfdobcmfdhfaaDoor.P
open Go.RowKit Go.Proofs.YtnkfdobcmfdhfaaDoorW.PrintWords Go.Proofs.YtnkfdobcmfdhfaaDoorW.PrintLast Go.Proofs.YtnkfdobcmfdhfaaDoorW.PrintMore
attribute [local go_sem] max2_int min2_int max_two min_two max_three min_three max_four min_four   -- for this text's walks alone
set_option linter.unusedVariables false
set_option linter.unusedSimpArgs false
def mummerref02_Check.l0 : Nat → List Int → Int → Option (Int × Int)
  | 0, _, _ => none
  | k + 1, x0, x4 => if x4 < (x0.length : Int) then ((mummerref02_Decode.f k x0 x4).bind fun bt483 => (if bt483.2.2 = 0 then (mummerref02_Check.l0 k x0 (wrap64 (x4 + bt483.2.1))) else (some (x4, bt483.2.2)))) else (some (x4, 0))
def mummerref02_Check.f (k : Nat) (l0 : List Int) : Option (Int × Int) := if (l0.length : Int) > 8000 then (some (0, 3)) else (mummerref02_Check.l0 k l0 0)
set_option maxHeartbeats 8000000 in
set_option maxRecDepth 100000 in
theorem mummerref02_Check.calls (k : Nat) (A0 : Option Addr) (c0 : Nat) (l0 : List Int) (r1 : Int) (r2 : Int) (w : World) (hr0 : Kd.C (Kd.int .u8) w A0 l0.length l0) (hc0 : l0.length ≤ c0) (h : mummerref02_Check.f k l0 = some (r1, r2)) :
    Calls Tryd.prog 49 #[.slice A0 l0.length c0] w fun e w' => e = .returned (.tuple #[.int .i64 r1, .int .i64 r2]) ∧ Below w.heap.size w w' := by
  have HR0 := ak hr0
  have HC0 := ak hc0
  clear hr0 hc0
  have HB := ak (Below.refl w.heap.size w)
  have H : (if (l0.length : Int) > 8000 then (some (0, 3)) else (mummerref02_Check.l0 k l0 0)) = some (r1, r2) := h
  clear h
  by_cases c2 : (l0.length : Int) > 8000
  · rw [if_pos c2] at H
    have c2b0 : decide (8000 < (l0.length : Int)) = true := decide_eq_true c2
    have c2b1 : decide (8000 < l0.length) = true := decide_eq_true (by omega)
    clear c2
    simp only [Option.some.injEq, Prod.mk.injEq] at H
    obtain ⟨rfl, rfl⟩ := H
    go_enter Tryd.func49, Tryd.ntmps49
    go_wp2
    go_ret2
    exact ⟨by first | rfl | (simp [errW_none, errW_some] <;> rfl) | (simp [*, errW_none, errW_some] <;> rfl), by repeat (first | (with_reducible first | exact HB.out | apply wA | apply wN | apply wD) | exact HB.out)⟩
  · rw [if_neg c2] at H
    have c2b0 : decide (8000 < (l0.length : Int)) = false := decide_eq_false c2
    have c2b1 : decide (8000 < l0.length) = false := decide_eq_false (by omega)
    clear c2
    have H' := ak H
    clear H
    go_enter Tryd.func49, Tryd.ntmps49
    go_wp2
    go_loopg [4] k (fun kq v4 w' => ∃ (x4_1 : Int), v4 = .int .i64 x4_1 ∧ Aside0 (mummerref02_Check.l0 kq l0 x4_1 = some (r1, r2)) ∧ Aside0 (kq ≤ k) ∧ Aside0 (Below w.heap.size w w'))
    case atStart => exact ⟨(0), (by first | rfl | (simp; done) | (simp [*]; done)), H', ⟨Nat.le_refl _⟩, ⟨by repeat (first | (with_reducible first | exact HB.out | apply wA | apply wN | apply wD) | exact HB.out)⟩⟩
    case round =>
      clear H'
      try clear c2
      try clear c2b0
      try clear c2b1
      try clear p2
      obtain ⟨x4_1, rfl, HA, HK1, HB⟩ := hrel
      cases gk with
      | zero => exact absurd HA.out (by simp [mummerref02_Check.l0])
      | succ k1 =>
        have H := HA.out
        clear HA
        simp only [mummerref02_Check.l0] at H
        by_cases c3 : x4_1 < (l0.length : Int)
        · rw [if_pos c3] at H
          have c3b0 : decide (x4_1 < (l0.length : Int)) = true := decide_eq_true c3
          clear c3
          replace H := Option.bind_eq_some_iff.mp H
          obtain ⟨⟨t483, t484, t485⟩, A40, H⟩ := H
          replace H : (if t485 = 0 then (mummerref02_Check.l0 k1 l0 (wrap64 (x4_1 + t484))) else (some (x4_1, t485))) = some (r1, r2) := H
          have A4 := ak A40
          clear A40
          by_cases c5 : t485 = 0
          · rw [if_pos c5] at H
            have c5b0 : (t485 == 0) = true := beq_iff_eq.mpr c5
            have c5b1 : (t485 != 0) = false := bne_eq_false_iff_eq.mpr c5
            clear c5
            have H' := ak H
            clear H
            go_wp2_with (first | ((with_reducible refine gate_callee (f := 54) rfl ?_); refine goesL_ (some 18) rfl rfl Tryd.func54 (by kernel_rfl) rfl #[.slice A0 l0.length c0, .int .i64 x4_1] rfl (by (try simp only [List.map_toArray, List.map_cons, List.map_nil]); first | done | rfl | (simp only [List.length_drop, List.length_take]; rfl)) ?_; (with_reducible refine (mummerref02_Decode.calls k1 _ _ l0 x4_1 t483 t484 t485 _ ?side1 ?side2 A4.out).mono ?_); (case side1 => repeat (first | exact (Kd.C_below HR0.out HB.out) | (with_reducible refine Kd.C_alloc ?_ _) | (with_reducible refine Kd.C_drewN ?_ _) | (with_reducible refine Kd.C_drew ?_))); (case side2 => exact HC0.out); rintro e w6 ⟨rfl, hb⟩; refine ⟨_, rfl, ?_⟩; have n0_ := ak (below_step (by repeat (first | (with_reducible first | exact HB.out | apply wA | apply wN | apply wD) | exact HB.out)) hb); clear HB; have HB := n0_; clear n0_; (try clear hb); (try clear hb2); (try clear hk); (try clear hi)))
            go_roundg k1
            case measure => have := HK1.out; omega
            case rel => exact ⟨(wrap64 (x4_1 + t484)), (by first | rfl | (simp; done) | (simp [*]; done)), H', ⟨by have := HK1.out; omega⟩, ⟨by repeat (first | (with_reducible first | exact HB.out | apply wA | apply wN | apply wD) | exact HB.out)⟩⟩
          · rw [if_neg c5] at H
            have c5b0 : (t485 == 0) = false := beq_eq_false_iff_ne.mpr c5
            have c5b1 : (t485 != 0) = true := bne_iff_ne.mpr c5
            simp only [Option.some.injEq, Prod.mk.injEq] at H
            obtain ⟨rfl, rfl⟩ := H
            go_wp2_with (first | ((with_reducible refine gate_callee (f := 54) rfl ?_); refine goesL_ (some 18) rfl rfl Tryd.func54 (by kernel_rfl) rfl #[.slice A0 l0.length c0, .int .i64 x4_1] rfl (by (try simp only [List.map_toArray, List.map_cons, List.map_nil]); first | done | rfl | (simp only [List.length_drop, List.length_take]; rfl)) ?_; (with_reducible refine (mummerref02_Decode.calls k1 _ _ l0 x4_1 t483 t484 t485 _ ?side1 ?side2 A4.out).mono ?_); (case side1 => repeat (first | exact (Kd.C_below HR0.out HB.out) | (with_reducible refine Kd.C_alloc ?_ _) | (with_reducible refine Kd.C_drewN ?_ _) | (with_reducible refine Kd.C_drew ?_))); (case side2 => exact HC0.out); rintro e w7 ⟨rfl, hb⟩; refine ⟨_, rfl, ?_⟩; have n0_ := ak (below_step (by repeat (first | (with_reducible first | exact HB.out | apply wA | apply wN | apply wD) | exact HB.out)) hb); clear HB; have HB := n0_; clear n0_; (try clear hb); (try clear hb2); (try clear hk); (try clear hi)))
            go_ret2
            exact ⟨by first | rfl | (simp [errW_none, errW_some] <;> rfl) | (simp [*, errW_none, errW_some] <;> rfl), by repeat (first | (with_reducible first | exact HB.out | apply wA | apply wN | apply wD) | exact HB.out)⟩
        · rw [if_neg c3] at H
          have c3b0 : decide (x4_1 < (l0.length : Int)) = false := decide_eq_false c3
          clear c3
          simp only [Option.some.injEq, Prod.mk.injEq] at H
          obtain ⟨rfl, rfl⟩ := H
          go_wp2
          go_ret2
          exact ⟨by first | rfl | (simp [errW_none, errW_some] <;> rfl) | (simp [*, errW_none, errW_some] <;> rfl), by repeat (first | (with_reducible first | exact HB.out | apply wA | apply wN | apply wD) | exact HB.out)⟩
end Go.Proofs.YtnkfdobcmfdhfaaDoor.P
namespace Go.Proofs.YtnkfdobcmfdhfaaDoor.P
open Go.RowKit Go.Proofs.YtnkfdobcmfdhfaaDoorW.PrintWords Go.Proofs.YtnkfdobcmfdhfaaDoorW.PrintLast Go.Proofs.YtnkfdobcmfdhfaaDoorW.PrintMore
attribute [local go_sem] max2_int min2_int max_two min_two max_three min_three max_four min_four   -- for this text's walks alone
set_option linter.unusedVariables false
set_option linter.unusedSimpArgs false
def mummerref03_Lines.l0 : Nat → List Int → List (S24) → Int → Int → Option ((List (S24)) × Int)
  | 0, _, _, _, _ => none
  | k + 1, x0, x6, x7, x8 => if x8 < (x0.length : Int) then (if 0 ≤ x8 then (if (rd x0 x8) = 10 then (if x6.length < 8796093022208 then (mummerref03_Lines.l0 k x0 (x6 ++ [(⟨x7, x8⟩ : S24)]) (wrap64 (x8 + 1)) (wrap64 (x8 + 1))) else (none)) else (mummerref03_Lines.l0 k x0 x6 x7 (wrap64 (x8 + 1)))) else (none)) else (if x6.length < 8796093022208 then (some ((x6 ++ [(⟨x7, (x0.length : Int)⟩ : S24)]), 0)) else (none))
def mummerref03_Lines.f (k : Nat) (l0 : List Int) : Option ((List (S24)) × Int) := (mummerref02_Check.f k l0).bind fun bt486 => (if bt486.2 = 0 then (mummerref03_Lines.l0 k l0 ([] : List (S24)) 0 0) else (some (([] : List (S24)), bt486.2)))
set_option maxHeartbeats 8000000 in
set_option maxRecDepth 100000 in
theorem mummerref03_Lines.calls (k : Nat) (A0 : Option Addr) (c0 : Nat) (l0 : List Int) (r1 : List (S24)) (r2 : Int) (w : World) (hr0 : Kd.C (Kd.int .u8) w A0 l0.length l0) (hc0 : l0.length ≤ c0) (h : mummerref03_Lines.f k l0 = some (r1, r2)) :
    Calls Tryd.prog 25 #[.slice A0 l0.length c0] w fun e w' => ∃ v0_ : Value, e = .returned (.tuple #[v0_, .int .i64 r2]) ∧ Kd.R k24 24 w' w.heap.size (fun _ => True) v0_ r1 ∧ Below w.heap.size w w' := by
  have hu24 := Tryd.underlying24
  have HR0 := ak hr0
  have HC0 := ak hc0
  clear hr0 hc0
  have HB := ak (Below.refl w.heap.size w)
  have H : ((mummerref02_Check.f k l0).bind fun bt486 => (if bt486.2 = 0 then (mummerref03_Lines.l0 k l0 ([] : List (S24)) 0 0) else (some (([] : List (S24)), bt486.2)))) = some (r1, r2) := h
  clear h
  replace H := Option.bind_eq_some_iff.mp H
  obtain ⟨⟨t486, t487⟩, A20, H⟩ := H
  replace H : (if t487 = 0 then (mummerref03_Lines.l0 k l0 ([] : List (S24)) 0 0) else (some (([] : List (S24)), t487))) = some (r1, r2) := H
  have A2 := ak A20
  clear A20
  by_cases c3 : t487 = 0
  · rw [if_pos c3] at H
    have c3b0 : (t487 == 0) = true := beq_iff_eq.mpr c3
    have c3b1 : (t487 != 0) = false := bne_eq_false_iff_eq.mpr c3
    clear c3
    have H' := ak H
    clear H
    go_enter Tryd.func25, Tryd.ntmps25
    go_wp2_with (first | ((with_reducible refine gate_callee (f := 49) rfl ?_); refine goesL_ (some 11) rfl rfl Tryd.func49 (by kernel_rfl) rfl #[.slice A0 l0.length c0] rfl (by (try simp only [List.map_toArray, List.map_cons, List.map_nil]); first | done | rfl | (simp only [List.length_drop, List.length_take]; rfl)) ?_; (with_reducible refine (mummerref02_Check.calls k _ _ l0 t486 t487 _ ?side1 ?side2 A2.out).mono ?_); (case side1 => repeat (first | exact HR0.out | (with_reducible refine Kd.C_alloc ?_ _) | (with_reducible refine Kd.C_drewN ?_ _) | (with_reducible refine Kd.C_drew ?_))); (case side2 => exact HC0.out); rintro e w4 ⟨rfl, hb⟩; refine ⟨_, rfl, ?_⟩; have n0_ := ak (below_step (by repeat (first | (with_reducible first | exact HB.out | apply wA | apply wN | apply wD) | exact HB.out)) hb); clear HB; have HB := n0_; clear n0_; (try clear hb); (try clear hb2); (try clear hk); (try clear hi)))
    go_loopg [6, 7, 8] k (fun kq v6 v7 v8 w' => ∃ (x6_1 : List (S24)) (x7_1 : Int) (x8_1 : Int), v7 = .int .i64 x7_1 ∧ v8 = .int .i64 x8_1 ∧ Aside0 (mummerref03_Lines.l0 kq l0 x6_1 x7_1 x8_1 = some (r1, r2)) ∧ Aside0 (kq ≤ k) ∧ Aside0 (Kd.R k24 24 w' w.heap.size (fun _ => True) v6 x6_1) ∧ Aside0 (Below w.heap.size w w'))
    case atStart => exact ⟨(([] : List (S24))), (0), (0), (by first | rfl | (simp; done) | (simp [*]; done)), (by first | rfl | (simp; done) | (simp [*]; done)), H', ⟨Nat.le_refl _⟩, ⟨by first | exact Kd.R_nil _ _ _ _ _ | exact Kd.N_nil _ _ _ _ _ | exact Kd.V_nil _ _ _ _ _ | exact Kd.Q_nil _ _ _ _ _ | exact Kd.S_nil _ _ _ _ _⟩, ⟨by repeat (first | (with_reducible first | exact HB.out | apply wA | apply wN | apply wD) | exact HB.out)⟩⟩
    case round =>
      clear H'
      try clear c2
      try clear p2
      try clear c3
      try clear c3b0
      try clear c3b1
      try clear c4
      obtain ⟨x6_1, x7_1, x8_1, rfl, rfl, HA, HK1, HO_6, HB⟩ := hrel
      cases gk with
      | zero => exact absurd HA.out (by simp [mummerref03_Lines.l0])
      | succ k1 =>
        have H := HA.out
        clear HA
        simp only [mummerref03_Lines.l0] at H
        by_cases c5 : x8_1 < (l0.length : Int)
        · rw [if_pos c5] at H
          have c5b0 : decide (x8_1 < (l0.length : Int)) = true := decide_eq_true c5
          clear c5
          by_cases c6 : 0 ≤ x8_1
          · rw [if_pos c6] at H
            have c6b0 : decide (0 ≤ x8_1) = true := decide_eq_true c6
            clear c6
            by_cases c7 : (rd l0 x8_1) = 10
            · rw [if_pos c7] at H
              have c7b0 : ((rd l0 x8_1) == 10) = true := beq_iff_eq.mpr c7
              have c7b1 : ((rd l0 x8_1) != 10) = false := bne_eq_false_iff_eq.mpr c7
              clear c7
              by_cases c8 : x6_1.length < 8796093022208
              · rw [if_pos c8] at H
                have LMc8 := ak c8
                clear c8
                obtain ⟨y489, hy489⟩ : ∃ y_ : List (S24), y_ = (x6_1 ++ [(⟨x7_1, x8_1⟩ : S24)]) := ⟨_, rfl⟩
                replace H : (mummerref03_Lines.l0 k1 l0 y489 (wrap64 (x8_1 + 1)) (wrap64 (x8_1 + 1))) = some (r1, r2) := by first | (rw [hy489]; with_reducible exact H) | (have H2_ := (Option.bind_some _ _).symm.trans H; rw [hy489]; with_reducible exact H2_) | (have H2_ := (Option.bind_some _ _).symm.trans H; with_reducible exact H2_) | with_reducible exact H | (rw [hy489]; exact H) | exact H
                have Ny489 := ak hy489
                clear hy489
                have H' := ak H
                clear H
                have p488 : 0 ≤ (x8_1 : Int) := of_decide_eq_true (by first | (with_reducible assumption) | assumption)
                have q488 : x8_1 < (l0.length : Int) := of_decide_eq_true (by first | (with_reducible assumption) | assumption)
                obtain ⟨ad488, e488, hx488_0⟩ := Kd.at_int HR0.out x8_1 p488 q488
                cases e488
                replace hx488_0 := (HB.out.cell (World.block_lt_of_cell? w _ hx488_0)).trans hx488_0
                replace p488 := eq_true p488
                replace q488 := eq_true q488
                go_wp2_with (first | ((with_reducible refine gate_builtin (b := .append) (xs := #[.tmp 28, .tmp 32]) rfl ?_); at_builtin; refine Kd.R_append k24 (w0 := w) w.heap.size rfl (.tmp 28) (.tmp 32) 22 24 (.agg #[(.int .i64 0), (.int .i64 0)]) 16 rfl Tryd.underlying22 info24 rfl (by decide) (by omega) u6 x6_1 (⟨x7_1, x8_1⟩ : S24) [.int .i64 x7_1, .int .i64 x8_1] (fun _ => True) (fun _ => False) rfl rfl ?aP (fun _ hk => hk.elim) ?aF ?aO ?aB ?aS ?aL ?_; (case aP => exact k24_mkM _ _ _ (⟨x7_1, x8_1⟩ : S24)); (case aB => exact (by repeat (first | (with_reducible first | exact HB.out | apply wA | apply wN | apply wD) | exact HB.out))); (case aF => exact (fun _ _ => trivial)); (case aO => exact (by (with_reducible repeat (first | apply Kd.R_alloc | apply Kd.R_drewN | apply Kd.R_drew)); exact HO_6.out)); (case aS => exact (below_size (by repeat (first | (with_reducible first | exact HB.out | apply wA | apply wN | apply wD) | exact HB.out)))); (case aL => have := LMc8.out; omega); intro v490 w9 ho hb hg hat; rw [← Ny489.out] at ho; have n0_ := ak (hb); have n1_ := ak (ho); clear HB; clear HO_6; have HB := n0_; have HO491 := n1_; clear n0_ n1_; clear ho hb hg hat))
                go_roundg k1
                case measure => have := HK1.out; omega
                case rel => exact ⟨(y489), (wrap64 (x8_1 + 1)), (wrap64 (x8_1 + 1)), (by first | rfl | (simp; done) | (simp [*]; done)), (by first | rfl | (simp; done) | (simp [*]; done)), H', ⟨by have := HK1.out; omega⟩, ⟨by (with_reducible repeat (first | apply Kd.R_alloc | apply Kd.R_drewN | apply Kd.R_drew)); exact HO491.out⟩, ⟨by repeat (first | (with_reducible first | exact HB.out | apply wA | apply wN | apply wD) | exact HB.out)⟩⟩
              · rw [if_neg c8] at H
                exact absurd H (by simp)
            · rw [if_neg c7] at H
              have c7b0 : ((rd l0 x8_1) == 10) = false := beq_eq_false_iff_ne.mpr c7
              have c7b1 : ((rd l0 x8_1) != 10) = true := bne_iff_ne.mpr c7
              have H' := ak H
              clear H
              have p488 : 0 ≤ (x8_1 : Int) := of_decide_eq_true (by first | (with_reducible assumption) | assumption)
              have q488 : x8_1 < (l0.length : Int) := of_decide_eq_true (by first | (with_reducible assumption) | assumption)
              obtain ⟨ad488, e488, hx488_0⟩ := Kd.at_int HR0.out x8_1 p488 q488
              cases e488
              replace hx488_0 := (HB.out.cell (World.block_lt_of_cell? w _ hx488_0)).trans hx488_0
              replace p488 := eq_true p488
              replace q488 := eq_true q488
              go_wp2
              go_roundg k1
              case measure => have := HK1.out; omega
              case rel => exact ⟨(x6_1), (x7_1), (wrap64 (x8_1 + 1)), (by first | rfl | (simp; done) | (simp [*]; done)), (by first | rfl | (simp; done) | (simp [*]; done)), H', ⟨by have := HK1.out; omega⟩, ⟨by (with_reducible repeat (first | apply Kd.R_alloc | apply Kd.R_drewN | apply Kd.R_drew)); exact HO_6.out⟩, ⟨by repeat (first | (with_reducible first | exact HB.out | apply wA | apply wN | apply wD) | exact HB.out)⟩⟩
          · rw [if_neg c6] at H
            exact absurd H (by simp)
        · rw [if_neg c5] at H
          have c5b0 : decide (x8_1 < (l0.length : Int)) = false := decide_eq_false c5
          clear c5
          by_cases c10 : x6_1.length < 8796093022208
          · rw [if_pos c10] at H
            have LMc10 := ak c10
            clear c10
            obtain ⟨y492, hy492⟩ : ∃ y_ : List (S24), y_ = (x6_1 ++ [(⟨x7_1, (l0.length : Int)⟩ : S24)]) := ⟨_, rfl⟩
            replace H : (some (y492, 0)) = some (r1, r2) := by first | (rw [hy492]; with_reducible exact H) | (have H2_ := (Option.bind_some _ _).symm.trans H; rw [hy492]; with_reducible exact H2_) | (have H2_ := (Option.bind_some _ _).symm.trans H; with_reducible exact H2_) | with_reducible exact H | (rw [hy492]; exact H) | exact H
            have Ny492 := ak hy492
            clear hy492
            simp only [Option.some.injEq, Prod.mk.injEq] at H
            obtain ⟨rfl, rfl⟩ := H
            go_wp2_with (first | ((with_reducible refine gate_builtin (b := .append) (xs := #[.tmp 36, .tmp 41]) rfl ?_); at_builtin; refine Kd.R_append k24 (w0 := w) w.heap.size rfl (.tmp 36) (.tmp 41) 22 24 (.agg #[(.int .i64 0), (.int .i64 0)]) 16 rfl Tryd.underlying22 info24 rfl (by decide) (by omega) u6 x6_1 (⟨x7_1, (l0.length : Int)⟩ : S24) [.int .i64 x7_1, .int .i64 (l0.length : Int)] (fun _ => True) (fun _ => False) rfl rfl ?aP (fun _ hk => hk.elim) ?aF ?aO ?aB ?aS ?aL ?_; (case aP => exact k24_mkM _ _ _ (⟨x7_1, (l0.length : Int)⟩ : S24)); (case aB => exact (by repeat (first | (with_reducible first | exact HB.out | apply wA | apply wN | apply wD) | exact HB.out))); (case aF => exact (fun _ _ => trivial)); (case aO => exact (by (with_reducible repeat (first | apply Kd.R_alloc | apply Kd.R_drewN | apply Kd.R_drew)); exact HO_6.out)); (case aS => exact (below_size (by repeat (first | (with_reducible first | exact HB.out | apply wA | apply wN | apply wD) | exact HB.out)))); (case aL => have := LMc10.out; omega); intro v493 w11 ho hb hg hat; rw [← Ny492.out] at ho; have n0_ := ak (hb); have n1_ := ak (ho); clear HB; clear HO_6; have HB := n0_; have HO494 := n1_; clear n0_ n1_; clear ho hb hg hat))
            go_ret2
            exact ⟨_, by first | rfl | (simp [errW_none, errW_some] <;> rfl) | (simp [*, errW_none, errW_some] <;> rfl), by (with_reducible repeat (first | apply Kd.R_alloc | apply Kd.R_drewN | apply Kd.R_drew)); exact HO494.out, by repeat (first | (with_reducible first | exact HB.out | apply wA | apply wN | apply wD) | exact HB.out)⟩
          · rw [if_neg c10] at H
            exact absurd H (by simp)
  · rw [if_neg c3] at H
    have c3b0 : (t487 == 0) = false := beq_eq_false_iff_ne.mpr c3
    have c3b1 : (t487 != 0) = true := bne_iff_ne.mpr c3
    simp only [Option.some.injEq, Prod.mk.injEq] at H
    obtain ⟨rfl, rfl⟩ := H
    go_enter Tryd.func25, Tryd.ntmps25
    go_wp2_with (first | ((with_reducible refine gate_callee (f := 49) rfl ?_); refine goesL_ (some 11) rfl rfl Tryd.func49 (by kernel_rfl) rfl #[.slice A0 l0.length c0] rfl (by (try simp only [List.map_toArray, List.map_cons, List.map_nil]); first | done | rfl | (simp only [List.length_drop, List.length_take]; rfl)) ?_; (with_reducible refine (mummerref02_Check.calls k _ _ l0 t486 t487 _ ?side1 ?side2 A2.out).mono ?_); (case side1 => repeat (first | exact HR0.out | (with_reducible refine Kd.C_alloc ?_ _) | (with_reducible refine Kd.C_drewN ?_ _) | (with_reducible refine Kd.C_drew ?_))); (case side2 => exact HC0.out); rintro e w12 ⟨rfl, hb⟩; refine ⟨_, rfl, ?_⟩; have n0_ := ak (below_step (by repeat (first | (with_reducible first | exact HB.out | apply wA | apply wN | apply wD) | exact HB.out)) hb); clear HB; have HB := n0_; clear n0_; (try clear hb); (try clear hb2); (try clear hk); (try clear hi)))
    go_ret2
    exact ⟨_, by first | rfl | (simp [errW_none, errW_some] <;> rfl) | (simp [*, errW_none, errW_some] <;> rfl), by first | exact Kd.R_nil _ _ _ _ _ | exact Kd.N_nil _ _ _ _ _ | exact Kd.V_nil _ _ _ _ _ | exact Kd.Q_nil _ _ _ _ _ | exact Kd.S_nil _ _ _ _ _, by repeat (first | (with_reducible first | exact HB.out | apply wA | apply wN | apply wD) | exact HB.out)⟩
end Go.Proofs.YtnkfdobcmfdhfaaDoor.P
namespace Go.Proofs.YtnkfdobcmfdhfaaDoor.P
open Go.RowKit Go.Proofs.YtnkfdobcmfdhfaaDoorW.PrintWords Go.Proofs.YtnkfdobcmfdhfaaDoorW.PrintLast Go.Proofs.YtnkfdobcmfdhfaaDoorW.PrintMore
attribute [local go_sem] max2_int min2_int max_two min_two max_three min_three max_four min_four   -- for this text's walks alone
set_option linter.unusedVariables false
set_option linter.unusedSimpArgs false
def spans_Check.j0 : Nat → Int → Bool → Int → Int → Option (Int)
  | 0, _, _, _, _ => none
  | k + 1, x0, x5, x376000, x376001 => if x5 = true then (some 6) else (if x376001 > x0 then (some 7) else (some 0))
def spans_Check.f (k : Nat) (a0 : Int) (a1_0 : Int) (a1_1 : Int) : Option (Int) := if a1_0 < 0 then (spans_Check.j0 k a0 true a1_0 a1_1) else (spans_Check.j0 k a0 (decide (a1_0 > a1_1)) a1_0 a1_1)
set_option maxHeartbeats 8000000 in
set_option maxRecDepth 100000 in
theorem spans_Check.calls (k : Nat) (a0 : Int) (a1_0 : Int) (a1_1 : Int) (r : Int) (w : World) (h : spans_Check.f k a0 a1_0 a1_1 = some r) :
    Calls Tryd.prog 22 #[.int .i64 a0, .agg #[.int .i64 a1_0, .int .i64 a1_1]] w fun e w' => e = .returned (.int .i64 r) ∧ Below w.heap.size w w' := by
  have hu24 := Tryd.underlying24
  have HB := ak (Below.refl w.heap.size w)
  have H : (if a1_0 < 0 then (spans_Check.j0 k a0 true a1_0 a1_1) else (spans_Check.j0 k a0 (decide (a1_0 > a1_1)) a1_0 a1_1)) = some r := h
  clear h
  have HC3 := ak H
  clear H
  go_enter Tryd.func22, Tryd.ntmps22
  go_upto_region 1 with (first | ((with_reducible refine gate_dst (N := 3) rfl ?_); refine box_event ?hg (N := 3) ?hd (cs := #[.int .i64 a1_0, .int .i64 a1_1]) (t := 24) ?hr ?_; (case hd => rfl); (case hg => rfl); (case hr => first | (go_simp; done) | (go_simp; rfl)); intro gb375 hg w4 hbox hb; have n0_ := ak (below_step (by repeat (first | (with_reducible first | exact HB.out | apply wA | apply wN | apply wD) | exact HB.out)) hb); have n1_ := ak (hbox); have n2_ := ak ((by rw [hg]; exact (below_size (by repeat (first | (with_reducible first | exact HB.out | apply wA | apply wN | apply wD) | exact HB.out))) : w.heap.size ≤ gb375)); have n3_ := ak ((by rw [hg]; exact (below_size (by repeat (first | (with_reducible first | exact HB.out | apply wA | apply wN | apply wD) | exact HB.out))) : w.heap.size ≤ gb375)); clear HB; have HB := n0_; have BK375 := n1_; have GW375 := n2_; have GE375 := n3_; clear n0_ n1_ n2_ n3_; clear hb hbox hg))
  (try simp only [Act.put, List.setIfInBounds_toArray, List.set_cons_zero, List.set_cons_succ])
  go_cut [5] (fun v5 wc => ∃ (kq : Nat) (x5_2 : Bool), v5 = .bool x5_2 ∧ Aside0 (spans_Check.j0 kq a0 x5_2 a1_0 a1_1 = some r) ∧ Aside0 (kq ≤ k) ∧ Aside0 (wc.heap[gb375]? = some (.cells #[.int .i64 a1_0, .int .i64 a1_1] 24 (0, 0))) ∧ Aside0 (Below w.heap.size w wc))
  case first =>
    have H := HC3.out
    clear HC3
    by_cases c5 : a1_0 < 0
    · rw [if_pos c5] at H
      have c5b0 : decide (a1_0 < 0) = true := decide_eq_true c5
      clear c5
      (first | rw [c5b0] | (simp only [i64_w, i32_w]; rw [c5b0]) | skip)
      have H' := ak H
      clear H
      have hcz6_0 : w4.cell? ⟨gb375, 0, none⟩ = some (.int .i64 a1_0) := (blk_cell BK375.out 0).trans rfl
      have hcz6_1 : w4.cell? ⟨gb375, 1, none⟩ = some (.int .i64 a1_1) := (blk_cell BK375.out 1).trans rfl
      have hfz6_0 := blk_frozen BK375.out 0
      have hfz6_1 := blk_frozen BK375.out 1
      go_wp2
      go_meet
      case rel => exact ⟨_, (true), (by first | rfl | (simp; done) | (simp [*]; done)), H', ⟨by first | omega | exact Nat.le_refl _⟩, ⟨by (with_reducible repeat (first | refine bN ?_ _ | refine bD ?_ | refine bA ?_ _)); exact BK375.out⟩, ⟨by repeat (first | (with_reducible first | exact HB.out | apply wA | apply wN | apply wD | refine below_set ?_ GE375.out) | exact HB.out)⟩⟩
    · rw [if_neg c5] at H
      have c5b0 : decide (a1_0 < 0) = false := decide_eq_false c5
      clear c5
      (first | rw [c5b0] | (simp only [i64_w, i32_w]; rw [c5b0]) | skip)
      have H' := ak H
      clear H
      have hcz7_0 : w4.cell? ⟨gb375, 0, none⟩ = some (.int .i64 a1_0) := (blk_cell BK375.out 0).trans rfl
      have hcz7_1 : w4.cell? ⟨gb375, 1, none⟩ = some (.int .i64 a1_1) := (blk_cell BK375.out 1).trans rfl
      have hfz7_0 := blk_frozen BK375.out 0
      have hfz7_1 := blk_frozen BK375.out 1
      go_wp2
      go_meet
      case rel => exact ⟨_, (decide (a1_0 > a1_1)), (by first | rfl | (simp; done) | (simp [*]; done)), H', ⟨by first | omega | exact Nat.le_refl _⟩, ⟨by (with_reducible repeat (first | refine bN ?_ _ | refine bD ?_ | refine bA ?_ _)); exact BK375.out⟩, ⟨by repeat (first | (with_reducible first | exact HB.out | apply wA | apply wN | apply wD | refine below_set ?_ GE375.out) | exact HB.out)⟩⟩
  case rest =>
    clear HC3
    try clear c2
    try clear p2
    try clear c5
    try clear c5b0
    try clear hcz6_0
    try clear hcz6_1
    try clear hcz7_0
    try clear hcz7_1
    try clear hfz6_0
    try clear hfz6_1
    try clear hfz7_0
    try clear hfz7_1
    obtain ⟨kq, x5_2, rfl, HA, HJ2, BK375, HB⟩ := hcut
    cases kq with
    | zero => exact absurd HA.out (by simp [spans_Check.j0])
    | succ kj2 =>
      have H := HA.out
      clear HA
      simp only [spans_Check.j0] at H
      by_cases c8 : x5_2 = true
      · subst c8
        have H1 : (some 6) = some r := by rw [if_pos rfl] at H; exact H
        clear H
        have H := H1
        clear H1
        obtain rfl := Option.some.inj H
        go_wp2
        go_ret
        exact ⟨by first | rfl | (simp [errW_none, errW_some] <;> rfl) | (simp [*, errW_none, errW_some] <;> rfl), by repeat (first | (with_reducible first | exact HB.out | apply wA | apply wN | apply wD | refine below_set ?_ GE375.out) | exact HB.out)⟩
      · replace c8 := Bool.eq_false_iff.mpr c8
        subst c8
        have H1 : (if a1_1 > a0 then (some 7) else (some 0)) = some r := by rw [if_neg (show ¬ (false = true) by decide)] at H; exact H
        clear H
        have H := H1
        clear H1
        by_cases c9 : a1_1 > a0
        · rw [if_pos c9] at H
          have c9b0 : decide (a0 < a1_1) = true := decide_eq_true c9
          clear c9
          obtain rfl := Option.some.inj H
          have hcz10_0 : wc.cell? ⟨gb375, 0, none⟩ = some (.int .i64 a1_0) := (blk_cell BK375.out 0).trans rfl
          have hcz10_1 : wc.cell? ⟨gb375, 1, none⟩ = some (.int .i64 a1_1) := (blk_cell BK375.out 1).trans rfl
          have hfz10_0 := blk_frozen BK375.out 0
          have hfz10_1 := blk_frozen BK375.out 1
          go_wp2
          go_ret
          exact ⟨by first | rfl | (simp [errW_none, errW_some] <;> rfl) | (simp [*, errW_none, errW_some] <;> rfl), by repeat (first | (with_reducible first | exact HB.out | apply wA | apply wN | apply wD | refine below_set ?_ GE375.out) | exact HB.out)⟩
        · rw [if_neg c9] at H
          have c9b0 : decide (a0 < a1_1) = false := decide_eq_false c9
          clear c9
          obtain rfl := Option.some.inj H
          have hcz11_0 : wc.cell? ⟨gb375, 0, none⟩ = some (.int .i64 a1_0) := (blk_cell BK375.out 0).trans rfl
          have hcz11_1 : wc.cell? ⟨gb375, 1, none⟩ = some (.int .i64 a1_1) := (blk_cell BK375.out 1).trans rfl
          have hfz11_0 := blk_frozen BK375.out 0
          have hfz11_1 := blk_frozen BK375.out 1
          go_wp2
          go_ret
          exact ⟨by first | rfl | (simp [errW_none, errW_some] <;> rfl) | (simp [*, errW_none, errW_some] <;> rfl), by repeat (first | (with_reducible first | exact HB.out | apply wA | apply wN | apply wD | refine below_set ?_ GE375.out) | exact HB.out)⟩
end Go.Proofs.YtnkfdobcmfdhfaaDoor.P
