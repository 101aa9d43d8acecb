import Derived.Test.YtdjkdlbokepoaaaGreatDoorKA15
import Derived.Deep.Cut
namespace Go.Proofs.YtdjkdlbokepoaaaGreatDoor.P.Sc
open Go.RowKit Go.Shelf YtdjkdlbokepoaaaGreatDoorW.PrintWords YtdjkdlbokepoaaaGreatDoorW.PrintLast YtdjkdlbokepoaaaGreatDoorW.PrintMore
set_option linter.unusedVariables false
set_option linter.unusedSimpArgs false
theorem name_world {P : Program} {c : Code} {Q : Exit → Act → World → Prop} {a : Act} {w : World} (F : World → Prop) (h : F w) (k : ∀ W, F W → Code.wp P c Q a W) : Code.wp P c Q a w := k w h
theorem ak_ {p : Prop} (h : p) : Aside0 p := ⟨h⟩
theorem bN {W : World} {g : Nat} {o : Obj} (h : W.heap[g]? = some o) (m : Nat) : (W.drewN m).heap[g]? = some o := blk_drewN h m
theorem bD {W : World} {g : Nat} {o : Obj} (h : W.heap[g]? = some o) : W.drew.heap[g]? = some o := blk_drew h
theorem bA {W : World} {g : Nat} {o : Obj} (h : W.heap[g]? = some o) (o' : Obj) : (W.alloc o').heap[g]? = some o := blk_alloc h o'
theorem wA {w W : World} (h : Below w.heap.size w W) (o : Obj) : Below w.heap.size w (W.alloc o) := below_alloc h o
theorem wN {B : Nat} {w W : World} (h : Below B w W) (n : Nat) : Below B w (W.drewN n) := pw_below_drewN h n
theorem wD {B : Nat} {w W : World} (h : Below B w W) : Below B w W.drew := below_drew1 h
set_option maxRecDepth 100000 in
set_option maxHeartbeats 4000000 in
theorem full_240 (o g cap : Nat) (a : Nat) (w : World) (hT : Tab w) (n : Nat) (hn : 0 ≤ n) (h1 : 1 ≤ n) (ha : a < 256) (c0 : w.cell? ⟨g, o, none⟩ = some (.int .u8 (a : Int))) (hx : Lib.firstT a = 240) :
  Calls Tryz.prog 105 #[.slice (some ⟨g, o, none⟩) n cap] w fun e w' => e = .returned (.bool true) ∧ Below w.heap.size w w' := by
 have HB := ak_ (Below.refl w.heap.size w)
 have ht0 := hT.1 a ha
 rw [hx] at ht0
 have ht0' : w.cell? ⟨4, a, none⟩ = some (.int .u8 240) := ht0
 have l0 : ((n : Int) == 0) = false := beq_eq_false_iff_ne.mpr (by omega)
 have l1 : decide ((0 : Int) ≤ (n : Int)) = true := decide_eq_true (by omega)
 go_enter Tryz.func105, Tryz.ntmps105
 go_wp2
 go_ret
 exact ⟨rfl, HB.out⟩
set_option maxRecDepth 100000 in
set_option maxHeartbeats 4000000 in
theorem full_241 (o g cap : Nat) (a : Nat) (w : World) (hT : Tab w) (n : Nat) (hn : 1 ≤ n) (h1 : 1 ≤ n) (ha : a < 256) (c0 : w.cell? ⟨g, o, none⟩ = some (.int .u8 (a : Int))) (hx : Lib.firstT a = 241) :
  Calls Tryz.prog 105 #[.slice (some ⟨g, o, none⟩) n cap] w fun e w' => e = .returned (.bool true) ∧ Below w.heap.size w w' := by
 have HB := ak_ (Below.refl w.heap.size w)
 have ht0 := hT.1 a ha
 rw [hx] at ht0
 have ht0' : w.cell? ⟨4, a, none⟩ = some (.int .u8 241) := ht0
 have l0 : ((n : Int) == 0) = false := beq_eq_false_iff_ne.mpr (by omega)
 have l1 : decide ((1 : Int) ≤ (n : Int)) = true := decide_eq_true (by omega)
 go_enter Tryz.func105, Tryz.ntmps105
 go_wp2
 go_ret
 exact ⟨rfl, HB.out⟩
set_option maxRecDepth 100000 in
set_option maxHeartbeats 4000000 in
theorem full_2 (o g cap : Nat) (a : Nat) (w : World) (hT : Tab w) (n : Nat) (hn : 2 ≤ n) (h1 : 1 ≤ n) (ha : a < 256) (c0 : w.cell? ⟨g, o, none⟩ = some (.int .u8 (a : Int))) (hx : Lib.firstT a = 2) :
  Calls Tryz.prog 105 #[.slice (some ⟨g, o, none⟩) n cap] w fun e w' => e = .returned (.bool true) ∧ Below w.heap.size w w' := by
 have HB := ak_ (Below.refl w.heap.size w)
 have ht0 := hT.1 a ha
 rw [hx] at ht0
 have ht0' : w.cell? ⟨4, a, none⟩ = some (.int .u8 2) := ht0
 have l0 : ((n : Int) == 0) = false := beq_eq_false_iff_ne.mpr (by omega)
 have l1 : decide ((2 : Int) ≤ (n : Int)) = true := decide_eq_true (by omega)
 go_enter Tryz.func105, Tryz.ntmps105
 go_wp2
 go_ret
 exact ⟨rfl, HB.out⟩
set_option maxRecDepth 100000 in
set_option maxHeartbeats 4000000 in
theorem short_2_1 (o g cap : Nat) (a : Nat) (w : World) (hT : Tab w) (ha : a < 256) (c0 : w.cell? ⟨g, o, none⟩ = some (.int .u8 (a : Int))) (hx : Lib.firstT a = 2) :
  Calls Tryz.prog 105 #[.slice (some ⟨g, o, none⟩) 1 cap] w fun e w' => e = .returned (.bool false) ∧ Below w.heap.size w w' := by
 have HB := ak_ (Below.refl w.heap.size w)
 have ht0 := hT.1 a ha
 rw [hx] at ht0
 have ht0' : w.cell? ⟨4, a, none⟩ = some (.int .u8 2) := ht0
 have hl := (hT.2 0 (by decide)).1
 have hh := (hT.2 0 (by decide)).2
 have hl' : w.cell? ⟨5, 0, none⟩ = some (.int .u8 128) := hl
 have hh' : w.cell? ⟨5, 1, none⟩ = some (.int .u8 191) := hh
 go_enter Tryz.func105, Tryz.ntmps105
 go_upto_region 8 with (first | ((with_reducible refine gate_dst (N := 5) rfl ?_); refine box_event ?hg (N := 5) ?hd (cs := #[.int .u8 0, .int .u8 0]) (t := 179) ?hr ?_; (case hd => rfl); (case hg => rfl); (case hr => first | (go_simp; done) | (go_simp; rfl)); intro gb hg w5 hbox hb; have n0_ := ak_ (below_step (by repeat (first | (with_reducible first | exact HB.out | apply wA | apply wN | apply wD) | exact HB.out)) hb); have n1_ := ak_ (hbox); have n3_ := ak_ ((by rw [hg]; exact (below_size (by repeat (first | (with_reducible first | exact HB.out | apply wA | apply wN | apply wD) | exact HB.out))) : w.heap.size ≤ gb)); clear HB; have HB := n0_; have BK := n1_; have GE := n3_; clear n0_ n1_ n3_; clear hb hbox hg; have hcz_0 : w5.cell? ⟨gb, 0, none⟩ = some (.int .u8 0) := (blk_cell BK.out 0).trans rfl; have hcz_1 : w5.cell? ⟨gb, 1, none⟩ = some (.int .u8 0) := (blk_cell BK.out 1).trans rfl; have hfz_0 := blk_frozen BK.out 0; have hfz_1 := blk_frozen BK.out 1))
 refine name_world (fun W => W.heap[gb]? = some (.cells #[.int .u8 128, .int .u8 191] 179 (0, 0)) ∧ Below w.heap.size w W) ⟨?bk, ?be⟩ (fun W ⟨BKW, HBW⟩ => ?_)
 case bk => (with_reducible repeat (first | refine bN ?_ _ | refine bD ?_ | refine bA ?_ _)); refine blk_put (cs := #[.int .u8 128, .int .u8 0]) ?_ 1 _ rfl; (with_reducible repeat (first | refine bN ?_ _ | refine bD ?_ | refine bA ?_ _)); refine blk_put (cs := #[.int .u8 0, .int .u8 0]) ?_ 0 _ rfl; (with_reducible repeat (first | refine bN ?_ _ | refine bD ?_ | refine bA ?_ _)); exact BK.out
 case be => repeat (first | (with_reducible first | exact HB.out | apply wA | apply wN | apply wD | refine below_set ?_ GE.out) | exact HB.out)
 have k0 : W.cell? ⟨gb, 0, none⟩ = some (.int .u8 128) := (blk_cell BKW 0).trans rfl
 have k1 : W.cell? ⟨gb, 1, none⟩ = some (.int .u8 191) := (blk_cell BKW 1).trans rfl
 have d0 := (HBW.cell (World.block_lt_of_cell? w _ c0)).trans c0
 clear HB BK
 go_wp2
 repeat (go_quiet (fail); try go_wp2)
 go_ret
 exact ⟨rfl, by first | exact HBW | (apply wN; exact HBW) | (apply wD; exact HBW)⟩
set_option maxRecDepth 100000 in
set_option maxHeartbeats 4000000 in
theorem full_19 (o g cap : Nat) (a : Nat) (w : World) (hT : Tab w) (n : Nat) (hn : 3 ≤ n) (h1 : 1 ≤ n) (ha : a < 256) (c0 : w.cell? ⟨g, o, none⟩ = some (.int .u8 (a : Int))) (hx : Lib.firstT a = 19) :
  Calls Tryz.prog 105 #[.slice (some ⟨g, o, none⟩) n cap] w fun e w' => e = .returned (.bool true) ∧ Below w.heap.size w w' := by
 have HB := ak_ (Below.refl w.heap.size w)
 have ht0 := hT.1 a ha
 rw [hx] at ht0
 have ht0' : w.cell? ⟨4, a, none⟩ = some (.int .u8 19) := ht0
 have l0 : ((n : Int) == 0) = false := beq_eq_false_iff_ne.mpr (by omega)
 have l1 : decide ((3 : Int) ≤ (n : Int)) = true := decide_eq_true (by omega)
 go_enter Tryz.func105, Tryz.ntmps105
 go_wp2
 go_ret
 exact ⟨rfl, HB.out⟩
set_option maxRecDepth 100000 in
set_option maxHeartbeats 4000000 in
theorem short_19_1 (o g cap : Nat) (a : Nat) (w : World) (hT : Tab w) (ha : a < 256) (c0 : w.cell? ⟨g, o, none⟩ = some (.int .u8 (a : Int))) (hx : Lib.firstT a = 19) :
  Calls Tryz.prog 105 #[.slice (some ⟨g, o, none⟩) 1 cap] w fun e w' => e = .returned (.bool false) ∧ Below w.heap.size w w' := by
 have HB := ak_ (Below.refl w.heap.size w)
 have ht0 := hT.1 a ha
 rw [hx] at ht0
 have ht0' : w.cell? ⟨4, a, none⟩ = some (.int .u8 19) := ht0
 have hl := (hT.2 1 (by decide)).1
 have hh := (hT.2 1 (by decide)).2
 have hl' : w.cell? ⟨5, 2, none⟩ = some (.int .u8 160) := hl
 have hh' : w.cell? ⟨5, 3, none⟩ = some (.int .u8 191) := hh
 go_enter Tryz.func105, Tryz.ntmps105
 go_upto_region 8 with (first | ((with_reducible refine gate_dst (N := 5) rfl ?_); refine box_event ?hg (N := 5) ?hd (cs := #[.int .u8 0, .int .u8 0]) (t := 179) ?hr ?_; (case hd => rfl); (case hg => rfl); (case hr => first | (go_simp; done) | (go_simp; rfl)); intro gb hg w5 hbox hb; have n0_ := ak_ (below_step (by repeat (first | (with_reducible first | exact HB.out | apply wA | apply wN | apply wD) | exact HB.out)) hb); have n1_ := ak_ (hbox); have n3_ := ak_ ((by rw [hg]; exact (below_size (by repeat (first | (with_reducible first | exact HB.out | apply wA | apply wN | apply wD) | exact HB.out))) : w.heap.size ≤ gb)); clear HB; have HB := n0_; have BK := n1_; have GE := n3_; clear n0_ n1_ n3_; clear hb hbox hg; have hcz_0 : w5.cell? ⟨gb, 0, none⟩ = some (.int .u8 0) := (blk_cell BK.out 0).trans rfl; have hcz_1 : w5.cell? ⟨gb, 1, none⟩ = some (.int .u8 0) := (blk_cell BK.out 1).trans rfl; have hfz_0 := blk_frozen BK.out 0; have hfz_1 := blk_frozen BK.out 1))
 refine name_world (fun W => W.heap[gb]? = some (.cells #[.int .u8 160, .int .u8 191] 179 (0, 0)) ∧ Below w.heap.size w W) ⟨?bk, ?be⟩ (fun W ⟨BKW, HBW⟩ => ?_)
 case bk => (with_reducible repeat (first | refine bN ?_ _ | refine bD ?_ | refine bA ?_ _)); refine blk_put (cs := #[.int .u8 160, .int .u8 0]) ?_ 1 _ rfl; (with_reducible repeat (first | refine bN ?_ _ | refine bD ?_ | refine bA ?_ _)); refine blk_put (cs := #[.int .u8 0, .int .u8 0]) ?_ 0 _ rfl; (with_reducible repeat (first | refine bN ?_ _ | refine bD ?_ | refine bA ?_ _)); exact BK.out
 case be => repeat (first | (with_reducible first | exact HB.out | apply wA | apply wN | apply wD | refine below_set ?_ GE.out) | exact HB.out)
 have k0 : W.cell? ⟨gb, 0, none⟩ = some (.int .u8 160) := (blk_cell BKW 0).trans rfl
 have k1 : W.cell? ⟨gb, 1, none⟩ = some (.int .u8 191) := (blk_cell BKW 1).trans rfl
 have d0 := (HBW.cell (World.block_lt_of_cell? w _ c0)).trans c0
 clear HB BK
 go_wp2
 repeat (go_quiet (fail); try go_wp2)
 go_ret
 exact ⟨rfl, by first | exact HBW | (apply wN; exact HBW) | (apply wD; exact HBW)⟩
set_option maxRecDepth 100000 in
set_option maxHeartbeats 4000000 in
theorem s_19_2_lo (o g cap : Nat) (a b : Nat) (w : World) (hT : Tab w) (ha : a < 256) (c0 : w.cell? ⟨g, o, none⟩ = some (.int .u8 (a : Int))) (hb : b < 256) (c1 : w.cell? ⟨g, o + 1, none⟩ = some (.int .u8 (b : Int))) (hx : Lib.firstT a = 19) (p0 : (b : Int) < 160) :
  Calls Tryz.prog 105 #[.slice (some ⟨g, o, none⟩) 2 cap] w fun e w' => e = .returned (.bool true) ∧ Below w.heap.size w w' := by
 have HB := ak_ (Below.refl w.heap.size w)
 have ht0 := hT.1 a ha
 rw [hx] at ht0
 have ht0' : w.cell? ⟨4, a, none⟩ = some (.int .u8 19) := ht0
 have q0 := decide_eq_true p0
 have hl := (hT.2 1 (by decide)).1
 have hh := (hT.2 1 (by decide)).2
 have hl' : w.cell? ⟨5, 2, none⟩ = some (.int .u8 160) := hl
 have hh' : w.cell? ⟨5, 3, none⟩ = some (.int .u8 191) := hh
 go_enter Tryz.func105, Tryz.ntmps105
 go_upto_region 8 with (first | ((with_reducible refine gate_dst (N := 5) rfl ?_); refine box_event ?hg (N := 5) ?hd (cs := #[.int .u8 0, .int .u8 0]) (t := 179) ?hr ?_; (case hd => rfl); (case hg => rfl); (case hr => first | (go_simp; done) | (go_simp; rfl)); intro gb hg w5 hbox hb; have n0_ := ak_ (below_step (by repeat (first | (with_reducible first | exact HB.out | apply wA | apply wN | apply wD) | exact HB.out)) hb); have n1_ := ak_ (hbox); have n3_ := ak_ ((by rw [hg]; exact (below_size (by repeat (first | (with_reducible first | exact HB.out | apply wA | apply wN | apply wD) | exact HB.out))) : w.heap.size ≤ gb)); clear HB; have HB := n0_; have BK := n1_; have GE := n3_; clear n0_ n1_ n3_; clear hb hbox hg; have hcz_0 : w5.cell? ⟨gb, 0, none⟩ = some (.int .u8 0) := (blk_cell BK.out 0).trans rfl; have hcz_1 : w5.cell? ⟨gb, 1, none⟩ = some (.int .u8 0) := (blk_cell BK.out 1).trans rfl; have hfz_0 := blk_frozen BK.out 0; have hfz_1 := blk_frozen BK.out 1))
 refine name_world (fun W => W.heap[gb]? = some (.cells #[.int .u8 160, .int .u8 191] 179 (0, 0)) ∧ Below w.heap.size w W) ⟨?bk, ?be⟩ (fun W ⟨BKW, HBW⟩ => ?_)
 case bk => (with_reducible repeat (first | refine bN ?_ _ | refine bD ?_ | refine bA ?_ _)); refine blk_put (cs := #[.int .u8 160, .int .u8 0]) ?_ 1 _ rfl; (with_reducible repeat (first | refine bN ?_ _ | refine bD ?_ | refine bA ?_ _)); refine blk_put (cs := #[.int .u8 0, .int .u8 0]) ?_ 0 _ rfl; (with_reducible repeat (first | refine bN ?_ _ | refine bD ?_ | refine bA ?_ _)); exact BK.out
 case be => repeat (first | (with_reducible first | exact HB.out | apply wA | apply wN | apply wD | refine below_set ?_ GE.out) | exact HB.out)
 have k0 : W.cell? ⟨gb, 0, none⟩ = some (.int .u8 160) := (blk_cell BKW 0).trans rfl
 have k1 : W.cell? ⟨gb, 1, none⟩ = some (.int .u8 191) := (blk_cell BKW 1).trans rfl
 have d0 := (HBW.cell (World.block_lt_of_cell? w _ c0)).trans c0
 have d1 := (HBW.cell (World.block_lt_of_cell? w _ c1)).trans c1
 clear HB BK
 go_wp2
 repeat (go_quiet (fail); try go_wp2)
 go_ret
 exact ⟨rfl, by first | exact HBW | (apply wN; exact HBW) | (apply wD; exact HBW)⟩
set_option maxRecDepth 100000 in
set_option maxHeartbeats 4000000 in
theorem s_19_2_hi (o g cap : Nat) (a b : Nat) (w : World) (hT : Tab w) (ha : a < 256) (c0 : w.cell? ⟨g, o, none⟩ = some (.int .u8 (a : Int))) (hb : b < 256) (c1 : w.cell? ⟨g, o + 1, none⟩ = some (.int .u8 (b : Int))) (hx : Lib.firstT a = 19) (p0 : ¬ (b : Int) < 160) (p1 : 191 < (b : Int)) :
  Calls Tryz.prog 105 #[.slice (some ⟨g, o, none⟩) 2 cap] w fun e w' => e = .returned (.bool true) ∧ Below w.heap.size w w' := by
 have HB := ak_ (Below.refl w.heap.size w)
 have ht0 := hT.1 a ha
 rw [hx] at ht0
 have ht0' : w.cell? ⟨4, a, none⟩ = some (.int .u8 19) := ht0
 have q0 := decide_eq_false p0
 have q1 := decide_eq_true p1
 have hl := (hT.2 1 (by decide)).1
 have hh := (hT.2 1 (by decide)).2
 have hl' : w.cell? ⟨5, 2, none⟩ = some (.int .u8 160) := hl
 have hh' : w.cell? ⟨5, 3, none⟩ = some (.int .u8 191) := hh
 go_enter Tryz.func105, Tryz.ntmps105
 go_upto_region 8 with (first | ((with_reducible refine gate_dst (N := 5) rfl ?_); refine box_event ?hg (N := 5) ?hd (cs := #[.int .u8 0, .int .u8 0]) (t := 179) ?hr ?_; (case hd => rfl); (case hg => rfl); (case hr => first | (go_simp; done) | (go_simp; rfl)); intro gb hg w5 hbox hb; have n0_ := ak_ (below_step (by repeat (first | (with_reducible first | exact HB.out | apply wA | apply wN | apply wD) | exact HB.out)) hb); have n1_ := ak_ (hbox); have n3_ := ak_ ((by rw [hg]; exact (below_size (by repeat (first | (with_reducible first | exact HB.out | apply wA | apply wN | apply wD) | exact HB.out))) : w.heap.size ≤ gb)); clear HB; have HB := n0_; have BK := n1_; have GE := n3_; clear n0_ n1_ n3_; clear hb hbox hg; have hcz_0 : w5.cell? ⟨gb, 0, none⟩ = some (.int .u8 0) := (blk_cell BK.out 0).trans rfl; have hcz_1 : w5.cell? ⟨gb, 1, none⟩ = some (.int .u8 0) := (blk_cell BK.out 1).trans rfl; have hfz_0 := blk_frozen BK.out 0; have hfz_1 := blk_frozen BK.out 1))
 refine name_world (fun W => W.heap[gb]? = some (.cells #[.int .u8 160, .int .u8 191] 179 (0, 0)) ∧ Below w.heap.size w W) ⟨?bk, ?be⟩ (fun W ⟨BKW, HBW⟩ => ?_)
 case bk => (with_reducible repeat (first | refine bN ?_ _ | refine bD ?_ | refine bA ?_ _)); refine blk_put (cs := #[.int .u8 160, .int .u8 0]) ?_ 1 _ rfl; (with_reducible repeat (first | refine bN ?_ _ | refine bD ?_ | refine bA ?_ _)); refine blk_put (cs := #[.int .u8 0, .int .u8 0]) ?_ 0 _ rfl; (with_reducible repeat (first | refine bN ?_ _ | refine bD ?_ | refine bA ?_ _)); exact BK.out
 case be => repeat (first | (with_reducible first | exact HB.out | apply wA | apply wN | apply wD | refine below_set ?_ GE.out) | exact HB.out)
 have k0 : W.cell? ⟨gb, 0, none⟩ = some (.int .u8 160) := (blk_cell BKW 0).trans rfl
 have k1 : W.cell? ⟨gb, 1, none⟩ = some (.int .u8 191) := (blk_cell BKW 1).trans rfl
 have d0 := (HBW.cell (World.block_lt_of_cell? w _ c0)).trans c0
 have d1 := (HBW.cell (World.block_lt_of_cell? w _ c1)).trans c1
 clear HB BK
 go_wp2
 repeat (go_quiet (fail); try go_wp2)
 go_ret
 exact ⟨rfl, by first | exact HBW | (apply wN; exact HBW) | (apply wD; exact HBW)⟩
set_option maxRecDepth 100000 in
set_option maxHeartbeats 4000000 in
theorem s_19_2_ok (o g cap : Nat) (a b : Nat) (w : World) (hT : Tab w) (ha : a < 256) (c0 : w.cell? ⟨g, o, none⟩ = some (.int .u8 (a : Int))) (hb : b < 256) (c1 : w.cell? ⟨g, o + 1, none⟩ = some (.int .u8 (b : Int))) (hx : Lib.firstT a = 19) (p0 : ¬ (b : Int) < 160) (p1 : ¬ 191 < (b : Int)) :
  Calls Tryz.prog 105 #[.slice (some ⟨g, o, none⟩) 2 cap] w fun e w' => e = .returned (.bool false) ∧ Below w.heap.size w w' := by
 have HB := ak_ (Below.refl w.heap.size w)
 have ht0 := hT.1 a ha
 rw [hx] at ht0
 have ht0' : w.cell? ⟨4, a, none⟩ = some (.int .u8 19) := ht0
 have q0 := decide_eq_false p0
 have q1 := decide_eq_false p1
 have hl := (hT.2 1 (by decide)).1
 have hh := (hT.2 1 (by decide)).2
 have hl' : w.cell? ⟨5, 2, none⟩ = some (.int .u8 160) := hl
 have hh' : w.cell? ⟨5, 3, none⟩ = some (.int .u8 191) := hh
 go_enter Tryz.func105, Tryz.ntmps105
 go_upto_region 8 with (first | ((with_reducible refine gate_dst (N := 5) rfl ?_); refine box_event ?hg (N := 5) ?hd (cs := #[.int .u8 0, .int .u8 0]) (t := 179) ?hr ?_; (case hd => rfl); (case hg => rfl); (case hr => first | (go_simp; done) | (go_simp; rfl)); intro gb hg w5 hbox hb; have n0_ := ak_ (below_step (by repeat (first | (with_reducible first | exact HB.out | apply wA | apply wN | apply wD) | exact HB.out)) hb); have n1_ := ak_ (hbox); have n3_ := ak_ ((by rw [hg]; exact (below_size (by repeat (first | (with_reducible first | exact HB.out | apply wA | apply wN | apply wD) | exact HB.out))) : w.heap.size ≤ gb)); clear HB; have HB := n0_; have BK := n1_; have GE := n3_; clear n0_ n1_ n3_; clear hb hbox hg; have hcz_0 : w5.cell? ⟨gb, 0, none⟩ = some (.int .u8 0) := (blk_cell BK.out 0).trans rfl; have hcz_1 : w5.cell? ⟨gb, 1, none⟩ = some (.int .u8 0) := (blk_cell BK.out 1).trans rfl; have hfz_0 := blk_frozen BK.out 0; have hfz_1 := blk_frozen BK.out 1))
 refine name_world (fun W => W.heap[gb]? = some (.cells #[.int .u8 160, .int .u8 191] 179 (0, 0)) ∧ Below w.heap.size w W) ⟨?bk, ?be⟩ (fun W ⟨BKW, HBW⟩ => ?_)
 case bk => (with_reducible repeat (first | refine bN ?_ _ | refine bD ?_ | refine bA ?_ _)); refine blk_put (cs := #[.int .u8 160, .int .u8 0]) ?_ 1 _ rfl; (with_reducible repeat (first | refine bN ?_ _ | refine bD ?_ | refine bA ?_ _)); refine blk_put (cs := #[.int .u8 0, .int .u8 0]) ?_ 0 _ rfl; (with_reducible repeat (first | refine bN ?_ _ | refine bD ?_ | refine bA ?_ _)); exact BK.out
 case be => repeat (first | (with_reducible first | exact HB.out | apply wA | apply wN | apply wD | refine below_set ?_ GE.out) | exact HB.out)
 have k0 : W.cell? ⟨gb, 0, none⟩ = some (.int .u8 160) := (blk_cell BKW 0).trans rfl
 have k1 : W.cell? ⟨gb, 1, none⟩ = some (.int .u8 191) := (blk_cell BKW 1).trans rfl
 have d0 := (HBW.cell (World.block_lt_of_cell? w _ c0)).trans c0
 have d1 := (HBW.cell (World.block_lt_of_cell? w _ c1)).trans c1
 clear HB BK
 go_wp2
 repeat (go_quiet (fail); try go_wp2)
 go_ret
 exact ⟨rfl, by first | exact HBW | (apply wN; exact HBW) | (apply wD; exact HBW)⟩
set_option maxRecDepth 100000 in
set_option maxHeartbeats 4000000 in
theorem full_3 (o g cap : Nat) (a : Nat) (w : World) (hT : Tab w) (n : Nat) (hn : 3 ≤ n) (h1 : 1 ≤ n) (ha : a < 256) (c0 : w.cell? ⟨g, o, none⟩ = some (.int .u8 (a : Int))) (hx : Lib.firstT a = 3) :
  Calls Tryz.prog 105 #[.slice (some ⟨g, o, none⟩) n cap] w fun e w' => e = .returned (.bool true) ∧ Below w.heap.size w w' := by
 have HB := ak_ (Below.refl w.heap.size w)
 have ht0 := hT.1 a ha
 rw [hx] at ht0
 have ht0' : w.cell? ⟨4, a, none⟩ = some (.int .u8 3) := ht0
 have l0 : ((n : Int) == 0) = false := beq_eq_false_iff_ne.mpr (by omega)
 have l1 : decide ((3 : Int) ≤ (n : Int)) = true := decide_eq_true (by omega)
 go_enter Tryz.func105, Tryz.ntmps105
 go_wp2
 go_ret
 exact ⟨rfl, HB.out⟩
set_option maxRecDepth 100000 in
set_option maxHeartbeats 4000000 in
theorem short_3_1 (o g cap : Nat) (a : Nat) (w : World) (hT : Tab w) (ha : a < 256) (c0 : w.cell? ⟨g, o, none⟩ = some (.int .u8 (a : Int))) (hx : Lib.firstT a = 3) :
  Calls Tryz.prog 105 #[.slice (some ⟨g, o, none⟩) 1 cap] w fun e w' => e = .returned (.bool false) ∧ Below w.heap.size w w' := by
 have HB := ak_ (Below.refl w.heap.size w)
 have ht0 := hT.1 a ha
 rw [hx] at ht0
 have ht0' : w.cell? ⟨4, a, none⟩ = some (.int .u8 3) := ht0
 have hl := (hT.2 0 (by decide)).1
 have hh := (hT.2 0 (by decide)).2
 have hl' : w.cell? ⟨5, 0, none⟩ = some (.int .u8 128) := hl
 have hh' : w.cell? ⟨5, 1, none⟩ = some (.int .u8 191) := hh
 go_enter Tryz.func105, Tryz.ntmps105
 go_upto_region 8 with (first | ((with_reducible refine gate_dst (N := 5) rfl ?_); refine box_event ?hg (N := 5) ?hd (cs := #[.int .u8 0, .int .u8 0]) (t := 179) ?hr ?_; (case hd => rfl); (case hg => rfl); (case hr => first | (go_simp; done) | (go_simp; rfl)); intro gb hg w5 hbox hb; have n0_ := ak_ (below_step (by repeat (first | (with_reducible first | exact HB.out | apply wA | apply wN | apply wD) | exact HB.out)) hb); have n1_ := ak_ (hbox); have n3_ := ak_ ((by rw [hg]; exact (below_size (by repeat (first | (with_reducible first | exact HB.out | apply wA | apply wN | apply wD) | exact HB.out))) : w.heap.size ≤ gb)); clear HB; have HB := n0_; have BK := n1_; have GE := n3_; clear n0_ n1_ n3_; clear hb hbox hg; have hcz_0 : w5.cell? ⟨gb, 0, none⟩ = some (.int .u8 0) := (blk_cell BK.out 0).trans rfl; have hcz_1 : w5.cell? ⟨gb, 1, none⟩ = some (.int .u8 0) := (blk_cell BK.out 1).trans rfl; have hfz_0 := blk_frozen BK.out 0; have hfz_1 := blk_frozen BK.out 1))
 refine name_world (fun W => W.heap[gb]? = some (.cells #[.int .u8 128, .int .u8 191] 179 (0, 0)) ∧ Below w.heap.size w W) ⟨?bk, ?be⟩ (fun W ⟨BKW, HBW⟩ => ?_)
 case bk => (with_reducible repeat (first | refine bN ?_ _ | refine bD ?_ | refine bA ?_ _)); refine blk_put (cs := #[.int .u8 128, .int .u8 0]) ?_ 1 _ rfl; (with_reducible repeat (first | refine bN ?_ _ | refine bD ?_ | refine bA ?_ _)); refine blk_put (cs := #[.int .u8 0, .int .u8 0]) ?_ 0 _ rfl; (with_reducible repeat (first | refine bN ?_ _ | refine bD ?_ | refine bA ?_ _)); exact BK.out
 case be => repeat (first | (with_reducible first | exact HB.out | apply wA | apply wN | apply wD | refine below_set ?_ GE.out) | exact HB.out)
 have k0 : W.cell? ⟨gb, 0, none⟩ = some (.int .u8 128) := (blk_cell BKW 0).trans rfl
 have k1 : W.cell? ⟨gb, 1, none⟩ = some (.int .u8 191) := (blk_cell BKW 1).trans rfl
 have d0 := (HBW.cell (World.block_lt_of_cell? w _ c0)).trans c0
 clear HB BK
 go_wp2
 repeat (go_quiet (fail); try go_wp2)
 go_ret
 exact ⟨rfl, by first | exact HBW | (apply wN; exact HBW) | (apply wD; exact HBW)⟩
set_option maxRecDepth 100000 in
set_option maxHeartbeats 4000000 in
theorem s_3_2_lo (o g cap : Nat) (a b : Nat) (w : World) (hT : Tab w) (ha : a < 256) (c0 : w.cell? ⟨g, o, none⟩ = some (.int .u8 (a : Int))) (hb : b < 256) (c1 : w.cell? ⟨g, o + 1, none⟩ = some (.int .u8 (b : Int))) (hx : Lib.firstT a = 3) (p0 : (b : Int) < 128) :
  Calls Tryz.prog 105 #[.slice (some ⟨g, o, none⟩) 2 cap] w fun e w' => e = .returned (.bool true) ∧ Below w.heap.size w w' := by
 have HB := ak_ (Below.refl w.heap.size w)
 have ht0 := hT.1 a ha
 rw [hx] at ht0
 have ht0' : w.cell? ⟨4, a, none⟩ = some (.int .u8 3) := ht0
 have q0 := decide_eq_true p0
 have hl := (hT.2 0 (by decide)).1
 have hh := (hT.2 0 (by decide)).2
 have hl' : w.cell? ⟨5, 0, none⟩ = some (.int .u8 128) := hl
 have hh' : w.cell? ⟨5, 1, none⟩ = some (.int .u8 191) := hh
 go_enter Tryz.func105, Tryz.ntmps105
 go_upto_region 8 with (first | ((with_reducible refine gate_dst (N := 5) rfl ?_); refine box_event ?hg (N := 5) ?hd (cs := #[.int .u8 0, .int .u8 0]) (t := 179) ?hr ?_; (case hd => rfl); (case hg => rfl); (case hr => first | (go_simp; done) | (go_simp; rfl)); intro gb hg w5 hbox hb; have n0_ := ak_ (below_step (by repeat (first | (with_reducible first | exact HB.out | apply wA | apply wN | apply wD) | exact HB.out)) hb); have n1_ := ak_ (hbox); have n3_ := ak_ ((by rw [hg]; exact (below_size (by repeat (first | (with_reducible first | exact HB.out | apply wA | apply wN | apply wD) | exact HB.out))) : w.heap.size ≤ gb)); clear HB; have HB := n0_; have BK := n1_; have GE := n3_; clear n0_ n1_ n3_; clear hb hbox hg; have hcz_0 : w5.cell? ⟨gb, 0, none⟩ = some (.int .u8 0) := (blk_cell BK.out 0).trans rfl; have hcz_1 : w5.cell? ⟨gb, 1, none⟩ = some (.int .u8 0) := (blk_cell BK.out 1).trans rfl; have hfz_0 := blk_frozen BK.out 0; have hfz_1 := blk_frozen BK.out 1))
 refine name_world (fun W => W.heap[gb]? = some (.cells #[.int .u8 128, .int .u8 191] 179 (0, 0)) ∧ Below w.heap.size w W) ⟨?bk, ?be⟩ (fun W ⟨BKW, HBW⟩ => ?_)
 case bk => (with_reducible repeat (first | refine bN ?_ _ | refine bD ?_ | refine bA ?_ _)); refine blk_put (cs := #[.int .u8 128, .int .u8 0]) ?_ 1 _ rfl; (with_reducible repeat (first | refine bN ?_ _ | refine bD ?_ | refine bA ?_ _)); refine blk_put (cs := #[.int .u8 0, .int .u8 0]) ?_ 0 _ rfl; (with_reducible repeat (first | refine bN ?_ _ | refine bD ?_ | refine bA ?_ _)); exact BK.out
 case be => repeat (first | (with_reducible first | exact HB.out | apply wA | apply wN | apply wD | refine below_set ?_ GE.out) | exact HB.out)
 have k0 : W.cell? ⟨gb, 0, none⟩ = some (.int .u8 128) := (blk_cell BKW 0).trans rfl
 have k1 : W.cell? ⟨gb, 1, none⟩ = some (.int .u8 191) := (blk_cell BKW 1).trans rfl
 have d0 := (HBW.cell (World.block_lt_of_cell? w _ c0)).trans c0
 have d1 := (HBW.cell (World.block_lt_of_cell? w _ c1)).trans c1
 clear HB BK
 go_wp2
 repeat (go_quiet (fail); try go_wp2)
 go_ret
 exact ⟨rfl, by first | exact HBW | (apply wN; exact HBW) | (apply wD; exact HBW)⟩
set_option maxRecDepth 100000 in
set_option maxHeartbeats 4000000 in
theorem s_3_2_hi (o g cap : Nat) (a b : Nat) (w : World) (hT : Tab w) (ha : a < 256) (c0 : w.cell? ⟨g, o, none⟩ = some (.int .u8 (a : Int))) (hb : b < 256) (c1 : w.cell? ⟨g, o + 1, none⟩ = some (.int .u8 (b : Int))) (hx : Lib.firstT a = 3) (p0 : ¬ (b : Int) < 128) (p1 : 191 < (b : Int)) :
  Calls Tryz.prog 105 #[.slice (some ⟨g, o, none⟩) 2 cap] w fun e w' => e = .returned (.bool true) ∧ Below w.heap.size w w' := by
 have HB := ak_ (Below.refl w.heap.size w)
 have ht0 := hT.1 a ha
 rw [hx] at ht0
 have ht0' : w.cell? ⟨4, a, none⟩ = some (.int .u8 3) := ht0
 have q0 := decide_eq_false p0
 have q1 := decide_eq_true p1
 have hl := (hT.2 0 (by decide)).1
 have hh := (hT.2 0 (by decide)).2
 have hl' : w.cell? ⟨5, 0, none⟩ = some (.int .u8 128) := hl
 have hh' : w.cell? ⟨5, 1, none⟩ = some (.int .u8 191) := hh
 go_enter Tryz.func105, Tryz.ntmps105
 go_upto_region 8 with (first | ((with_reducible refine gate_dst (N := 5) rfl ?_); refine box_event ?hg (N := 5) ?hd (cs := #[.int .u8 0, .int .u8 0]) (t := 179) ?hr ?_; (case hd => rfl); (case hg => rfl); (case hr => first | (go_simp; done) | (go_simp; rfl)); intro gb hg w5 hbox hb; have n0_ := ak_ (below_step (by repeat (first | (with_reducible first | exact HB.out | apply wA | apply wN | apply wD) | exact HB.out)) hb); have n1_ := ak_ (hbox); have n3_ := ak_ ((by rw [hg]; exact (below_size (by repeat (first | (with_reducible first | exact HB.out | apply wA | apply wN | apply wD) | exact HB.out))) : w.heap.size ≤ gb)); clear HB; have HB := n0_; have BK := n1_; have GE := n3_; clear n0_ n1_ n3_; clear hb hbox hg; have hcz_0 : w5.cell? ⟨gb, 0, none⟩ = some (.int .u8 0) := (blk_cell BK.out 0).trans rfl; have hcz_1 : w5.cell? ⟨gb, 1, none⟩ = some (.int .u8 0) := (blk_cell BK.out 1).trans rfl; have hfz_0 := blk_frozen BK.out 0; have hfz_1 := blk_frozen BK.out 1))
 refine name_world (fun W => W.heap[gb]? = some (.cells #[.int .u8 128, .int .u8 191] 179 (0, 0)) ∧ Below w.heap.size w W) ⟨?bk, ?be⟩ (fun W ⟨BKW, HBW⟩ => ?_)
 case bk => (with_reducible repeat (first | refine bN ?_ _ | refine bD ?_ | refine bA ?_ _)); refine blk_put (cs := #[.int .u8 128, .int .u8 0]) ?_ 1 _ rfl; (with_reducible repeat (first | refine bN ?_ _ | refine bD ?_ | refine bA ?_ _)); refine blk_put (cs := #[.int .u8 0, .int .u8 0]) ?_ 0 _ rfl; (with_reducible repeat (first | refine bN ?_ _ | refine bD ?_ | refine bA ?_ _)); exact BK.out
 case be => repeat (first | (with_reducible first | exact HB.out | apply wA | apply wN | apply wD | refine below_set ?_ GE.out) | exact HB.out)
 have k0 : W.cell? ⟨gb, 0, none⟩ = some (.int .u8 128) := (blk_cell BKW 0).trans rfl
 have k1 : W.cell? ⟨gb, 1, none⟩ = some (.int .u8 191) := (blk_cell BKW 1).trans rfl
 have d0 := (HBW.cell (World.block_lt_of_cell? w _ c0)).trans c0
 have d1 := (HBW.cell (World.block_lt_of_cell? w _ c1)).trans c1
 clear HB BK
 go_wp2
 repeat (go_quiet (fail); try go_wp2)
 go_ret
 exact ⟨rfl, by first | exact HBW | (apply wN; exact HBW) | (apply wD; exact HBW)⟩
set_option maxRecDepth 100000 in
set_option maxHeartbeats 4000000 in
theorem s_3_2_ok (o g cap : Nat) (a b : Nat) (w : World) (hT : Tab w) (ha : a < 256) (c0 : w.cell? ⟨g, o, none⟩ = some (.int .u8 (a : Int))) (hb : b < 256) (c1 : w.cell? ⟨g, o + 1, none⟩ = some (.int .u8 (b : Int))) (hx : Lib.firstT a = 3) (p0 : ¬ (b : Int) < 128) (p1 : ¬ 191 < (b : Int)) :
  Calls Tryz.prog 105 #[.slice (some ⟨g, o, none⟩) 2 cap] w fun e w' => e = .returned (.bool false) ∧ Below w.heap.size w w' := by
 have HB := ak_ (Below.refl w.heap.size w)
 have ht0 := hT.1 a ha
 rw [hx] at ht0
 have ht0' : w.cell? ⟨4, a, none⟩ = some (.int .u8 3) := ht0
 have q0 := decide_eq_false p0
 have q1 := decide_eq_false p1
 have hl := (hT.2 0 (by decide)).1
 have hh := (hT.2 0 (by decide)).2
 have hl' : w.cell? ⟨5, 0, none⟩ = some (.int .u8 128) := hl
 have hh' : w.cell? ⟨5, 1, none⟩ = some (.int .u8 191) := hh
 go_enter Tryz.func105, Tryz.ntmps105
 go_upto_region 8 with (first | ((with_reducible refine gate_dst (N := 5) rfl ?_); refine box_event ?hg (N := 5) ?hd (cs := #[.int .u8 0, .int .u8 0]) (t := 179) ?hr ?_; (case hd => rfl); (case hg => rfl); (case hr => first | (go_simp; done) | (go_simp; rfl)); intro gb hg w5 hbox hb; have n0_ := ak_ (below_step (by repeat (first | (with_reducible first | exact HB.out | apply wA | apply wN | apply wD) | exact HB.out)) hb); have n1_ := ak_ (hbox); have n3_ := ak_ ((by rw [hg]; exact (below_size (by repeat (first | (with_reducible first | exact HB.out | apply wA | apply wN | apply wD) | exact HB.out))) : w.heap.size ≤ gb)); clear HB; have HB := n0_; have BK := n1_; have GE := n3_; clear n0_ n1_ n3_; clear hb hbox hg; have hcz_0 : w5.cell? ⟨gb, 0, none⟩ = some (.int .u8 0) := (blk_cell BK.out 0).trans rfl; have hcz_1 : w5.cell? ⟨gb, 1, none⟩ = some (.int .u8 0) := (blk_cell BK.out 1).trans rfl; have hfz_0 := blk_frozen BK.out 0; have hfz_1 := blk_frozen BK.out 1))
 refine name_world (fun W => W.heap[gb]? = some (.cells #[.int .u8 128, .int .u8 191] 179 (0, 0)) ∧ Below w.heap.size w W) ⟨?bk, ?be⟩ (fun W ⟨BKW, HBW⟩ => ?_)
 case bk => (with_reducible repeat (first | refine bN ?_ _ | refine bD ?_ | refine bA ?_ _)); refine blk_put (cs := #[.int .u8 128, .int .u8 0]) ?_ 1 _ rfl; (with_reducible repeat (first | refine bN ?_ _ | refine bD ?_ | refine bA ?_ _)); refine blk_put (cs := #[.int .u8 0, .int .u8 0]) ?_ 0 _ rfl; (with_reducible repeat (first | refine bN ?_ _ | refine bD ?_ | refine bA ?_ _)); exact BK.out
 case be => repeat (first | (with_reducible first | exact HB.out | apply wA | apply wN | apply wD | refine below_set ?_ GE.out) | exact HB.out)
 have k0 : W.cell? ⟨gb, 0, none⟩ = some (.int .u8 128) := (blk_cell BKW 0).trans rfl
 have k1 : W.cell? ⟨gb, 1, none⟩ = some (.int .u8 191) := (blk_cell BKW 1).trans rfl
 have d0 := (HBW.cell (World.block_lt_of_cell? w _ c0)).trans c0
 have d1 := (HBW.cell (World.block_lt_of_cell? w _ c1)).trans c1
 clear HB BK
 go_wp2
 repeat (go_quiet (fail); try go_wp2)
 go_ret
 exact ⟨rfl, by first | exact HBW | (apply wN; exact HBW) | (apply wD; exact HBW)⟩
set_option maxRecDepth 100000 in
set_option maxHeartbeats 4000000 in
theorem full_35 (o g cap : Nat) (a : Nat) (w : World) (hT : Tab w) (n : Nat) (hn : 3 ≤ n) (h1 : 1 ≤ n) (ha : a < 256) (c0 : w.cell? ⟨g, o, none⟩ = some (.int .u8 (a : Int))) (hx : Lib.firstT a = 35) :
  Calls Tryz.prog 105 #[.slice (some ⟨g, o, none⟩) n cap] w fun e w' => e = .returned (.bool true) ∧ Below w.heap.size w w' := by
 have HB := ak_ (Below.refl w.heap.size w)
 have ht0 := hT.1 a ha
 rw [hx] at ht0
 have ht0' : w.cell? ⟨4, a, none⟩ = some (.int .u8 35) := ht0
 have l0 : ((n : Int) == 0) = false := beq_eq_false_iff_ne.mpr (by omega)
 have l1 : decide ((3 : Int) ≤ (n : Int)) = true := decide_eq_true (by omega)
 go_enter Tryz.func105, Tryz.ntmps105
 go_wp2
 go_ret
 exact ⟨rfl, HB.out⟩
set_option maxRecDepth 100000 in
set_option maxHeartbeats 4000000 in
theorem short_35_1 (o g cap : Nat) (a : Nat) (w : World) (hT : Tab w) (ha : a < 256) (c0 : w.cell? ⟨g, o, none⟩ = some (.int .u8 (a : Int))) (hx : Lib.firstT a = 35) :
  Calls Tryz.prog 105 #[.slice (some ⟨g, o, none⟩) 1 cap] w fun e w' => e = .returned (.bool false) ∧ Below w.heap.size w w' := by
 have HB := ak_ (Below.refl w.heap.size w)
 have ht0 := hT.1 a ha
 rw [hx] at ht0
 have ht0' : w.cell? ⟨4, a, none⟩ = some (.int .u8 35) := ht0
 have hl := (hT.2 2 (by decide)).1
 have hh := (hT.2 2 (by decide)).2
 have hl' : w.cell? ⟨5, 4, none⟩ = some (.int .u8 128) := hl
 have hh' : w.cell? ⟨5, 5, none⟩ = some (.int .u8 159) := hh
 go_enter Tryz.func105, Tryz.ntmps105
 go_upto_region 8 with (first | ((with_reducible refine gate_dst (N := 5) rfl ?_); refine box_event ?hg (N := 5) ?hd (cs := #[.int .u8 0, .int .u8 0]) (t := 179) ?hr ?_; (case hd => rfl); (case hg => rfl); (case hr => first | (go_simp; done) | (go_simp; rfl)); intro gb hg w5 hbox hb; have n0_ := ak_ (below_step (by repeat (first | (with_reducible first | exact HB.out | apply wA | apply wN | apply wD) | exact HB.out)) hb); have n1_ := ak_ (hbox); have n3_ := ak_ ((by rw [hg]; exact (below_size (by repeat (first | (with_reducible first | exact HB.out | apply wA | apply wN | apply wD) | exact HB.out))) : w.heap.size ≤ gb)); clear HB; have HB := n0_; have BK := n1_; have GE := n3_; clear n0_ n1_ n3_; clear hb hbox hg; have hcz_0 : w5.cell? ⟨gb, 0, none⟩ = some (.int .u8 0) := (blk_cell BK.out 0).trans rfl; have hcz_1 : w5.cell? ⟨gb, 1, none⟩ = some (.int .u8 0) := (blk_cell BK.out 1).trans rfl; have hfz_0 := blk_frozen BK.out 0; have hfz_1 := blk_frozen BK.out 1))
 refine name_world (fun W => W.heap[gb]? = some (.cells #[.int .u8 128, .int .u8 159] 179 (0, 0)) ∧ Below w.heap.size w W) ⟨?bk, ?be⟩ (fun W ⟨BKW, HBW⟩ => ?_)
 case bk => (with_reducible repeat (first | refine bN ?_ _ | refine bD ?_ | refine bA ?_ _)); refine blk_put (cs := #[.int .u8 128, .int .u8 0]) ?_ 1 _ rfl; (with_reducible repeat (first | refine bN ?_ _ | refine bD ?_ | refine bA ?_ _)); refine blk_put (cs := #[.int .u8 0, .int .u8 0]) ?_ 0 _ rfl; (with_reducible repeat (first | refine bN ?_ _ | refine bD ?_ | refine bA ?_ _)); exact BK.out
 case be => repeat (first | (with_reducible first | exact HB.out | apply wA | apply wN | apply wD | refine below_set ?_ GE.out) | exact HB.out)
 have k0 : W.cell? ⟨gb, 0, none⟩ = some (.int .u8 128) := (blk_cell BKW 0).trans rfl
 have k1 : W.cell? ⟨gb, 1, none⟩ = some (.int .u8 159) := (blk_cell BKW 1).trans rfl
 have d0 := (HBW.cell (World.block_lt_of_cell? w _ c0)).trans c0
 clear HB BK
 go_wp2
 repeat (go_quiet (fail); try go_wp2)
 go_ret
 exact ⟨rfl, by first | exact HBW | (apply wN; exact HBW) | (apply wD; exact HBW)⟩
set_option maxRecDepth 100000 in
set_option maxHeartbeats 4000000 in
theorem s_35_2_lo (o g cap : Nat) (a b : Nat) (w : World) (hT : Tab w) (ha : a < 256) (c0 : w.cell? ⟨g, o, none⟩ = some (.int .u8 (a : Int))) (hb : b < 256) (c1 : w.cell? ⟨g, o + 1, none⟩ = some (.int .u8 (b : Int))) (hx : Lib.firstT a = 35) (p0 : (b : Int) < 128) :
  Calls Tryz.prog 105 #[.slice (some ⟨g, o, none⟩) 2 cap] w fun e w' => e = .returned (.bool true) ∧ Below w.heap.size w w' := by
 have HB := ak_ (Below.refl w.heap.size w)
 have ht0 := hT.1 a ha
 rw [hx] at ht0
 have ht0' : w.cell? ⟨4, a, none⟩ = some (.int .u8 35) := ht0
 have q0 := decide_eq_true p0
 have hl := (hT.2 2 (by decide)).1
 have hh := (hT.2 2 (by decide)).2
 have hl' : w.cell? ⟨5, 4, none⟩ = some (.int .u8 128) := hl
 have hh' : w.cell? ⟨5, 5, none⟩ = some (.int .u8 159) := hh
 go_enter Tryz.func105, Tryz.ntmps105
 go_upto_region 8 with (first | ((with_reducible refine gate_dst (N := 5) rfl ?_); refine box_event ?hg (N := 5) ?hd (cs := #[.int .u8 0, .int .u8 0]) (t := 179) ?hr ?_; (case hd => rfl); (case hg => rfl); (case hr => first | (go_simp; done) | (go_simp; rfl)); intro gb hg w5 hbox hb; have n0_ := ak_ (below_step (by repeat (first | (with_reducible first | exact HB.out | apply wA | apply wN | apply wD) | exact HB.out)) hb); have n1_ := ak_ (hbox); have n3_ := ak_ ((by rw [hg]; exact (below_size (by repeat (first | (with_reducible first | exact HB.out | apply wA | apply wN | apply wD) | exact HB.out))) : w.heap.size ≤ gb)); clear HB; have HB := n0_; have BK := n1_; have GE := n3_; clear n0_ n1_ n3_; clear hb hbox hg; have hcz_0 : w5.cell? ⟨gb, 0, none⟩ = some (.int .u8 0) := (blk_cell BK.out 0).trans rfl; have hcz_1 : w5.cell? ⟨gb, 1, none⟩ = some (.int .u8 0) := (blk_cell BK.out 1).trans rfl; have hfz_0 := blk_frozen BK.out 0; have hfz_1 := blk_frozen BK.out 1))
 refine name_world (fun W => W.heap[gb]? = some (.cells #[.int .u8 128, .int .u8 159] 179 (0, 0)) ∧ Below w.heap.size w W) ⟨?bk, ?be⟩ (fun W ⟨BKW, HBW⟩ => ?_)
 case bk => (with_reducible repeat (first | refine bN ?_ _ | refine bD ?_ | refine bA ?_ _)); refine blk_put (cs := #[.int .u8 128, .int .u8 0]) ?_ 1 _ rfl; (with_reducible repeat (first | refine bN ?_ _ | refine bD ?_ | refine bA ?_ _)); refine blk_put (cs := #[.int .u8 0, .int .u8 0]) ?_ 0 _ rfl; (with_reducible repeat (first | refine bN ?_ _ | refine bD ?_ | refine bA ?_ _)); exact BK.out
 case be => repeat (first | (with_reducible first | exact HB.out | apply wA | apply wN | apply wD | refine below_set ?_ GE.out) | exact HB.out)
 have k0 : W.cell? ⟨gb, 0, none⟩ = some (.int .u8 128) := (blk_cell BKW 0).trans rfl
 have k1 : W.cell? ⟨gb, 1, none⟩ = some (.int .u8 159) := (blk_cell BKW 1).trans rfl
 have d0 := (HBW.cell (World.block_lt_of_cell? w _ c0)).trans c0
 have d1 := (HBW.cell (World.block_lt_of_cell? w _ c1)).trans c1
 clear HB BK
 go_wp2
 repeat (go_quiet (fail); try go_wp2)
 go_ret
 exact ⟨rfl, by first | exact HBW | (apply wN; exact HBW) | (apply wD; exact HBW)⟩
set_option maxRecDepth 100000 in
set_option maxHeartbeats 4000000 in
theorem s_35_2_hi (o g cap : Nat) (a b : Nat) (w : World) (hT : Tab w) (ha : a < 256) (c0 : w.cell? ⟨g, o, none⟩ = some (.int .u8 (a : Int))) (hb : b < 256) (c1 : w.cell? ⟨g, o + 1, none⟩ = some (.int .u8 (b : Int))) (hx : Lib.firstT a = 35) (p0 : ¬ (b : Int) < 128) (p1 : 159 < (b : Int)) :
  Calls Tryz.prog 105 #[.slice (some ⟨g, o, none⟩) 2 cap] w fun e w' => e = .returned (.bool true) ∧ Below w.heap.size w w' := by
 have HB := ak_ (Below.refl w.heap.size w)
 have ht0 := hT.1 a ha
 rw [hx] at ht0
 have ht0' : w.cell? ⟨4, a, none⟩ = some (.int .u8 35) := ht0
 have q0 := decide_eq_false p0
 have q1 := decide_eq_true p1
 have hl := (hT.2 2 (by decide)).1
 have hh := (hT.2 2 (by decide)).2
 have hl' : w.cell? ⟨5, 4, none⟩ = some (.int .u8 128) := hl
 have hh' : w.cell? ⟨5, 5, none⟩ = some (.int .u8 159) := hh
 go_enter Tryz.func105, Tryz.ntmps105
 go_upto_region 8 with (first | ((with_reducible refine gate_dst (N := 5) rfl ?_); refine box_event ?hg (N := 5) ?hd (cs := #[.int .u8 0, .int .u8 0]) (t := 179) ?hr ?_; (case hd => rfl); (case hg => rfl); (case hr => first | (go_simp; done) | (go_simp; rfl)); intro gb hg w5 hbox hb; have n0_ := ak_ (below_step (by repeat (first | (with_reducible first | exact HB.out | apply wA | apply wN | apply wD) | exact HB.out)) hb); have n1_ := ak_ (hbox); have n3_ := ak_ ((by rw [hg]; exact (below_size (by repeat (first | (with_reducible first | exact HB.out | apply wA | apply wN | apply wD) | exact HB.out))) : w.heap.size ≤ gb)); clear HB; have HB := n0_; have BK := n1_; have GE := n3_; clear n0_ n1_ n3_; clear hb hbox hg; have hcz_0 : w5.cell? ⟨gb, 0, none⟩ = some (.int .u8 0) := (blk_cell BK.out 0).trans rfl; have hcz_1 : w5.cell? ⟨gb, 1, none⟩ = some (.int .u8 0) := (blk_cell BK.out 1).trans rfl; have hfz_0 := blk_frozen BK.out 0; have hfz_1 := blk_frozen BK.out 1))
 refine name_world (fun W => W.heap[gb]? = some (.cells #[.int .u8 128, .int .u8 159] 179 (0, 0)) ∧ Below w.heap.size w W) ⟨?bk, ?be⟩ (fun W ⟨BKW, HBW⟩ => ?_)
 case bk => (with_reducible repeat (first | refine bN ?_ _ | refine bD ?_ | refine bA ?_ _)); refine blk_put (cs := #[.int .u8 128, .int .u8 0]) ?_ 1 _ rfl; (with_reducible repeat (first | refine bN ?_ _ | refine bD ?_ | refine bA ?_ _)); refine blk_put (cs := #[.int .u8 0, .int .u8 0]) ?_ 0 _ rfl; (with_reducible repeat (first | refine bN ?_ _ | refine bD ?_ | refine bA ?_ _)); exact BK.out
 case be => repeat (first | (with_reducible first | exact HB.out | apply wA | apply wN | apply wD | refine below_set ?_ GE.out) | exact HB.out)
 have k0 : W.cell? ⟨gb, 0, none⟩ = some (.int .u8 128) := (blk_cell BKW 0).trans rfl
 have k1 : W.cell? ⟨gb, 1, none⟩ = some (.int .u8 159) := (blk_cell BKW 1).trans rfl
 have d0 := (HBW.cell (World.block_lt_of_cell? w _ c0)).trans c0
 have d1 := (HBW.cell (World.block_lt_of_cell? w _ c1)).trans c1
 clear HB BK
 go_wp2
 repeat (go_quiet (fail); try go_wp2)
 go_ret
 exact ⟨rfl, by first | exact HBW | (apply wN; exact HBW) | (apply wD; exact HBW)⟩
set_option maxRecDepth 100000 in
set_option maxHeartbeats 4000000 in
theorem s_35_2_ok (o g cap : Nat) (a b : Nat) (w : World) (hT : Tab w) (ha : a < 256) (c0 : w.cell? ⟨g, o, none⟩ = some (.int .u8 (a : Int))) (hb : b < 256) (c1 : w.cell? ⟨g, o + 1, none⟩ = some (.int .u8 (b : Int))) (hx : Lib.firstT a = 35) (p0 : ¬ (b : Int) < 128) (p1 : ¬ 159 < (b : Int)) :
  Calls Tryz.prog 105 #[.slice (some ⟨g, o, none⟩) 2 cap] w fun e w' => e = .returned (.bool false) ∧ Below w.heap.size w w' := by
 have HB := ak_ (Below.refl w.heap.size w)
 have ht0 := hT.1 a ha
 rw [hx] at ht0
 have ht0' : w.cell? ⟨4, a, none⟩ = some (.int .u8 35) := ht0
 have q0 := decide_eq_false p0
 have q1 := decide_eq_false p1
 have hl := (hT.2 2 (by decide)).1
 have hh := (hT.2 2 (by decide)).2
 have hl' : w.cell? ⟨5, 4, none⟩ = some (.int .u8 128) := hl
 have hh' : w.cell? ⟨5, 5, none⟩ = some (.int .u8 159) := hh
 go_enter Tryz.func105, Tryz.ntmps105
 go_upto_region 8 with (first | ((with_reducible refine gate_dst (N := 5) rfl ?_); refine box_event ?hg (N := 5) ?hd (cs := #[.int .u8 0, .int .u8 0]) (t := 179) ?hr ?_; (case hd => rfl); (case hg => rfl); (case hr => first | (go_simp; done) | (go_simp; rfl)); intro gb hg w5 hbox hb; have n0_ := ak_ (below_step (by repeat (first | (with_reducible first | exact HB.out | apply wA | apply wN | apply wD) | exact HB.out)) hb); have n1_ := ak_ (hbox); have n3_ := ak_ ((by rw [hg]; exact (below_size (by repeat (first | (with_reducible first | exact HB.out | apply wA | apply wN | apply wD) | exact HB.out))) : w.heap.size ≤ gb)); clear HB; have HB := n0_; have BK := n1_; have GE := n3_; clear n0_ n1_ n3_; clear hb hbox hg; have hcz_0 : w5.cell? ⟨gb, 0, none⟩ = some (.int .u8 0) := (blk_cell BK.out 0).trans rfl; have hcz_1 : w5.cell? ⟨gb, 1, none⟩ = some (.int .u8 0) := (blk_cell BK.out 1).trans rfl; have hfz_0 := blk_frozen BK.out 0; have hfz_1 := blk_frozen BK.out 1))
 refine name_world (fun W => W.heap[gb]? = some (.cells #[.int .u8 128, .int .u8 159] 179 (0, 0)) ∧ Below w.heap.size w W) ⟨?bk, ?be⟩ (fun W ⟨BKW, HBW⟩ => ?_)
 case bk => (with_reducible repeat (first | refine bN ?_ _ | refine bD ?_ | refine bA ?_ _)); refine blk_put (cs := #[.int .u8 128, .int .u8 0]) ?_ 1 _ rfl; (with_reducible repeat (first | refine bN ?_ _ | refine bD ?_ | refine bA ?_ _)); refine blk_put (cs := #[.int .u8 0, .int .u8 0]) ?_ 0 _ rfl; (with_reducible repeat (first | refine bN ?_ _ | refine bD ?_ | refine bA ?_ _)); exact BK.out
 case be => repeat (first | (with_reducible first | exact HB.out | apply wA | apply wN | apply wD | refine below_set ?_ GE.out) | exact HB.out)
 have k0 : W.cell? ⟨gb, 0, none⟩ = some (.int .u8 128) := (blk_cell BKW 0).trans rfl
 have k1 : W.cell? ⟨gb, 1, none⟩ = some (.int .u8 159) := (blk_cell BKW 1).trans rfl
 have d0 := (HBW.cell (World.block_lt_of_cell? w _ c0)).trans c0
 have d1 := (HBW.cell (World.block_lt_of_cell? w _ c1)).trans c1
 clear HB BK
 go_wp2
 repeat (go_quiet (fail); try go_wp2)
 go_ret
 exact ⟨rfl, by first | exact HBW | (apply wN; exact HBW) | (apply wD; exact HBW)⟩
set_option maxRecDepth 100000 in
set_option maxHeartbeats 4000000 in
theorem full_52 (o g cap : Nat) (a : Nat) (w : World) (hT : Tab w) (n : Nat) (hn : 4 ≤ n) (h1 : 1 ≤ n) (ha : a < 256) (c0 : w.cell? ⟨g, o, none⟩ = some (.int .u8 (a : Int))) (hx : Lib.firstT a = 52) :
  Calls Tryz.prog 105 #[.slice (some ⟨g, o, none⟩) n cap] w fun e w' => e = .returned (.bool true) ∧ Below w.heap.size w w' := by
 have HB := ak_ (Below.refl w.heap.size w)
 have ht0 := hT.1 a ha
 rw [hx] at ht0
 have ht0' : w.cell? ⟨4, a, none⟩ = some (.int .u8 52) := ht0
 have l0 : ((n : Int) == 0) = false := beq_eq_false_iff_ne.mpr (by omega)
 have l1 : decide ((4 : Int) ≤ (n : Int)) = true := decide_eq_true (by omega)
 go_enter Tryz.func105, Tryz.ntmps105
 go_wp2
 go_ret
 exact ⟨rfl, HB.out⟩
set_option maxRecDepth 100000 in
set_option maxHeartbeats 4000000 in
theorem short_52_1 (o g cap : Nat) (a : Nat) (w : World) (hT : Tab w) (ha : a < 256) (c0 : w.cell? ⟨g, o, none⟩ = some (.int .u8 (a : Int))) (hx : Lib.firstT a = 52) :
  Calls Tryz.prog 105 #[.slice (some ⟨g, o, none⟩) 1 cap] w fun e w' => e = .returned (.bool false) ∧ Below w.heap.size w w' := by
 have HB := ak_ (Below.refl w.heap.size w)
 have ht0 := hT.1 a ha
 rw [hx] at ht0
 have ht0' : w.cell? ⟨4, a, none⟩ = some (.int .u8 52) := ht0
 have hl := (hT.2 3 (by decide)).1
 have hh := (hT.2 3 (by decide)).2
 have hl' : w.cell? ⟨5, 6, none⟩ = some (.int .u8 144) := hl
 have hh' : w.cell? ⟨5, 7, none⟩ = some (.int .u8 191) := hh
 go_enter Tryz.func105, Tryz.ntmps105
 go_upto_region 8 with (first | ((with_reducible refine gate_dst (N := 5) rfl ?_); refine box_event ?hg (N := 5) ?hd (cs := #[.int .u8 0, .int .u8 0]) (t := 179) ?hr ?_; (case hd => rfl); (case hg => rfl); (case hr => first | (go_simp; done) | (go_simp; rfl)); intro gb hg w5 hbox hb; have n0_ := ak_ (below_step (by repeat (first | (with_reducible first | exact HB.out | apply wA | apply wN | apply wD) | exact HB.out)) hb); have n1_ := ak_ (hbox); have n3_ := ak_ ((by rw [hg]; exact (below_size (by repeat (first | (with_reducible first | exact HB.out | apply wA | apply wN | apply wD) | exact HB.out))) : w.heap.size ≤ gb)); clear HB; have HB := n0_; have BK := n1_; have GE := n3_; clear n0_ n1_ n3_; clear hb hbox hg; have hcz_0 : w5.cell? ⟨gb, 0, none⟩ = some (.int .u8 0) := (blk_cell BK.out 0).trans rfl; have hcz_1 : w5.cell? ⟨gb, 1, none⟩ = some (.int .u8 0) := (blk_cell BK.out 1).trans rfl; have hfz_0 := blk_frozen BK.out 0; have hfz_1 := blk_frozen BK.out 1))
 refine name_world (fun W => W.heap[gb]? = some (.cells #[.int .u8 144, .int .u8 191] 179 (0, 0)) ∧ Below w.heap.size w W) ⟨?bk, ?be⟩ (fun W ⟨BKW, HBW⟩ => ?_)
 case bk => (with_reducible repeat (first | refine bN ?_ _ | refine bD ?_ | refine bA ?_ _)); refine blk_put (cs := #[.int .u8 144, .int .u8 0]) ?_ 1 _ rfl; (with_reducible repeat (first | refine bN ?_ _ | refine bD ?_ | refine bA ?_ _)); refine blk_put (cs := #[.int .u8 0, .int .u8 0]) ?_ 0 _ rfl; (with_reducible repeat (first | refine bN ?_ _ | refine bD ?_ | refine bA ?_ _)); exact BK.out
 case be => repeat (first | (with_reducible first | exact HB.out | apply wA | apply wN | apply wD | refine below_set ?_ GE.out) | exact HB.out)
 have k0 : W.cell? ⟨gb, 0, none⟩ = some (.int .u8 144) := (blk_cell BKW 0).trans rfl
 have k1 : W.cell? ⟨gb, 1, none⟩ = some (.int .u8 191) := (blk_cell BKW 1).trans rfl
 have d0 := (HBW.cell (World.block_lt_of_cell? w _ c0)).trans c0
 clear HB BK
 go_wp2
 repeat (go_quiet (fail); try go_wp2)
 go_ret
 exact ⟨rfl, by first | exact HBW | (apply wN; exact HBW) | (apply wD; exact HBW)⟩
set_option maxRecDepth 100000 in
set_option maxHeartbeats 4000000 in
theorem s_52_2_lo (o g cap : Nat) (a b : Nat) (w : World) (hT : Tab w) (ha : a < 256) (c0 : w.cell? ⟨g, o, none⟩ = some (.int .u8 (a : Int))) (hb : b < 256) (c1 : w.cell? ⟨g, o + 1, none⟩ = some (.int .u8 (b : Int))) (hx : Lib.firstT a = 52) (p0 : (b : Int) < 144) :
  Calls Tryz.prog 105 #[.slice (some ⟨g, o, none⟩) 2 cap] w fun e w' => e = .returned (.bool true) ∧ Below w.heap.size w w' := by
 have HB := ak_ (Below.refl w.heap.size w)
 have ht0 := hT.1 a ha
 rw [hx] at ht0
 have ht0' : w.cell? ⟨4, a, none⟩ = some (.int .u8 52) := ht0
 have q0 := decide_eq_true p0
 have hl := (hT.2 3 (by decide)).1
 have hh := (hT.2 3 (by decide)).2
 have hl' : w.cell? ⟨5, 6, none⟩ = some (.int .u8 144) := hl
 have hh' : w.cell? ⟨5, 7, none⟩ = some (.int .u8 191) := hh
 go_enter Tryz.func105, Tryz.ntmps105
 go_upto_region 8 with (first | ((with_reducible refine gate_dst (N := 5) rfl ?_); refine box_event ?hg (N := 5) ?hd (cs := #[.int .u8 0, .int .u8 0]) (t := 179) ?hr ?_; (case hd => rfl); (case hg => rfl); (case hr => first | (go_simp; done) | (go_simp; rfl)); intro gb hg w5 hbox hb; have n0_ := ak_ (below_step (by repeat (first | (with_reducible first | exact HB.out | apply wA | apply wN | apply wD) | exact HB.out)) hb); have n1_ := ak_ (hbox); have n3_ := ak_ ((by rw [hg]; exact (below_size (by repeat (first | (with_reducible first | exact HB.out | apply wA | apply wN | apply wD) | exact HB.out))) : w.heap.size ≤ gb)); clear HB; have HB := n0_; have BK := n1_; have GE := n3_; clear n0_ n1_ n3_; clear hb hbox hg; have hcz_0 : w5.cell? ⟨gb, 0, none⟩ = some (.int .u8 0) := (blk_cell BK.out 0).trans rfl; have hcz_1 : w5.cell? ⟨gb, 1, none⟩ = some (.int .u8 0) := (blk_cell BK.out 1).trans rfl; have hfz_0 := blk_frozen BK.out 0; have hfz_1 := blk_frozen BK.out 1))
 refine name_world (fun W => W.heap[gb]? = some (.cells #[.int .u8 144, .int .u8 191] 179 (0, 0)) ∧ Below w.heap.size w W) ⟨?bk, ?be⟩ (fun W ⟨BKW, HBW⟩ => ?_)
 case bk => (with_reducible repeat (first | refine bN ?_ _ | refine bD ?_ | refine bA ?_ _)); refine blk_put (cs := #[.int .u8 144, .int .u8 0]) ?_ 1 _ rfl; (with_reducible repeat (first | refine bN ?_ _ | refine bD ?_ | refine bA ?_ _)); refine blk_put (cs := #[.int .u8 0, .int .u8 0]) ?_ 0 _ rfl; (with_reducible repeat (first | refine bN ?_ _ | refine bD ?_ | refine bA ?_ _)); exact BK.out
 case be => repeat (first | (with_reducible first | exact HB.out | apply wA | apply wN | apply wD | refine below_set ?_ GE.out) | exact HB.out)
 have k0 : W.cell? ⟨gb, 0, none⟩ = some (.int .u8 144) := (blk_cell BKW 0).trans rfl
 have k1 : W.cell? ⟨gb, 1, none⟩ = some (.int .u8 191) := (blk_cell BKW 1).trans rfl
 have d0 := (HBW.cell (World.block_lt_of_cell? w _ c0)).trans c0
 have d1 := (HBW.cell (World.block_lt_of_cell? w _ c1)).trans c1
 clear HB BK
 go_wp2
 repeat (go_quiet (fail); try go_wp2)
 go_ret
 exact ⟨rfl, by first | exact HBW | (apply wN; exact HBW) | (apply wD; exact HBW)⟩
set_option maxRecDepth 100000 in
set_option maxHeartbeats 4000000 in
theorem s_52_2_hi (o g cap : Nat) (a b : Nat) (w : World) (hT : Tab w) (ha : a < 256) (c0 : w.cell? ⟨g, o, none⟩ = some (.int .u8 (a : Int))) (hb : b < 256) (c1 : w.cell? ⟨g, o + 1, none⟩ = some (.int .u8 (b : Int))) (hx : Lib.firstT a = 52) (p0 : ¬ (b : Int) < 144) (p1 : 191 < (b : Int)) :
  Calls Tryz.prog 105 #[.slice (some ⟨g, o, none⟩) 2 cap] w fun e w' => e = .returned (.bool true) ∧ Below w.heap.size w w' := by
 have HB := ak_ (Below.refl w.heap.size w)
 have ht0 := hT.1 a ha
 rw [hx] at ht0
 have ht0' : w.cell? ⟨4, a, none⟩ = some (.int .u8 52) := ht0
 have q0 := decide_eq_false p0
 have q1 := decide_eq_true p1
 have hl := (hT.2 3 (by decide)).1
 have hh := (hT.2 3 (by decide)).2
 have hl' : w.cell? ⟨5, 6, none⟩ = some (.int .u8 144) := hl
 have hh' : w.cell? ⟨5, 7, none⟩ = some (.int .u8 191) := hh
 go_enter Tryz.func105, Tryz.ntmps105
 go_upto_region 8 with (first | ((with_reducible refine gate_dst (N := 5) rfl ?_); refine box_event ?hg (N := 5) ?hd (cs := #[.int .u8 0, .int .u8 0]) (t := 179) ?hr ?_; (case hd => rfl); (case hg => rfl); (case hr => first | (go_simp; done) | (go_simp; rfl)); intro gb hg w5 hbox hb; have n0_ := ak_ (below_step (by repeat (first | (with_reducible first | exact HB.out | apply wA | apply wN | apply wD) | exact HB.out)) hb); have n1_ := ak_ (hbox); have n3_ := ak_ ((by rw [hg]; exact (below_size (by repeat (first | (with_reducible first | exact HB.out | apply wA | apply wN | apply wD) | exact HB.out))) : w.heap.size ≤ gb)); clear HB; have HB := n0_; have BK := n1_; have GE := n3_; clear n0_ n1_ n3_; clear hb hbox hg; have hcz_0 : w5.cell? ⟨gb, 0, none⟩ = some (.int .u8 0) := (blk_cell BK.out 0).trans rfl; have hcz_1 : w5.cell? ⟨gb, 1, none⟩ = some (.int .u8 0) := (blk_cell BK.out 1).trans rfl; have hfz_0 := blk_frozen BK.out 0; have hfz_1 := blk_frozen BK.out 1))
 refine name_world (fun W => W.heap[gb]? = some (.cells #[.int .u8 144, .int .u8 191] 179 (0, 0)) ∧ Below w.heap.size w W) ⟨?bk, ?be⟩ (fun W ⟨BKW, HBW⟩ => ?_)
 case bk => (with_reducible repeat (first | refine bN ?_ _ | refine bD ?_ | refine bA ?_ _)); refine blk_put (cs := #[.int .u8 144, .int .u8 0]) ?_ 1 _ rfl; (with_reducible repeat (first | refine bN ?_ _ | refine bD ?_ | refine bA ?_ _)); refine blk_put (cs := #[.int .u8 0, .int .u8 0]) ?_ 0 _ rfl; (with_reducible repeat (first | refine bN ?_ _ | refine bD ?_ | refine bA ?_ _)); exact BK.out
 case be => repeat (first | (with_reducible first | exact HB.out | apply wA | apply wN | apply wD | refine below_set ?_ GE.out) | exact HB.out)
 have k0 : W.cell? ⟨gb, 0, none⟩ = some (.int .u8 144) := (blk_cell BKW 0).trans rfl
 have k1 : W.cell? ⟨gb, 1, none⟩ = some (.int .u8 191) := (blk_cell BKW 1).trans rfl
 have d0 := (HBW.cell (World.block_lt_of_cell? w _ c0)).trans c0
 have d1 := (HBW.cell (World.block_lt_of_cell? w _ c1)).trans c1
 clear HB BK
 go_wp2
 repeat (go_quiet (fail); try go_wp2)
 go_ret
 exact ⟨rfl, by first | exact HBW | (apply wN; exact HBW) | (apply wD; exact HBW)⟩
set_option maxRecDepth 100000 in
set_option maxHeartbeats 4000000 in
theorem s_52_2_ok (o g cap : Nat) (a b : Nat) (w : World) (hT : Tab w) (ha : a < 256) (c0 : w.cell? ⟨g, o, none⟩ = some (.int .u8 (a : Int))) (hb : b < 256) (c1 : w.cell? ⟨g, o + 1, none⟩ = some (.int .u8 (b : Int))) (hx : Lib.firstT a = 52) (p0 : ¬ (b : Int) < 144) (p1 : ¬ 191 < (b : Int)) :
  Calls Tryz.prog 105 #[.slice (some ⟨g, o, none⟩) 2 cap] w fun e w' => e = .returned (.bool false) ∧ Below w.heap.size w w' := by
 have HB := ak_ (Below.refl w.heap.size w)
 have ht0 := hT.1 a ha
 rw [hx] at ht0
 have ht0' : w.cell? ⟨4, a, none⟩ = some (.int .u8 52) := ht0
 have q0 := decide_eq_false p0
 have q1 := decide_eq_false p1
 have hl := (hT.2 3 (by decide)).1
 have hh := (hT.2 3 (by decide)).2
 have hl' : w.cell? ⟨5, 6, none⟩ = some (.int .u8 144) := hl
 have hh' : w.cell? ⟨5, 7, none⟩ = some (.int .u8 191) := hh
 go_enter Tryz.func105, Tryz.ntmps105
 go_upto_region 8 with (first | ((with_reducible refine gate_dst (N := 5) rfl ?_); refine box_event ?hg (N := 5) ?hd (cs := #[.int .u8 0, .int .u8 0]) (t := 179) ?hr ?_; (case hd => rfl); (case hg => rfl); (case hr => first | (go_simp; done) | (go_simp; rfl)); intro gb hg w5 hbox hb; have n0_ := ak_ (below_step (by repeat (first | (with_reducible first | exact HB.out | apply wA | apply wN | apply wD) | exact HB.out)) hb); have n1_ := ak_ (hbox); have n3_ := ak_ ((by rw [hg]; exact (below_size (by repeat (first | (with_reducible first | exact HB.out | apply wA | apply wN | apply wD) | exact HB.out))) : w.heap.size ≤ gb)); clear HB; have HB := n0_; have BK := n1_; have GE := n3_; clear n0_ n1_ n3_; clear hb hbox hg; have hcz_0 : w5.cell? ⟨gb, 0, none⟩ = some (.int .u8 0) := (blk_cell BK.out 0).trans rfl; have hcz_1 : w5.cell? ⟨gb, 1, none⟩ = some (.int .u8 0) := (blk_cell BK.out 1).trans rfl; have hfz_0 := blk_frozen BK.out 0; have hfz_1 := blk_frozen BK.out 1))
 refine name_world (fun W => W.heap[gb]? = some (.cells #[.int .u8 144, .int .u8 191] 179 (0, 0)) ∧ Below w.heap.size w W) ⟨?bk, ?be⟩ (fun W ⟨BKW, HBW⟩ => ?_)
 case bk => (with_reducible repeat (first | refine bN ?_ _ | refine bD ?_ | refine bA ?_ _)); refine blk_put (cs := #[.int .u8 144, .int .u8 0]) ?_ 1 _ rfl; (with_reducible repeat (first | refine bN ?_ _ | refine bD ?_ | refine bA ?_ _)); refine blk_put (cs := #[.int .u8 0, .int .u8 0]) ?_ 0 _ rfl; (with_reducible repeat (first | refine bN ?_ _ | refine bD ?_ | refine bA ?_ _)); exact BK.out
 case be => repeat (first | (with_reducible first | exact HB.out | apply wA | apply wN | apply wD | refine below_set ?_ GE.out) | exact HB.out)
 have k0 : W.cell? ⟨gb, 0, none⟩ = some (.int .u8 144) := (blk_cell BKW 0).trans rfl
 have k1 : W.cell? ⟨gb, 1, none⟩ = some (.int .u8 191) := (blk_cell BKW 1).trans rfl
 have d0 := (HBW.cell (World.block_lt_of_cell? w _ c0)).trans c0
 have d1 := (HBW.cell (World.block_lt_of_cell? w _ c1)).trans c1
 clear HB BK
 go_wp2
 repeat (go_quiet (fail); try go_wp2)
 go_ret
 exact ⟨rfl, by first | exact HBW | (apply wN; exact HBW) | (apply wD; exact HBW)⟩
set_option maxRecDepth 100000 in
set_option maxHeartbeats 4000000 in
theorem s_52_3_lo (o g cap : Nat) (a b c : Nat) (w : World) (hT : Tab w) (ha : a < 256) (c0 : w.cell? ⟨g, o, none⟩ = some (.int .u8 (a : Int))) (hb : b < 256) (c1 : w.cell? ⟨g, o + 1, none⟩ = some (.int .u8 (b : Int))) (hc : c < 256) (c2 : w.cell? ⟨g, o + 2, none⟩ = some (.int .u8 (c : Int))) (hx : Lib.firstT a = 52) (p0 : (b : Int) < 144) :
  Calls Tryz.prog 105 #[.slice (some ⟨g, o, none⟩) 3 cap] w fun e w' => e = .returned (.bool true) ∧ Below w.heap.size w w' := by
 have HB := ak_ (Below.refl w.heap.size w)
 have ht0 := hT.1 a ha
 rw [hx] at ht0
 have ht0' : w.cell? ⟨4, a, none⟩ = some (.int .u8 52) := ht0
 have q0 := decide_eq_true p0
 have hl := (hT.2 3 (by decide)).1
 have hh := (hT.2 3 (by decide)).2
 have hl' : w.cell? ⟨5, 6, none⟩ = some (.int .u8 144) := hl
 have hh' : w.cell? ⟨5, 7, none⟩ = some (.int .u8 191) := hh
 go_enter Tryz.func105, Tryz.ntmps105
 go_upto_region 8 with (first | ((with_reducible refine gate_dst (N := 5) rfl ?_); refine box_event ?hg (N := 5) ?hd (cs := #[.int .u8 0, .int .u8 0]) (t := 179) ?hr ?_; (case hd => rfl); (case hg => rfl); (case hr => first | (go_simp; done) | (go_simp; rfl)); intro gb hg w5 hbox hb; have n0_ := ak_ (below_step (by repeat (first | (with_reducible first | exact HB.out | apply wA | apply wN | apply wD) | exact HB.out)) hb); have n1_ := ak_ (hbox); have n3_ := ak_ ((by rw [hg]; exact (below_size (by repeat (first | (with_reducible first | exact HB.out | apply wA | apply wN | apply wD) | exact HB.out))) : w.heap.size ≤ gb)); clear HB; have HB := n0_; have BK := n1_; have GE := n3_; clear n0_ n1_ n3_; clear hb hbox hg; have hcz_0 : w5.cell? ⟨gb, 0, none⟩ = some (.int .u8 0) := (blk_cell BK.out 0).trans rfl; have hcz_1 : w5.cell? ⟨gb, 1, none⟩ = some (.int .u8 0) := (blk_cell BK.out 1).trans rfl; have hfz_0 := blk_frozen BK.out 0; have hfz_1 := blk_frozen BK.out 1))
 refine name_world (fun W => W.heap[gb]? = some (.cells #[.int .u8 144, .int .u8 191] 179 (0, 0)) ∧ Below w.heap.size w W) ⟨?bk, ?be⟩ (fun W ⟨BKW, HBW⟩ => ?_)
 case bk => (with_reducible repeat (first | refine bN ?_ _ | refine bD ?_ | refine bA ?_ _)); refine blk_put (cs := #[.int .u8 144, .int .u8 0]) ?_ 1 _ rfl; (with_reducible repeat (first | refine bN ?_ _ | refine bD ?_ | refine bA ?_ _)); refine blk_put (cs := #[.int .u8 0, .int .u8 0]) ?_ 0 _ rfl; (with_reducible repeat (first | refine bN ?_ _ | refine bD ?_ | refine bA ?_ _)); exact BK.out
 case be => repeat (first | (with_reducible first | exact HB.out | apply wA | apply wN | apply wD | refine below_set ?_ GE.out) | exact HB.out)
 have k0 : W.cell? ⟨gb, 0, none⟩ = some (.int .u8 144) := (blk_cell BKW 0).trans rfl
 have k1 : W.cell? ⟨gb, 1, none⟩ = some (.int .u8 191) := (blk_cell BKW 1).trans rfl
 have d0 := (HBW.cell (World.block_lt_of_cell? w _ c0)).trans c0
 have d1 := (HBW.cell (World.block_lt_of_cell? w _ c1)).trans c1
 have d2 := (HBW.cell (World.block_lt_of_cell? w _ c2)).trans c2
 clear HB BK
 go_wp2
 repeat (go_quiet (fail); try go_wp2)
 go_ret
 exact ⟨rfl, by first | exact HBW | (apply wN; exact HBW) | (apply wD; exact HBW)⟩
set_option maxRecDepth 100000 in
set_option maxHeartbeats 4000000 in
theorem s_52_3_hi (o g cap : Nat) (a b c : Nat) (w : World) (hT : Tab w) (ha : a < 256) (c0 : w.cell? ⟨g, o, none⟩ = some (.int .u8 (a : Int))) (hb : b < 256) (c1 : w.cell? ⟨g, o + 1, none⟩ = some (.int .u8 (b : Int))) (hc : c < 256) (c2 : w.cell? ⟨g, o + 2, none⟩ = some (.int .u8 (c : Int))) (hx : Lib.firstT a = 52) (p0 : ¬ (b : Int) < 144) (p1 : 191 < (b : Int)) :
  Calls Tryz.prog 105 #[.slice (some ⟨g, o, none⟩) 3 cap] w fun e w' => e = .returned (.bool true) ∧ Below w.heap.size w w' := by
 have HB := ak_ (Below.refl w.heap.size w)
 have ht0 := hT.1 a ha
 rw [hx] at ht0
 have ht0' : w.cell? ⟨4, a, none⟩ = some (.int .u8 52) := ht0
 have q0 := decide_eq_false p0
 have q1 := decide_eq_true p1
 have hl := (hT.2 3 (by decide)).1
 have hh := (hT.2 3 (by decide)).2
 have hl' : w.cell? ⟨5, 6, none⟩ = some (.int .u8 144) := hl
 have hh' : w.cell? ⟨5, 7, none⟩ = some (.int .u8 191) := hh
 go_enter Tryz.func105, Tryz.ntmps105
 go_upto_region 8 with (first | ((with_reducible refine gate_dst (N := 5) rfl ?_); refine box_event ?hg (N := 5) ?hd (cs := #[.int .u8 0, .int .u8 0]) (t := 179) ?hr ?_; (case hd => rfl); (case hg => rfl); (case hr => first | (go_simp; done) | (go_simp; rfl)); intro gb hg w5 hbox hb; have n0_ := ak_ (below_step (by repeat (first | (with_reducible first | exact HB.out | apply wA | apply wN | apply wD) | exact HB.out)) hb); have n1_ := ak_ (hbox); have n3_ := ak_ ((by rw [hg]; exact (below_size (by repeat (first | (with_reducible first | exact HB.out | apply wA | apply wN | apply wD) | exact HB.out))) : w.heap.size ≤ gb)); clear HB; have HB := n0_; have BK := n1_; have GE := n3_; clear n0_ n1_ n3_; clear hb hbox hg; have hcz_0 : w5.cell? ⟨gb, 0, none⟩ = some (.int .u8 0) := (blk_cell BK.out 0).trans rfl; have hcz_1 : w5.cell? ⟨gb, 1, none⟩ = some (.int .u8 0) := (blk_cell BK.out 1).trans rfl; have hfz_0 := blk_frozen BK.out 0; have hfz_1 := blk_frozen BK.out 1))
 refine name_world (fun W => W.heap[gb]? = some (.cells #[.int .u8 144, .int .u8 191] 179 (0, 0)) ∧ Below w.heap.size w W) ⟨?bk, ?be⟩ (fun W ⟨BKW, HBW⟩ => ?_)
 case bk => (with_reducible repeat (first | refine bN ?_ _ | refine bD ?_ | refine bA ?_ _)); refine blk_put (cs := #[.int .u8 144, .int .u8 0]) ?_ 1 _ rfl; (with_reducible repeat (first | refine bN ?_ _ | refine bD ?_ | refine bA ?_ _)); refine blk_put (cs := #[.int .u8 0, .int .u8 0]) ?_ 0 _ rfl; (with_reducible repeat (first | refine bN ?_ _ | refine bD ?_ | refine bA ?_ _)); exact BK.out
 case be => repeat (first | (with_reducible first | exact HB.out | apply wA | apply wN | apply wD | refine below_set ?_ GE.out) | exact HB.out)
 have k0 : W.cell? ⟨gb, 0, none⟩ = some (.int .u8 144) := (blk_cell BKW 0).trans rfl
 have k1 : W.cell? ⟨gb, 1, none⟩ = some (.int .u8 191) := (blk_cell BKW 1).trans rfl
 have d0 := (HBW.cell (World.block_lt_of_cell? w _ c0)).trans c0
 have d1 := (HBW.cell (World.block_lt_of_cell? w _ c1)).trans c1
 have d2 := (HBW.cell (World.block_lt_of_cell? w _ c2)).trans c2
 clear HB BK
 go_wp2
 repeat (go_quiet (fail); try go_wp2)
 go_ret
 exact ⟨rfl, by first | exact HBW | (apply wN; exact HBW) | (apply wD; exact HBW)⟩
set_option maxRecDepth 100000 in
set_option maxHeartbeats 4000000 in
theorem s_52_3_lo2 (o g cap : Nat) (a b c : Nat) (w : World) (hT : Tab w) (ha : a < 256) (c0 : w.cell? ⟨g, o, none⟩ = some (.int .u8 (a : Int))) (hb : b < 256) (c1 : w.cell? ⟨g, o + 1, none⟩ = some (.int .u8 (b : Int))) (hc : c < 256) (c2 : w.cell? ⟨g, o + 2, none⟩ = some (.int .u8 (c : Int))) (hx : Lib.firstT a = 52) (p0 : ¬ (b : Int) < 144) (p1 : ¬ 191 < (b : Int)) (p2 : (c : Int) < 128) :
  Calls Tryz.prog 105 #[.slice (some ⟨g, o, none⟩) 3 cap] w fun e w' => e = .returned (.bool true) ∧ Below w.heap.size w w' := by
 have HB := ak_ (Below.refl w.heap.size w)
 have ht0 := hT.1 a ha
 rw [hx] at ht0
 have ht0' : w.cell? ⟨4, a, none⟩ = some (.int .u8 52) := ht0
 have q0 := decide_eq_false p0
 have q1 := decide_eq_false p1
 have q2 := decide_eq_true p2
 have hl := (hT.2 3 (by decide)).1
 have hh := (hT.2 3 (by decide)).2
 have hl' : w.cell? ⟨5, 6, none⟩ = some (.int .u8 144) := hl
 have hh' : w.cell? ⟨5, 7, none⟩ = some (.int .u8 191) := hh
 go_enter Tryz.func105, Tryz.ntmps105
 go_upto_region 8 with (first | ((with_reducible refine gate_dst (N := 5) rfl ?_); refine box_event ?hg (N := 5) ?hd (cs := #[.int .u8 0, .int .u8 0]) (t := 179) ?hr ?_; (case hd => rfl); (case hg => rfl); (case hr => first | (go_simp; done) | (go_simp; rfl)); intro gb hg w5 hbox hb; have n0_ := ak_ (below_step (by repeat (first | (with_reducible first | exact HB.out | apply wA | apply wN | apply wD) | exact HB.out)) hb); have n1_ := ak_ (hbox); have n3_ := ak_ ((by rw [hg]; exact (below_size (by repeat (first | (with_reducible first | exact HB.out | apply wA | apply wN | apply wD) | exact HB.out))) : w.heap.size ≤ gb)); clear HB; have HB := n0_; have BK := n1_; have GE := n3_; clear n0_ n1_ n3_; clear hb hbox hg; have hcz_0 : w5.cell? ⟨gb, 0, none⟩ = some (.int .u8 0) := (blk_cell BK.out 0).trans rfl; have hcz_1 : w5.cell? ⟨gb, 1, none⟩ = some (.int .u8 0) := (blk_cell BK.out 1).trans rfl; have hfz_0 := blk_frozen BK.out 0; have hfz_1 := blk_frozen BK.out 1))
 refine name_world (fun W => W.heap[gb]? = some (.cells #[.int .u8 144, .int .u8 191] 179 (0, 0)) ∧ Below w.heap.size w W) ⟨?bk, ?be⟩ (fun W ⟨BKW, HBW⟩ => ?_)
 case bk => (with_reducible repeat (first | refine bN ?_ _ | refine bD ?_ | refine bA ?_ _)); refine blk_put (cs := #[.int .u8 144, .int .u8 0]) ?_ 1 _ rfl; (with_reducible repeat (first | refine bN ?_ _ | refine bD ?_ | refine bA ?_ _)); refine blk_put (cs := #[.int .u8 0, .int .u8 0]) ?_ 0 _ rfl; (with_reducible repeat (first | refine bN ?_ _ | refine bD ?_ | refine bA ?_ _)); exact BK.out
 case be => repeat (first | (with_reducible first | exact HB.out | apply wA | apply wN | apply wD | refine below_set ?_ GE.out) | exact HB.out)
 have k0 : W.cell? ⟨gb, 0, none⟩ = some (.int .u8 144) := (blk_cell BKW 0).trans rfl
 have k1 : W.cell? ⟨gb, 1, none⟩ = some (.int .u8 191) := (blk_cell BKW 1).trans rfl
 have d0 := (HBW.cell (World.block_lt_of_cell? w _ c0)).trans c0
 have d1 := (HBW.cell (World.block_lt_of_cell? w _ c1)).trans c1
 have d2 := (HBW.cell (World.block_lt_of_cell? w _ c2)).trans c2
 clear HB BK
 go_wp2
 repeat (go_quiet (fail); try go_wp2)
 go_ret
 exact ⟨rfl, by first | exact HBW | (apply wN; exact HBW) | (apply wD; exact HBW)⟩
set_option maxRecDepth 100000 in
set_option maxHeartbeats 4000000 in
theorem s_52_3_hi2 (o g cap : Nat) (a b c : Nat) (w : World) (hT : Tab w) (ha : a < 256) (c0 : w.cell? ⟨g, o, none⟩ = some (.int .u8 (a : Int))) (hb : b < 256) (c1 : w.cell? ⟨g, o + 1, none⟩ = some (.int .u8 (b : Int))) (hc : c < 256) (c2 : w.cell? ⟨g, o + 2, none⟩ = some (.int .u8 (c : Int))) (hx : Lib.firstT a = 52) (p0 : ¬ (b : Int) < 144) (p1 : ¬ 191 < (b : Int)) (p2 : ¬ (c : Int) < 128) (p3 : 191 < (c : Int)) :
  Calls Tryz.prog 105 #[.slice (some ⟨g, o, none⟩) 3 cap] w fun e w' => e = .returned (.bool true) ∧ Below w.heap.size w w' := by
 have HB := ak_ (Below.refl w.heap.size w)
 have ht0 := hT.1 a ha
 rw [hx] at ht0
 have ht0' : w.cell? ⟨4, a, none⟩ = some (.int .u8 52) := ht0
 have q0 := decide_eq_false p0
 have q1 := decide_eq_false p1
 have q2 := decide_eq_false p2
 have q3 := decide_eq_true p3
 have hl := (hT.2 3 (by decide)).1
 have hh := (hT.2 3 (by decide)).2
 have hl' : w.cell? ⟨5, 6, none⟩ = some (.int .u8 144) := hl
 have hh' : w.cell? ⟨5, 7, none⟩ = some (.int .u8 191) := hh
 go_enter Tryz.func105, Tryz.ntmps105
 go_upto_region 8 with (first | ((with_reducible refine gate_dst (N := 5) rfl ?_); refine box_event ?hg (N := 5) ?hd (cs := #[.int .u8 0, .int .u8 0]) (t := 179) ?hr ?_; (case hd => rfl); (case hg => rfl); (case hr => first | (go_simp; done) | (go_simp; rfl)); intro gb hg w5 hbox hb; have n0_ := ak_ (below_step (by repeat (first | (with_reducible first | exact HB.out | apply wA | apply wN | apply wD) | exact HB.out)) hb); have n1_ := ak_ (hbox); have n3_ := ak_ ((by rw [hg]; exact (below_size (by repeat (first | (with_reducible first | exact HB.out | apply wA | apply wN | apply wD) | exact HB.out))) : w.heap.size ≤ gb)); clear HB; have HB := n0_; have BK := n1_; have GE := n3_; clear n0_ n1_ n3_; clear hb hbox hg; have hcz_0 : w5.cell? ⟨gb, 0, none⟩ = some (.int .u8 0) := (blk_cell BK.out 0).trans rfl; have hcz_1 : w5.cell? ⟨gb, 1, none⟩ = some (.int .u8 0) := (blk_cell BK.out 1).trans rfl; have hfz_0 := blk_frozen BK.out 0; have hfz_1 := blk_frozen BK.out 1))
 refine name_world (fun W => W.heap[gb]? = some (.cells #[.int .u8 144, .int .u8 191] 179 (0, 0)) ∧ Below w.heap.size w W) ⟨?bk, ?be⟩ (fun W ⟨BKW, HBW⟩ => ?_)
 case bk => (with_reducible repeat (first | refine bN ?_ _ | refine bD ?_ | refine bA ?_ _)); refine blk_put (cs := #[.int .u8 144, .int .u8 0]) ?_ 1 _ rfl; (with_reducible repeat (first | refine bN ?_ _ | refine bD ?_ | refine bA ?_ _)); refine blk_put (cs := #[.int .u8 0, .int .u8 0]) ?_ 0 _ rfl; (with_reducible repeat (first | refine bN ?_ _ | refine bD ?_ | refine bA ?_ _)); exact BK.out
 case be => repeat (first | (with_reducible first | exact HB.out | apply wA | apply wN | apply wD | refine below_set ?_ GE.out) | exact HB.out)
 have k0 : W.cell? ⟨gb, 0, none⟩ = some (.int .u8 144) := (blk_cell BKW 0).trans rfl
 have k1 : W.cell? ⟨gb, 1, none⟩ = some (.int .u8 191) := (blk_cell BKW 1).trans rfl
 have d0 := (HBW.cell (World.block_lt_of_cell? w _ c0)).trans c0
 have d1 := (HBW.cell (World.block_lt_of_cell? w _ c1)).trans c1
 have d2 := (HBW.cell (World.block_lt_of_cell? w _ c2)).trans c2
 clear HB BK
 go_wp2
 repeat (go_quiet (fail); try go_wp2)
 go_ret
 exact ⟨rfl, by first | exact HBW | (apply wN; exact HBW) | (apply wD; exact HBW)⟩
set_option maxRecDepth 100000 in
set_option maxHeartbeats 4000000 in
theorem s_52_3_ok (o g cap : Nat) (a b c : Nat) (w : World) (hT : Tab w) (ha : a < 256) (c0 : w.cell? ⟨g, o, none⟩ = some (.int .u8 (a : Int))) (hb : b < 256) (c1 : w.cell? ⟨g, o + 1, none⟩ = some (.int .u8 (b : Int))) (hc : c < 256) (c2 : w.cell? ⟨g, o + 2, none⟩ = some (.int .u8 (c : Int))) (hx : Lib.firstT a = 52) (p0 : ¬ (b : Int) < 144) (p1 : ¬ 191 < (b : Int)) (p2 : ¬ (c : Int) < 128) (p3 : ¬ 191 < (c : Int)) :
  Calls Tryz.prog 105 #[.slice (some ⟨g, o, none⟩) 3 cap] w fun e w' => e = .returned (.bool false) ∧ Below w.heap.size w w' := by
 have HB := ak_ (Below.refl w.heap.size w)
 have ht0 := hT.1 a ha
 rw [hx] at ht0
 have ht0' : w.cell? ⟨4, a, none⟩ = some (.int .u8 52) := ht0
 have q0 := decide_eq_false p0
 have q1 := decide_eq_false p1
 have q2 := decide_eq_false p2
 have q3 := decide_eq_false p3
 have hl := (hT.2 3 (by decide)).1
 have hh := (hT.2 3 (by decide)).2
 have hl' : w.cell? ⟨5, 6, none⟩ = some (.int .u8 144) := hl
 have hh' : w.cell? ⟨5, 7, none⟩ = some (.int .u8 191) := hh
 go_enter Tryz.func105, Tryz.ntmps105
 go_upto_region 8 with (first | ((with_reducible refine gate_dst (N := 5) rfl ?_); refine box_event ?hg (N := 5) ?hd (cs := #[.int .u8 0, .int .u8 0]) (t := 179) ?hr ?_; (case hd => rfl); (case hg => rfl); (case hr => first | (go_simp; done) | (go_simp; rfl)); intro gb hg w5 hbox hb; have n0_ := ak_ (below_step (by repeat (first | (with_reducible first | exact HB.out | apply wA | apply wN | apply wD) | exact HB.out)) hb); have n1_ := ak_ (hbox); have n3_ := ak_ ((by rw [hg]; exact (below_size (by repeat (first | (with_reducible first | exact HB.out | apply wA | apply wN | apply wD) | exact HB.out))) : w.heap.size ≤ gb)); clear HB; have HB := n0_; have BK := n1_; have GE := n3_; clear n0_ n1_ n3_; clear hb hbox hg; have hcz_0 : w5.cell? ⟨gb, 0, none⟩ = some (.int .u8 0) := (blk_cell BK.out 0).trans rfl; have hcz_1 : w5.cell? ⟨gb, 1, none⟩ = some (.int .u8 0) := (blk_cell BK.out 1).trans rfl; have hfz_0 := blk_frozen BK.out 0; have hfz_1 := blk_frozen BK.out 1))
 refine name_world (fun W => W.heap[gb]? = some (.cells #[.int .u8 144, .int .u8 191] 179 (0, 0)) ∧ Below w.heap.size w W) ⟨?bk, ?be⟩ (fun W ⟨BKW, HBW⟩ => ?_)
 case bk => (with_reducible repeat (first | refine bN ?_ _ | refine bD ?_ | refine bA ?_ _)); refine blk_put (cs := #[.int .u8 144, .int .u8 0]) ?_ 1 _ rfl; (with_reducible repeat (first | refine bN ?_ _ | refine bD ?_ | refine bA ?_ _)); refine blk_put (cs := #[.int .u8 0, .int .u8 0]) ?_ 0 _ rfl; (with_reducible repeat (first | refine bN ?_ _ | refine bD ?_ | refine bA ?_ _)); exact BK.out
 case be => repeat (first | (with_reducible first | exact HB.out | apply wA | apply wN | apply wD | refine below_set ?_ GE.out) | exact HB.out)
 have k0 : W.cell? ⟨gb, 0, none⟩ = some (.int .u8 144) := (blk_cell BKW 0).trans rfl
 have k1 : W.cell? ⟨gb, 1, none⟩ = some (.int .u8 191) := (blk_cell BKW 1).trans rfl
 have d0 := (HBW.cell (World.block_lt_of_cell? w _ c0)).trans c0
 have d1 := (HBW.cell (World.block_lt_of_cell? w _ c1)).trans c1
 have d2 := (HBW.cell (World.block_lt_of_cell? w _ c2)).trans c2
 clear HB BK
 go_wp2
 repeat (go_quiet (fail); try go_wp2)
 go_ret
 exact ⟨rfl, by first | exact HBW | (apply wN; exact HBW) | (apply wD; exact HBW)⟩
set_option maxRecDepth 100000 in
set_option maxHeartbeats 4000000 in
theorem full_4 (o g cap : Nat) (a : Nat) (w : World) (hT : Tab w) (n : Nat) (hn : 4 ≤ n) (h1 : 1 ≤ n) (ha : a < 256) (c0 : w.cell? ⟨g, o, none⟩ = some (.int .u8 (a : Int))) (hx : Lib.firstT a = 4) :
  Calls Tryz.prog 105 #[.slice (some ⟨g, o, none⟩) n cap] w fun e w' => e = .returned (.bool true) ∧ Below w.heap.size w w' := by
 have HB := ak_ (Below.refl w.heap.size w)
 have ht0 := hT.1 a ha
 rw [hx] at ht0
 have ht0' : w.cell? ⟨4, a, none⟩ = some (.int .u8 4) := ht0
 have l0 : ((n : Int) == 0) = false := beq_eq_false_iff_ne.mpr (by omega)
 have l1 : decide ((4 : Int) ≤ (n : Int)) = true := decide_eq_true (by omega)
 go_enter Tryz.func105, Tryz.ntmps105
 go_wp2
 go_ret
 exact ⟨rfl, HB.out⟩
set_option maxRecDepth 100000 in
set_option maxHeartbeats 4000000 in
theorem short_4_1 (o g cap : Nat) (a : Nat) (w : World) (hT : Tab w) (ha : a < 256) (c0 : w.cell? ⟨g, o, none⟩ = some (.int .u8 (a : Int))) (hx : Lib.firstT a = 4) :
  Calls Tryz.prog 105 #[.slice (some ⟨g, o, none⟩) 1 cap] w fun e w' => e = .returned (.bool false) ∧ Below w.heap.size w w' := by
 have HB := ak_ (Below.refl w.heap.size w)
 have ht0 := hT.1 a ha
 rw [hx] at ht0
 have ht0' : w.cell? ⟨4, a, none⟩ = some (.int .u8 4) := ht0
 have hl := (hT.2 0 (by decide)).1
 have hh := (hT.2 0 (by decide)).2
 have hl' : w.cell? ⟨5, 0, none⟩ = some (.int .u8 128) := hl
 have hh' : w.cell? ⟨5, 1, none⟩ = some (.int .u8 191) := hh
 go_enter Tryz.func105, Tryz.ntmps105
 go_upto_region 8 with (first | ((with_reducible refine gate_dst (N := 5) rfl ?_); refine box_event ?hg (N := 5) ?hd (cs := #[.int .u8 0, .int .u8 0]) (t := 179) ?hr ?_; (case hd => rfl); (case hg => rfl); (case hr => first | (go_simp; done) | (go_simp; rfl)); intro gb hg w5 hbox hb; have n0_ := ak_ (below_step (by repeat (first | (with_reducible first | exact HB.out | apply wA | apply wN | apply wD) | exact HB.out)) hb); have n1_ := ak_ (hbox); have n3_ := ak_ ((by rw [hg]; exact (below_size (by repeat (first | (with_reducible first | exact HB.out | apply wA | apply wN | apply wD) | exact HB.out))) : w.heap.size ≤ gb)); clear HB; have HB := n0_; have BK := n1_; have GE := n3_; clear n0_ n1_ n3_; clear hb hbox hg; have hcz_0 : w5.cell? ⟨gb, 0, none⟩ = some (.int .u8 0) := (blk_cell BK.out 0).trans rfl; have hcz_1 : w5.cell? ⟨gb, 1, none⟩ = some (.int .u8 0) := (blk_cell BK.out 1).trans rfl; have hfz_0 := blk_frozen BK.out 0; have hfz_1 := blk_frozen BK.out 1))
 refine name_world (fun W => W.heap[gb]? = some (.cells #[.int .u8 128, .int .u8 191] 179 (0, 0)) ∧ Below w.heap.size w W) ⟨?bk, ?be⟩ (fun W ⟨BKW, HBW⟩ => ?_)
 case bk => (with_reducible repeat (first | refine bN ?_ _ | refine bD ?_ | refine bA ?_ _)); refine blk_put (cs := #[.int .u8 128, .int .u8 0]) ?_ 1 _ rfl; (with_reducible repeat (first | refine bN ?_ _ | refine bD ?_ | refine bA ?_ _)); refine blk_put (cs := #[.int .u8 0, .int .u8 0]) ?_ 0 _ rfl; (with_reducible repeat (first | refine bN ?_ _ | refine bD ?_ | refine bA ?_ _)); exact BK.out
 case be => repeat (first | (with_reducible first | exact HB.out | apply wA | apply wN | apply wD | refine below_set ?_ GE.out) | exact HB.out)
 have k0 : W.cell? ⟨gb, 0, none⟩ = some (.int .u8 128) := (blk_cell BKW 0).trans rfl
 have k1 : W.cell? ⟨gb, 1, none⟩ = some (.int .u8 191) := (blk_cell BKW 1).trans rfl
 have d0 := (HBW.cell (World.block_lt_of_cell? w _ c0)).trans c0
 clear HB BK
 go_wp2
 repeat (go_quiet (fail); try go_wp2)
 go_ret
 exact ⟨rfl, by first | exact HBW | (apply wN; exact HBW) | (apply wD; exact HBW)⟩
set_option maxRecDepth 100000 in
set_option maxHeartbeats 4000000 in
theorem s_4_2_lo (o g cap : Nat) (a b : Nat) (w : World) (hT : Tab w) (ha : a < 256) (c0 : w.cell? ⟨g, o, none⟩ = some (.int .u8 (a : Int))) (hb : b < 256) (c1 : w.cell? ⟨g, o + 1, none⟩ = some (.int .u8 (b : Int))) (hx : Lib.firstT a = 4) (p0 : (b : Int) < 128) :
  Calls Tryz.prog 105 #[.slice (some ⟨g, o, none⟩) 2 cap] w fun e w' => e = .returned (.bool true) ∧ Below w.heap.size w w' := by
 have HB := ak_ (Below.refl w.heap.size w)
 have ht0 := hT.1 a ha
 rw [hx] at ht0
 have ht0' : w.cell? ⟨4, a, none⟩ = some (.int .u8 4) := ht0
 have q0 := decide_eq_true p0
 have hl := (hT.2 0 (by decide)).1
 have hh := (hT.2 0 (by decide)).2
 have hl' : w.cell? ⟨5, 0, none⟩ = some (.int .u8 128) := hl
 have hh' : w.cell? ⟨5, 1, none⟩ = some (.int .u8 191) := hh
 go_enter Tryz.func105, Tryz.ntmps105
 go_upto_region 8 with (first | ((with_reducible refine gate_dst (N := 5) rfl ?_); refine box_event ?hg (N := 5) ?hd (cs := #[.int .u8 0, .int .u8 0]) (t := 179) ?hr ?_; (case hd => rfl); (case hg => rfl); (case hr => first | (go_simp; done) | (go_simp; rfl)); intro gb hg w5 hbox hb; have n0_ := ak_ (below_step (by repeat (first | (with_reducible first | exact HB.out | apply wA | apply wN | apply wD) | exact HB.out)) hb); have n1_ := ak_ (hbox); have n3_ := ak_ ((by rw [hg]; exact (below_size (by repeat (first | (with_reducible first | exact HB.out | apply wA | apply wN | apply wD) | exact HB.out))) : w.heap.size ≤ gb)); clear HB; have HB := n0_; have BK := n1_; have GE := n3_; clear n0_ n1_ n3_; clear hb hbox hg; have hcz_0 : w5.cell? ⟨gb, 0, none⟩ = some (.int .u8 0) := (blk_cell BK.out 0).trans rfl; have hcz_1 : w5.cell? ⟨gb, 1, none⟩ = some (.int .u8 0) := (blk_cell BK.out 1).trans rfl; have hfz_0 := blk_frozen BK.out 0; have hfz_1 := blk_frozen BK.out 1))
 refine name_world (fun W => W.heap[gb]? = some (.cells #[.int .u8 128, .int .u8 191] 179 (0, 0)) ∧ Below w.heap.size w W) ⟨?bk, ?be⟩ (fun W ⟨BKW, HBW⟩ => ?_)
 case bk => (with_reducible repeat (first | refine bN ?_ _ | refine bD ?_ | refine bA ?_ _)); refine blk_put (cs := #[.int .u8 128, .int .u8 0]) ?_ 1 _ rfl; (with_reducible repeat (first | refine bN ?_ _ | refine bD ?_ | refine bA ?_ _)); refine blk_put (cs := #[.int .u8 0, .int .u8 0]) ?_ 0 _ rfl; (with_reducible repeat (first | refine bN ?_ _ | refine bD ?_ | refine bA ?_ _)); exact BK.out
 case be => repeat (first | (with_reducible first | exact HB.out | apply wA | apply wN | apply wD | refine below_set ?_ GE.out) | exact HB.out)
 have k0 : W.cell? ⟨gb, 0, none⟩ = some (.int .u8 128) := (blk_cell BKW 0).trans rfl
 have k1 : W.cell? ⟨gb, 1, none⟩ = some (.int .u8 191) := (blk_cell BKW 1).trans rfl
 have d0 := (HBW.cell (World.block_lt_of_cell? w _ c0)).trans c0
 have d1 := (HBW.cell (World.block_lt_of_cell? w _ c1)).trans c1
 clear HB BK
 go_wp2
 repeat (go_quiet (fail); try go_wp2)
 go_ret
 exact ⟨rfl, by first | exact HBW | (apply wN; exact HBW) | (apply wD; exact HBW)⟩
set_option maxRecDepth 100000 in
set_option maxHeartbeats 4000000 in
theorem s_4_2_hi (o g cap : Nat) (a b : Nat) (w : World) (hT : Tab w) (ha : a < 256) (c0 : w.cell? ⟨g, o, none⟩ = some (.int .u8 (a : Int))) (hb : b < 256) (c1 : w.cell? ⟨g, o + 1, none⟩ = some (.int .u8 (b : Int))) (hx : Lib.firstT a = 4) (p0 : ¬ (b : Int) < 128) (p1 : 191 < (b : Int)) :
  Calls Tryz.prog 105 #[.slice (some ⟨g, o, none⟩) 2 cap] w fun e w' => e = .returned (.bool true) ∧ Below w.heap.size w w' := by
 have HB := ak_ (Below.refl w.heap.size w)
 have ht0 := hT.1 a ha
 rw [hx] at ht0
 have ht0' : w.cell? ⟨4, a, none⟩ = some (.int .u8 4) := ht0
 have q0 := decide_eq_false p0
 have q1 := decide_eq_true p1
 have hl := (hT.2 0 (by decide)).1
 have hh := (hT.2 0 (by decide)).2
 have hl' : w.cell? ⟨5, 0, none⟩ = some (.int .u8 128) := hl
 have hh' : w.cell? ⟨5, 1, none⟩ = some (.int .u8 191) := hh
 go_enter Tryz.func105, Tryz.ntmps105
 go_upto_region 8 with (first | ((with_reducible refine gate_dst (N := 5) rfl ?_); refine box_event ?hg (N := 5) ?hd (cs := #[.int .u8 0, .int .u8 0]) (t := 179) ?hr ?_; (case hd => rfl); (case hg => rfl); (case hr => first | (go_simp; done) | (go_simp; rfl)); intro gb hg w5 hbox hb; have n0_ := ak_ (below_step (by repeat (first | (with_reducible first | exact HB.out | apply wA | apply wN | apply wD) | exact HB.out)) hb); have n1_ := ak_ (hbox); have n3_ := ak_ ((by rw [hg]; exact (below_size (by repeat (first | (with_reducible first | exact HB.out | apply wA | apply wN | apply wD) | exact HB.out))) : w.heap.size ≤ gb)); clear HB; have HB := n0_; have BK := n1_; have GE := n3_; clear n0_ n1_ n3_; clear hb hbox hg; have hcz_0 : w5.cell? ⟨gb, 0, none⟩ = some (.int .u8 0) := (blk_cell BK.out 0).trans rfl; have hcz_1 : w5.cell? ⟨gb, 1, none⟩ = some (.int .u8 0) := (blk_cell BK.out 1).trans rfl; have hfz_0 := blk_frozen BK.out 0; have hfz_1 := blk_frozen BK.out 1))
 refine name_world (fun W => W.heap[gb]? = some (.cells #[.int .u8 128, .int .u8 191] 179 (0, 0)) ∧ Below w.heap.size w W) ⟨?bk, ?be⟩ (fun W ⟨BKW, HBW⟩ => ?_)
 case bk => (with_reducible repeat (first | refine bN ?_ _ | refine bD ?_ | refine bA ?_ _)); refine blk_put (cs := #[.int .u8 128, .int .u8 0]) ?_ 1 _ rfl; (with_reducible repeat (first | refine bN ?_ _ | refine bD ?_ | refine bA ?_ _)); refine blk_put (cs := #[.int .u8 0, .int .u8 0]) ?_ 0 _ rfl; (with_reducible repeat (first | refine bN ?_ _ | refine bD ?_ | refine bA ?_ _)); exact BK.out
 case be => repeat (first | (with_reducible first | exact HB.out | apply wA | apply wN | apply wD | refine below_set ?_ GE.out) | exact HB.out)
 have k0 : W.cell? ⟨gb, 0, none⟩ = some (.int .u8 128) := (blk_cell BKW 0).trans rfl
 have k1 : W.cell? ⟨gb, 1, none⟩ = some (.int .u8 191) := (blk_cell BKW 1).trans rfl
 have d0 := (HBW.cell (World.block_lt_of_cell? w _ c0)).trans c0
 have d1 := (HBW.cell (World.block_lt_of_cell? w _ c1)).trans c1
 clear HB BK
 go_wp2
 repeat (go_quiet (fail); try go_wp2)
 go_ret
 exact ⟨rfl, by first | exact HBW | (apply wN; exact HBW) | (apply wD; exact HBW)⟩
set_option maxRecDepth 100000 in
set_option maxHeartbeats 4000000 in
theorem s_4_2_ok (o g cap : Nat) (a b : Nat) (w : World) (hT : Tab w) (ha : a < 256) (c0 : w.cell? ⟨g, o, none⟩ = some (.int .u8 (a : Int))) (hb : b < 256) (c1 : w.cell? ⟨g, o + 1, none⟩ = some (.int .u8 (b : Int))) (hx : Lib.firstT a = 4) (p0 : ¬ (b : Int) < 128) (p1 : ¬ 191 < (b : Int)) :
  Calls Tryz.prog 105 #[.slice (some ⟨g, o, none⟩) 2 cap] w fun e w' => e = .returned (.bool false) ∧ Below w.heap.size w w' := by
 have HB := ak_ (Below.refl w.heap.size w)
 have ht0 := hT.1 a ha
 rw [hx] at ht0
 have ht0' : w.cell? ⟨4, a, none⟩ = some (.int .u8 4) := ht0
 have q0 := decide_eq_false p0
 have q1 := decide_eq_false p1
 have hl := (hT.2 0 (by decide)).1
 have hh := (hT.2 0 (by decide)).2
 have hl' : w.cell? ⟨5, 0, none⟩ = some (.int .u8 128) := hl
 have hh' : w.cell? ⟨5, 1, none⟩ = some (.int .u8 191) := hh
 go_enter Tryz.func105, Tryz.ntmps105
 go_upto_region 8 with (first | ((with_reducible refine gate_dst (N := 5) rfl ?_); refine box_event ?hg (N := 5) ?hd (cs := #[.int .u8 0, .int .u8 0]) (t := 179) ?hr ?_; (case hd => rfl); (case hg => rfl); (case hr => first | (go_simp; done) | (go_simp; rfl)); intro gb hg w5 hbox hb; have n0_ := ak_ (below_step (by repeat (first | (with_reducible first | exact HB.out | apply wA | apply wN | apply wD) | exact HB.out)) hb); have n1_ := ak_ (hbox); have n3_ := ak_ ((by rw [hg]; exact (below_size (by repeat (first | (with_reducible first | exact HB.out | apply wA | apply wN | apply wD) | exact HB.out))) : w.heap.size ≤ gb)); clear HB; have HB := n0_; have BK := n1_; have GE := n3_; clear n0_ n1_ n3_; clear hb hbox hg; have hcz_0 : w5.cell? ⟨gb, 0, none⟩ = some (.int .u8 0) := (blk_cell BK.out 0).trans rfl; have hcz_1 : w5.cell? ⟨gb, 1, none⟩ = some (.int .u8 0) := (blk_cell BK.out 1).trans rfl; have hfz_0 := blk_frozen BK.out 0; have hfz_1 := blk_frozen BK.out 1))
 refine name_world (fun W => W.heap[gb]? = some (.cells #[.int .u8 128, .int .u8 191] 179 (0, 0)) ∧ Below w.heap.size w W) ⟨?bk, ?be⟩ (fun W ⟨BKW, HBW⟩ => ?_)
 case bk => (with_reducible repeat (first | refine bN ?_ _ | refine bD ?_ | refine bA ?_ _)); refine blk_put (cs := #[.int .u8 128, .int .u8 0]) ?_ 1 _ rfl; (with_reducible repeat (first | refine bN ?_ _ | refine bD ?_ | refine bA ?_ _)); refine blk_put (cs := #[.int .u8 0, .int .u8 0]) ?_ 0 _ rfl; (with_reducible repeat (first | refine bN ?_ _ | refine bD ?_ | refine bA ?_ _)); exact BK.out
 case be => repeat (first | (with_reducible first | exact HB.out | apply wA | apply wN | apply wD | refine below_set ?_ GE.out) | exact HB.out)
 have k0 : W.cell? ⟨gb, 0, none⟩ = some (.int .u8 128) := (blk_cell BKW 0).trans rfl
 have k1 : W.cell? ⟨gb, 1, none⟩ = some (.int .u8 191) := (blk_cell BKW 1).trans rfl
 have d0 := (HBW.cell (World.block_lt_of_cell? w _ c0)).trans c0
 have d1 := (HBW.cell (World.block_lt_of_cell? w _ c1)).trans c1
 clear HB BK
 go_wp2
 repeat (go_quiet (fail); try go_wp2)
 go_ret
 exact ⟨rfl, by first | exact HBW | (apply wN; exact HBW) | (apply wD; exact HBW)⟩
set_option maxRecDepth 100000 in
set_option maxHeartbeats 4000000 in
theorem s_4_3_lo (o g cap : Nat) (a b c : Nat) (w : World) (hT : Tab w) (ha : a < 256) (c0 : w.cell? ⟨g, o, none⟩ = some (.int .u8 (a : Int))) (hb : b < 256) (c1 : w.cell? ⟨g, o + 1, none⟩ = some (.int .u8 (b : Int))) (hc : c < 256) (c2 : w.cell? ⟨g, o + 2, none⟩ = some (.int .u8 (c : Int))) (hx : Lib.firstT a = 4) (p0 : (b : Int) < 128) :
  Calls Tryz.prog 105 #[.slice (some ⟨g, o, none⟩) 3 cap] w fun e w' => e = .returned (.bool true) ∧ Below w.heap.size w w' := by
 have HB := ak_ (Below.refl w.heap.size w)
 have ht0 := hT.1 a ha
 rw [hx] at ht0
 have ht0' : w.cell? ⟨4, a, none⟩ = some (.int .u8 4) := ht0
 have q0 := decide_eq_true p0
 have hl := (hT.2 0 (by decide)).1
 have hh := (hT.2 0 (by decide)).2
 have hl' : w.cell? ⟨5, 0, none⟩ = some (.int .u8 128) := hl
 have hh' : w.cell? ⟨5, 1, none⟩ = some (.int .u8 191) := hh
 go_enter Tryz.func105, Tryz.ntmps105
 go_upto_region 8 with (first | ((with_reducible refine gate_dst (N := 5) rfl ?_); refine box_event ?hg (N := 5) ?hd (cs := #[.int .u8 0, .int .u8 0]) (t := 179) ?hr ?_; (case hd => rfl); (case hg => rfl); (case hr => first | (go_simp; done) | (go_simp; rfl)); intro gb hg w5 hbox hb; have n0_ := ak_ (below_step (by repeat (first | (with_reducible first | exact HB.out | apply wA | apply wN | apply wD) | exact HB.out)) hb); have n1_ := ak_ (hbox); have n3_ := ak_ ((by rw [hg]; exact (below_size (by repeat (first | (with_reducible first | exact HB.out | apply wA | apply wN | apply wD) | exact HB.out))) : w.heap.size ≤ gb)); clear HB; have HB := n0_; have BK := n1_; have GE := n3_; clear n0_ n1_ n3_; clear hb hbox hg; have hcz_0 : w5.cell? ⟨gb, 0, none⟩ = some (.int .u8 0) := (blk_cell BK.out 0).trans rfl; have hcz_1 : w5.cell? ⟨gb, 1, none⟩ = some (.int .u8 0) := (blk_cell BK.out 1).trans rfl; have hfz_0 := blk_frozen BK.out 0; have hfz_1 := blk_frozen BK.out 1))
 refine name_world (fun W => W.heap[gb]? = some (.cells #[.int .u8 128, .int .u8 191] 179 (0, 0)) ∧ Below w.heap.size w W) ⟨?bk, ?be⟩ (fun W ⟨BKW, HBW⟩ => ?_)
 case bk => (with_reducible repeat (first | refine bN ?_ _ | refine bD ?_ | refine bA ?_ _)); refine blk_put (cs := #[.int .u8 128, .int .u8 0]) ?_ 1 _ rfl; (with_reducible repeat (first | refine bN ?_ _ | refine bD ?_ | refine bA ?_ _)); refine blk_put (cs := #[.int .u8 0, .int .u8 0]) ?_ 0 _ rfl; (with_reducible repeat (first | refine bN ?_ _ | refine bD ?_ | refine bA ?_ _)); exact BK.out
 case be => repeat (first | (with_reducible first | exact HB.out | apply wA | apply wN | apply wD | refine below_set ?_ GE.out) | exact HB.out)
 have k0 : W.cell? ⟨gb, 0, none⟩ = some (.int .u8 128) := (blk_cell BKW 0).trans rfl
 have k1 : W.cell? ⟨gb, 1, none⟩ = some (.int .u8 191) := (blk_cell BKW 1).trans rfl
 have d0 := (HBW.cell (World.block_lt_of_cell? w _ c0)).trans c0
 have d1 := (HBW.cell (World.block_lt_of_cell? w _ c1)).trans c1
 have d2 := (HBW.cell (World.block_lt_of_cell? w _ c2)).trans c2
 clear HB BK
 go_wp2
 repeat (go_quiet (fail); try go_wp2)
 go_ret
 exact ⟨rfl, by first | exact HBW | (apply wN; exact HBW) | (apply wD; exact HBW)⟩
set_option maxRecDepth 100000 in
set_option maxHeartbeats 4000000 in
theorem s_4_3_hi (o g cap : Nat) (a b c : Nat) (w : World) (hT : Tab w) (ha : a < 256) (c0 : w.cell? ⟨g, o, none⟩ = some (.int .u8 (a : Int))) (hb : b < 256) (c1 : w.cell? ⟨g, o + 1, none⟩ = some (.int .u8 (b : Int))) (hc : c < 256) (c2 : w.cell? ⟨g, o + 2, none⟩ = some (.int .u8 (c : Int))) (hx : Lib.firstT a = 4) (p0 : ¬ (b : Int) < 128) (p1 : 191 < (b : Int)) :
  Calls Tryz.prog 105 #[.slice (some ⟨g, o, none⟩) 3 cap] w fun e w' => e = .returned (.bool true) ∧ Below w.heap.size w w' := by
 have HB := ak_ (Below.refl w.heap.size w)
 have ht0 := hT.1 a ha
 rw [hx] at ht0
 have ht0' : w.cell? ⟨4, a, none⟩ = some (.int .u8 4) := ht0
 have q0 := decide_eq_false p0
 have q1 := decide_eq_true p1
 have hl := (hT.2 0 (by decide)).1
 have hh := (hT.2 0 (by decide)).2
 have hl' : w.cell? ⟨5, 0, none⟩ = some (.int .u8 128) := hl
 have hh' : w.cell? ⟨5, 1, none⟩ = some (.int .u8 191) := hh
 go_enter Tryz.func105, Tryz.ntmps105
 go_upto_region 8 with (first | ((with_reducible refine gate_dst (N := 5) rfl ?_); refine box_event ?hg (N := 5) ?hd (cs := #[.int .u8 0, .int .u8 0]) (t := 179) ?hr ?_; (case hd => rfl); (case hg => rfl); (case hr => first | (go_simp; done) | (go_simp; rfl)); intro gb hg w5 hbox hb; have n0_ := ak_ (below_step (by repeat (first | (with_reducible first | exact HB.out | apply wA | apply wN | apply wD) | exact HB.out)) hb); have n1_ := ak_ (hbox); have n3_ := ak_ ((by rw [hg]; exact (below_size (by repeat (first | (with_reducible first | exact HB.out | apply wA | apply wN | apply wD) | exact HB.out))) : w.heap.size ≤ gb)); clear HB; have HB := n0_; have BK := n1_; have GE := n3_; clear n0_ n1_ n3_; clear hb hbox hg; have hcz_0 : w5.cell? ⟨gb, 0, none⟩ = some (.int .u8 0) := (blk_cell BK.out 0).trans rfl; have hcz_1 : w5.cell? ⟨gb, 1, none⟩ = some (.int .u8 0) := (blk_cell BK.out 1).trans rfl; have hfz_0 := blk_frozen BK.out 0; have hfz_1 := blk_frozen BK.out 1))
 refine name_world (fun W => W.heap[gb]? = some (.cells #[.int .u8 128, .int .u8 191] 179 (0, 0)) ∧ Below w.heap.size w W) ⟨?bk, ?be⟩ (fun W ⟨BKW, HBW⟩ => ?_)
 case bk => (with_reducible repeat (first | refine bN ?_ _ | refine bD ?_ | refine bA ?_ _)); refine blk_put (cs := #[.int .u8 128, .int .u8 0]) ?_ 1 _ rfl; (with_reducible repeat (first | refine bN ?_ _ | refine bD ?_ | refine bA ?_ _)); refine blk_put (cs := #[.int .u8 0, .int .u8 0]) ?_ 0 _ rfl; (with_reducible repeat (first | refine bN ?_ _ | refine bD ?_ | refine bA ?_ _)); exact BK.out
 case be => repeat (first | (with_reducible first | exact HB.out | apply wA | apply wN | apply wD | refine below_set ?_ GE.out) | exact HB.out)
 have k0 : W.cell? ⟨gb, 0, none⟩ = some (.int .u8 128) := (blk_cell BKW 0).trans rfl
 have k1 : W.cell? ⟨gb, 1, none⟩ = some (.int .u8 191) := (blk_cell BKW 1).trans rfl
 have d0 := (HBW.cell (World.block_lt_of_cell? w _ c0)).trans c0
 have d1 := (HBW.cell (World.block_lt_of_cell? w _ c1)).trans c1
 have d2 := (HBW.cell (World.block_lt_of_cell? w _ c2)).trans c2
 clear HB BK
 go_wp2
 repeat (go_quiet (fail); try go_wp2)
 go_ret
 exact ⟨rfl, by first | exact HBW | (apply wN; exact HBW) | (apply wD; exact HBW)⟩
set_option maxRecDepth 100000 in
set_option maxHeartbeats 4000000 in
theorem s_4_3_lo2 (o g cap : Nat) (a b c : Nat) (w : World) (hT : Tab w) (ha : a < 256) (c0 : w.cell? ⟨g, o, none⟩ = some (.int .u8 (a : Int))) (hb : b < 256) (c1 : w.cell? ⟨g, o + 1, none⟩ = some (.int .u8 (b : Int))) (hc : c < 256) (c2 : w.cell? ⟨g, o + 2, none⟩ = some (.int .u8 (c : Int))) (hx : Lib.firstT a = 4) (p0 : ¬ (b : Int) < 128) (p1 : ¬ 191 < (b : Int)) (p2 : (c : Int) < 128) :
  Calls Tryz.prog 105 #[.slice (some ⟨g, o, none⟩) 3 cap] w fun e w' => e = .returned (.bool true) ∧ Below w.heap.size w w' := by
 have HB := ak_ (Below.refl w.heap.size w)
 have ht0 := hT.1 a ha
 rw [hx] at ht0
 have ht0' : w.cell? ⟨4, a, none⟩ = some (.int .u8 4) := ht0
 have q0 := decide_eq_false p0
 have q1 := decide_eq_false p1
 have q2 := decide_eq_true p2
 have hl := (hT.2 0 (by decide)).1
 have hh := (hT.2 0 (by decide)).2
 have hl' : w.cell? ⟨5, 0, none⟩ = some (.int .u8 128) := hl
 have hh' : w.cell? ⟨5, 1, none⟩ = some (.int .u8 191) := hh
 go_enter Tryz.func105, Tryz.ntmps105
 go_upto_region 8 with (first | ((with_reducible refine gate_dst (N := 5) rfl ?_); refine box_event ?hg (N := 5) ?hd (cs := #[.int .u8 0, .int .u8 0]) (t := 179) ?hr ?_; (case hd => rfl); (case hg => rfl); (case hr => first | (go_simp; done) | (go_simp; rfl)); intro gb hg w5 hbox hb; have n0_ := ak_ (below_step (by repeat (first | (with_reducible first | exact HB.out | apply wA | apply wN | apply wD) | exact HB.out)) hb); have n1_ := ak_ (hbox); have n3_ := ak_ ((by rw [hg]; exact (below_size (by repeat (first | (with_reducible first | exact HB.out | apply wA | apply wN | apply wD) | exact HB.out))) : w.heap.size ≤ gb)); clear HB; have HB := n0_; have BK := n1_; have GE := n3_; clear n0_ n1_ n3_; clear hb hbox hg; have hcz_0 : w5.cell? ⟨gb, 0, none⟩ = some (.int .u8 0) := (blk_cell BK.out 0).trans rfl; have hcz_1 : w5.cell? ⟨gb, 1, none⟩ = some (.int .u8 0) := (blk_cell BK.out 1).trans rfl; have hfz_0 := blk_frozen BK.out 0; have hfz_1 := blk_frozen BK.out 1))
 refine name_world (fun W => W.heap[gb]? = some (.cells #[.int .u8 128, .int .u8 191] 179 (0, 0)) ∧ Below w.heap.size w W) ⟨?bk, ?be⟩ (fun W ⟨BKW, HBW⟩ => ?_)
 case bk => (with_reducible repeat (first | refine bN ?_ _ | refine bD ?_ | refine bA ?_ _)); refine blk_put (cs := #[.int .u8 128, .int .u8 0]) ?_ 1 _ rfl; (with_reducible repeat (first | refine bN ?_ _ | refine bD ?_ | refine bA ?_ _)); refine blk_put (cs := #[.int .u8 0, .int .u8 0]) ?_ 0 _ rfl; (with_reducible repeat (first | refine bN ?_ _ | refine bD ?_ | refine bA ?_ _)); exact BK.out
 case be => repeat (first | (with_reducible first | exact HB.out | apply wA | apply wN | apply wD | refine below_set ?_ GE.out) | exact HB.out)
 have k0 : W.cell? ⟨gb, 0, none⟩ = some (.int .u8 128) := (blk_cell BKW 0).trans rfl
 have k1 : W.cell? ⟨gb, 1, none⟩ = some (.int .u8 191) := (blk_cell BKW 1).trans rfl
 have d0 := (HBW.cell (World.block_lt_of_cell? w _ c0)).trans c0
 have d1 := (HBW.cell (World.block_lt_of_cell? w _ c1)).trans c1
 have d2 := (HBW.cell (World.block_lt_of_cell? w _ c2)).trans c2
 clear HB BK
 go_wp2
 repeat (go_quiet (fail); try go_wp2)
 go_ret
 exact ⟨rfl, by first | exact HBW | (apply wN; exact HBW) | (apply wD; exact HBW)⟩
set_option maxRecDepth 100000 in
set_option maxHeartbeats 4000000 in
theorem s_4_3_hi2 (o g cap : Nat) (a b c : Nat) (w : World) (hT : Tab w) (ha : a < 256) (c0 : w.cell? ⟨g, o, none⟩ = some (.int .u8 (a : Int))) (hb : b < 256) (c1 : w.cell? ⟨g, o + 1, none⟩ = some (.int .u8 (b : Int))) (hc : c < 256) (c2 : w.cell? ⟨g, o + 2, none⟩ = some (.int .u8 (c : Int))) (hx : Lib.firstT a = 4) (p0 : ¬ (b : Int) < 128) (p1 : ¬ 191 < (b : Int)) (p2 : ¬ (c : Int) < 128) (p3 : 191 < (c : Int)) :
  Calls Tryz.prog 105 #[.slice (some ⟨g, o, none⟩) 3 cap] w fun e w' => e = .returned (.bool true) ∧ Below w.heap.size w w' := by
 have HB := ak_ (Below.refl w.heap.size w)
 have ht0 := hT.1 a ha
 rw [hx] at ht0
 have ht0' : w.cell? ⟨4, a, none⟩ = some (.int .u8 4) := ht0
 have q0 := decide_eq_false p0
 have q1 := decide_eq_false p1
 have q2 := decide_eq_false p2
 have q3 := decide_eq_true p3
 have hl := (hT.2 0 (by decide)).1
 have hh := (hT.2 0 (by decide)).2
 have hl' : w.cell? ⟨5, 0, none⟩ = some (.int .u8 128) := hl
 have hh' : w.cell? ⟨5, 1, none⟩ = some (.int .u8 191) := hh
 go_enter Tryz.func105, Tryz.ntmps105
 go_upto_region 8 with (first | ((with_reducible refine gate_dst (N := 5) rfl ?_); refine box_event ?hg (N := 5) ?hd (cs := #[.int .u8 0, .int .u8 0]) (t := 179) ?hr ?_; (case hd => rfl); (case hg => rfl); (case hr => first | (go_simp; done) | (go_simp; rfl)); intro gb hg w5 hbox hb; have n0_ := ak_ (below_step (by repeat (first | (with_reducible first | exact HB.out | apply wA | apply wN | apply wD) | exact HB.out)) hb); have n1_ := ak_ (hbox); have n3_ := ak_ ((by rw [hg]; exact (below_size (by repeat (first | (with_reducible first | exact HB.out | apply wA | apply wN | apply wD) | exact HB.out))) : w.heap.size ≤ gb)); clear HB; have HB := n0_; have BK := n1_; have GE := n3_; clear n0_ n1_ n3_; clear hb hbox hg; have hcz_0 : w5.cell? ⟨gb, 0, none⟩ = some (.int .u8 0) := (blk_cell BK.out 0).trans rfl; have hcz_1 : w5.cell? ⟨gb, 1, none⟩ = some (.int .u8 0) := (blk_cell BK.out 1).trans rfl; have hfz_0 := blk_frozen BK.out 0; have hfz_1 := blk_frozen BK.out 1))
 refine name_world (fun W => W.heap[gb]? = some (.cells #[.int .u8 128, .int .u8 191] 179 (0, 0)) ∧ Below w.heap.size w W) ⟨?bk, ?be⟩ (fun W ⟨BKW, HBW⟩ => ?_)
 case bk => (with_reducible repeat (first | refine bN ?_ _ | refine bD ?_ | refine bA ?_ _)); refine blk_put (cs := #[.int .u8 128, .int .u8 0]) ?_ 1 _ rfl; (with_reducible repeat (first | refine bN ?_ _ | refine bD ?_ | refine bA ?_ _)); refine blk_put (cs := #[.int .u8 0, .int .u8 0]) ?_ 0 _ rfl; (with_reducible repeat (first | refine bN ?_ _ | refine bD ?_ | refine bA ?_ _)); exact BK.out
 case be => repeat (first | (with_reducible first | exact HB.out | apply wA | apply wN | apply wD | refine below_set ?_ GE.out) | exact HB.out)
 have k0 : W.cell? ⟨gb, 0, none⟩ = some (.int .u8 128) := (blk_cell BKW 0).trans rfl
 have k1 : W.cell? ⟨gb, 1, none⟩ = some (.int .u8 191) := (blk_cell BKW 1).trans rfl
 have d0 := (HBW.cell (World.block_lt_of_cell? w _ c0)).trans c0
 have d1 := (HBW.cell (World.block_lt_of_cell? w _ c1)).trans c1
 have d2 := (HBW.cell (World.block_lt_of_cell? w _ c2)).trans c2
 clear HB BK
 go_wp2
 repeat (go_quiet (fail); try go_wp2)
 go_ret
 exact ⟨rfl, by first | exact HBW | (apply wN; exact HBW) | (apply wD; exact HBW)⟩
set_option maxRecDepth 100000 in
set_option maxHeartbeats 4000000 in
theorem s_4_3_ok (o g cap : Nat) (a b c : Nat) (w : World) (hT : Tab w) (ha : a < 256) (c0 : w.cell? ⟨g, o, none⟩ = some (.int .u8 (a : Int))) (hb : b < 256) (c1 : w.cell? ⟨g, o + 1, none⟩ = some (.int .u8 (b : Int))) (hc : c < 256) (c2 : w.cell? ⟨g, o + 2, none⟩ = some (.int .u8 (c : Int))) (hx : Lib.firstT a = 4) (p0 : ¬ (b : Int) < 128) (p1 : ¬ 191 < (b : Int)) (p2 : ¬ (c : Int) < 128) (p3 : ¬ 191 < (c : Int)) :
  Calls Tryz.prog 105 #[.slice (some ⟨g, o, none⟩) 3 cap] w fun e w' => e = .returned (.bool false) ∧ Below w.heap.size w w' := by
 have HB := ak_ (Below.refl w.heap.size w)
 have ht0 := hT.1 a ha
 rw [hx] at ht0
 have ht0' : w.cell? ⟨4, a, none⟩ = some (.int .u8 4) := ht0
 have q0 := decide_eq_false p0
 have q1 := decide_eq_false p1
 have q2 := decide_eq_false p2
 have q3 := decide_eq_false p3
 have hl := (hT.2 0 (by decide)).1
 have hh := (hT.2 0 (by decide)).2
 have hl' : w.cell? ⟨5, 0, none⟩ = some (.int .u8 128) := hl
 have hh' : w.cell? ⟨5, 1, none⟩ = some (.int .u8 191) := hh
 go_enter Tryz.func105, Tryz.ntmps105
 go_upto_region 8 with (first | ((with_reducible refine gate_dst (N := 5) rfl ?_); refine box_event ?hg (N := 5) ?hd (cs := #[.int .u8 0, .int .u8 0]) (t := 179) ?hr ?_; (case hd => rfl); (case hg => rfl); (case hr => first | (go_simp; done) | (go_simp; rfl)); intro gb hg w5 hbox hb; have n0_ := ak_ (below_step (by repeat (first | (with_reducible first | exact HB.out | apply wA | apply wN | apply wD) | exact HB.out)) hb); have n1_ := ak_ (hbox); have n3_ := ak_ ((by rw [hg]; exact (below_size (by repeat (first | (with_reducible first | exact HB.out | apply wA | apply wN | apply wD) | exact HB.out))) : w.heap.size ≤ gb)); clear HB; have HB := n0_; have BK := n1_; have GE := n3_; clear n0_ n1_ n3_; clear hb hbox hg; have hcz_0 : w5.cell? ⟨gb, 0, none⟩ = some (.int .u8 0) := (blk_cell BK.out 0).trans rfl; have hcz_1 : w5.cell? ⟨gb, 1, none⟩ = some (.int .u8 0) := (blk_cell BK.out 1).trans rfl; have hfz_0 := blk_frozen BK.out 0; have hfz_1 := blk_frozen BK.out 1))
 refine name_world (fun W => W.heap[gb]? = some (.cells #[.int .u8 128, .int .u8 191] 179 (0, 0)) ∧ Below w.heap.size w W) ⟨?bk, ?be⟩ (fun W ⟨BKW, HBW⟩ => ?_)
 case bk => (with_reducible repeat (first | refine bN ?_ _ | refine bD ?_ | refine bA ?_ _)); refine blk_put (cs := #[.int .u8 128, .int .u8 0]) ?_ 1 _ rfl; (with_reducible repeat (first | refine bN ?_ _ | refine bD ?_ | refine bA ?_ _)); refine blk_put (cs := #[.int .u8 0, .int .u8 0]) ?_ 0 _ rfl; (with_reducible repeat (first | refine bN ?_ _ | refine bD ?_ | refine bA ?_ _)); exact BK.out
 case be => repeat (first | (with_reducible first | exact HB.out | apply wA | apply wN | apply wD | refine below_set ?_ GE.out) | exact HB.out)
 have k0 : W.cell? ⟨gb, 0, none⟩ = some (.int .u8 128) := (blk_cell BKW 0).trans rfl
 have k1 : W.cell? ⟨gb, 1, none⟩ = some (.int .u8 191) := (blk_cell BKW 1).trans rfl
 have d0 := (HBW.cell (World.block_lt_of_cell? w _ c0)).trans c0
 have d1 := (HBW.cell (World.block_lt_of_cell? w _ c1)).trans c1
 have d2 := (HBW.cell (World.block_lt_of_cell? w _ c2)).trans c2
 clear HB BK
 go_wp2
 repeat (go_quiet (fail); try go_wp2)
 go_ret
 exact ⟨rfl, by first | exact HBW | (apply wN; exact HBW) | (apply wD; exact HBW)⟩
set_option maxRecDepth 100000 in
set_option maxHeartbeats 4000000 in
theorem full_68 (o g cap : Nat) (a : Nat) (w : World) (hT : Tab w) (n : Nat) (hn : 4 ≤ n) (h1 : 1 ≤ n) (ha : a < 256) (c0 : w.cell? ⟨g, o, none⟩ = some (.int .u8 (a : Int))) (hx : Lib.firstT a = 68) :
  Calls Tryz.prog 105 #[.slice (some ⟨g, o, none⟩) n cap] w fun e w' => e = .returned (.bool true) ∧ Below w.heap.size w w' := by
 have HB := ak_ (Below.refl w.heap.size w)
 have ht0 := hT.1 a ha
 rw [hx] at ht0
 have ht0' : w.cell? ⟨4, a, none⟩ = some (.int .u8 68) := ht0
 have l0 : ((n : Int) == 0) = false := beq_eq_false_iff_ne.mpr (by omega)
 have l1 : decide ((4 : Int) ≤ (n : Int)) = true := decide_eq_true (by omega)
 go_enter Tryz.func105, Tryz.ntmps105
 go_wp2
 go_ret
 exact ⟨rfl, HB.out⟩
set_option maxRecDepth 100000 in
set_option maxHeartbeats 4000000 in
theorem short_68_1 (o g cap : Nat) (a : Nat) (w : World) (hT : Tab w) (ha : a < 256) (c0 : w.cell? ⟨g, o, none⟩ = some (.int .u8 (a : Int))) (hx : Lib.firstT a = 68) :
  Calls Tryz.prog 105 #[.slice (some ⟨g, o, none⟩) 1 cap] w fun e w' => e = .returned (.bool false) ∧ Below w.heap.size w w' := by
 have HB := ak_ (Below.refl w.heap.size w)
 have ht0 := hT.1 a ha
 rw [hx] at ht0
 have ht0' : w.cell? ⟨4, a, none⟩ = some (.int .u8 68) := ht0
 have hl := (hT.2 4 (by decide)).1
 have hh := (hT.2 4 (by decide)).2
 have hl' : w.cell? ⟨5, 8, none⟩ = some (.int .u8 128) := hl
 have hh' : w.cell? ⟨5, 9, none⟩ = some (.int .u8 143) := hh
 go_enter Tryz.func105, Tryz.ntmps105
 go_upto_region 8 with (first | ((with_reducible refine gate_dst (N := 5) rfl ?_); refine box_event ?hg (N := 5) ?hd (cs := #[.int .u8 0, .int .u8 0]) (t := 179) ?hr ?_; (case hd => rfl); (case hg => rfl); (case hr => first | (go_simp; done) | (go_simp; rfl)); intro gb hg w5 hbox hb; have n0_ := ak_ (below_step (by repeat (first | (with_reducible first | exact HB.out | apply wA | apply wN | apply wD) | exact HB.out)) hb); have n1_ := ak_ (hbox); have n3_ := ak_ ((by rw [hg]; exact (below_size (by repeat (first | (with_reducible first | exact HB.out | apply wA | apply wN | apply wD) | exact HB.out))) : w.heap.size ≤ gb)); clear HB; have HB := n0_; have BK := n1_; have GE := n3_; clear n0_ n1_ n3_; clear hb hbox hg; have hcz_0 : w5.cell? ⟨gb, 0, none⟩ = some (.int .u8 0) := (blk_cell BK.out 0).trans rfl; have hcz_1 : w5.cell? ⟨gb, 1, none⟩ = some (.int .u8 0) := (blk_cell BK.out 1).trans rfl; have hfz_0 := blk_frozen BK.out 0; have hfz_1 := blk_frozen BK.out 1))
 refine name_world (fun W => W.heap[gb]? = some (.cells #[.int .u8 128, .int .u8 143] 179 (0, 0)) ∧ Below w.heap.size w W) ⟨?bk, ?be⟩ (fun W ⟨BKW, HBW⟩ => ?_)
 case bk => (with_reducible repeat (first | refine bN ?_ _ | refine bD ?_ | refine bA ?_ _)); refine blk_put (cs := #[.int .u8 128, .int .u8 0]) ?_ 1 _ rfl; (with_reducible repeat (first | refine bN ?_ _ | refine bD ?_ | refine bA ?_ _)); refine blk_put (cs := #[.int .u8 0, .int .u8 0]) ?_ 0 _ rfl; (with_reducible repeat (first | refine bN ?_ _ | refine bD ?_ | refine bA ?_ _)); exact BK.out
 case be => repeat (first | (with_reducible first | exact HB.out | apply wA | apply wN | apply wD | refine below_set ?_ GE.out) | exact HB.out)
 have k0 : W.cell? ⟨gb, 0, none⟩ = some (.int .u8 128) := (blk_cell BKW 0).trans rfl
 have k1 : W.cell? ⟨gb, 1, none⟩ = some (.int .u8 143) := (blk_cell BKW 1).trans rfl
 have d0 := (HBW.cell (World.block_lt_of_cell? w _ c0)).trans c0
 clear HB BK
 go_wp2
 repeat (go_quiet (fail); try go_wp2)
 go_ret
 exact ⟨rfl, by first | exact HBW | (apply wN; exact HBW) | (apply wD; exact HBW)⟩
set_option maxRecDepth 100000 in
set_option maxHeartbeats 4000000 in
theorem s_68_2_lo (o g cap : Nat) (a b : Nat) (w : World) (hT : Tab w) (ha : a < 256) (c0 : w.cell? ⟨g, o, none⟩ = some (.int .u8 (a : Int))) (hb : b < 256) (c1 : w.cell? ⟨g, o + 1, none⟩ = some (.int .u8 (b : Int))) (hx : Lib.firstT a = 68) (p0 : (b : Int) < 128) :
  Calls Tryz.prog 105 #[.slice (some ⟨g, o, none⟩) 2 cap] w fun e w' => e = .returned (.bool true) ∧ Below w.heap.size w w' := by
 have HB := ak_ (Below.refl w.heap.size w)
 have ht0 := hT.1 a ha
 rw [hx] at ht0
 have ht0' : w.cell? ⟨4, a, none⟩ = some (.int .u8 68) := ht0
 have q0 := decide_eq_true p0
 have hl := (hT.2 4 (by decide)).1
 have hh := (hT.2 4 (by decide)).2
 have hl' : w.cell? ⟨5, 8, none⟩ = some (.int .u8 128) := hl
 have hh' : w.cell? ⟨5, 9, none⟩ = some (.int .u8 143) := hh
 go_enter Tryz.func105, Tryz.ntmps105
 go_upto_region 8 with (first | ((with_reducible refine gate_dst (N := 5) rfl ?_); refine box_event ?hg (N := 5) ?hd (cs := #[.int .u8 0, .int .u8 0]) (t := 179) ?hr ?_; (case hd => rfl); (case hg => rfl); (case hr => first | (go_simp; done) | (go_simp; rfl)); intro gb hg w5 hbox hb; have n0_ := ak_ (below_step (by repeat (first | (with_reducible first | exact HB.out | apply wA | apply wN | apply wD) | exact HB.out)) hb); have n1_ := ak_ (hbox); have n3_ := ak_ ((by rw [hg]; exact (below_size (by repeat (first | (with_reducible first | exact HB.out | apply wA | apply wN | apply wD) | exact HB.out))) : w.heap.size ≤ gb)); clear HB; have HB := n0_; have BK := n1_; have GE := n3_; clear n0_ n1_ n3_; clear hb hbox hg; have hcz_0 : w5.cell? ⟨gb, 0, none⟩ = some (.int .u8 0) := (blk_cell BK.out 0).trans rfl; have hcz_1 : w5.cell? ⟨gb, 1, none⟩ = some (.int .u8 0) := (blk_cell BK.out 1).trans rfl; have hfz_0 := blk_frozen BK.out 0; have hfz_1 := blk_frozen BK.out 1))
 refine name_world (fun W => W.heap[gb]? = some (.cells #[.int .u8 128, .int .u8 143] 179 (0, 0)) ∧ Below w.heap.size w W) ⟨?bk, ?be⟩ (fun W ⟨BKW, HBW⟩ => ?_)
 case bk => (with_reducible repeat (first | refine bN ?_ _ | refine bD ?_ | refine bA ?_ _)); refine blk_put (cs := #[.int .u8 128, .int .u8 0]) ?_ 1 _ rfl; (with_reducible repeat (first | refine bN ?_ _ | refine bD ?_ | refine bA ?_ _)); refine blk_put (cs := #[.int .u8 0, .int .u8 0]) ?_ 0 _ rfl; (with_reducible repeat (first | refine bN ?_ _ | refine bD ?_ | refine bA ?_ _)); exact BK.out
 case be => repeat (first | (with_reducible first | exact HB.out | apply wA | apply wN | apply wD | refine below_set ?_ GE.out) | exact HB.out)
 have k0 : W.cell? ⟨gb, 0, none⟩ = some (.int .u8 128) := (blk_cell BKW 0).trans rfl
 have k1 : W.cell? ⟨gb, 1, none⟩ = some (.int .u8 143) := (blk_cell BKW 1).trans rfl
 have d0 := (HBW.cell (World.block_lt_of_cell? w _ c0)).trans c0
 have d1 := (HBW.cell (World.block_lt_of_cell? w _ c1)).trans c1
 clear HB BK
 go_wp2
 repeat (go_quiet (fail); try go_wp2)
 go_ret
 exact ⟨rfl, by first | exact HBW | (apply wN; exact HBW) | (apply wD; exact HBW)⟩
set_option maxRecDepth 100000 in
set_option maxHeartbeats 4000000 in
theorem s_68_2_hi (o g cap : Nat) (a b : Nat) (w : World) (hT : Tab w) (ha : a < 256) (c0 : w.cell? ⟨g, o, none⟩ = some (.int .u8 (a : Int))) (hb : b < 256) (c1 : w.cell? ⟨g, o + 1, none⟩ = some (.int .u8 (b : Int))) (hx : Lib.firstT a = 68) (p0 : ¬ (b : Int) < 128) (p1 : 143 < (b : Int)) :
  Calls Tryz.prog 105 #[.slice (some ⟨g, o, none⟩) 2 cap] w fun e w' => e = .returned (.bool true) ∧ Below w.heap.size w w' := by
 have HB := ak_ (Below.refl w.heap.size w)
 have ht0 := hT.1 a ha
 rw [hx] at ht0
 have ht0' : w.cell? ⟨4, a, none⟩ = some (.int .u8 68) := ht0
 have q0 := decide_eq_false p0
 have q1 := decide_eq_true p1
 have hl := (hT.2 4 (by decide)).1
 have hh := (hT.2 4 (by decide)).2
 have hl' : w.cell? ⟨5, 8, none⟩ = some (.int .u8 128) := hl
 have hh' : w.cell? ⟨5, 9, none⟩ = some (.int .u8 143) := hh
 go_enter Tryz.func105, Tryz.ntmps105
 go_upto_region 8 with (first | ((with_reducible refine gate_dst (N := 5) rfl ?_); refine box_event ?hg (N := 5) ?hd (cs := #[.int .u8 0, .int .u8 0]) (t := 179) ?hr ?_; (case hd => rfl); (case hg => rfl); (case hr => first | (go_simp; done) | (go_simp; rfl)); intro gb hg w5 hbox hb; have n0_ := ak_ (below_step (by repeat (first | (with_reducible first | exact HB.out | apply wA | apply wN | apply wD) | exact HB.out)) hb); have n1_ := ak_ (hbox); have n3_ := ak_ ((by rw [hg]; exact (below_size (by repeat (first | (with_reducible first | exact HB.out | apply wA | apply wN | apply wD) | exact HB.out))) : w.heap.size ≤ gb)); clear HB; have HB := n0_; have BK := n1_; have GE := n3_; clear n0_ n1_ n3_; clear hb hbox hg; have hcz_0 : w5.cell? ⟨gb, 0, none⟩ = some (.int .u8 0) := (blk_cell BK.out 0).trans rfl; have hcz_1 : w5.cell? ⟨gb, 1, none⟩ = some (.int .u8 0) := (blk_cell BK.out 1).trans rfl; have hfz_0 := blk_frozen BK.out 0; have hfz_1 := blk_frozen BK.out 1))
 refine name_world (fun W => W.heap[gb]? = some (.cells #[.int .u8 128, .int .u8 143] 179 (0, 0)) ∧ Below w.heap.size w W) ⟨?bk, ?be⟩ (fun W ⟨BKW, HBW⟩ => ?_)
 case bk => (with_reducible repeat (first | refine bN ?_ _ | refine bD ?_ | refine bA ?_ _)); refine blk_put (cs := #[.int .u8 128, .int .u8 0]) ?_ 1 _ rfl; (with_reducible repeat (first | refine bN ?_ _ | refine bD ?_ | refine bA ?_ _)); refine blk_put (cs := #[.int .u8 0, .int .u8 0]) ?_ 0 _ rfl; (with_reducible repeat (first | refine bN ?_ _ | refine bD ?_ | refine bA ?_ _)); exact BK.out
 case be => repeat (first | (with_reducible first | exact HB.out | apply wA | apply wN | apply wD | refine below_set ?_ GE.out) | exact HB.out)
 have k0 : W.cell? ⟨gb, 0, none⟩ = some (.int .u8 128) := (blk_cell BKW 0).trans rfl
 have k1 : W.cell? ⟨gb, 1, none⟩ = some (.int .u8 143) := (blk_cell BKW 1).trans rfl
 have d0 := (HBW.cell (World.block_lt_of_cell? w _ c0)).trans c0
 have d1 := (HBW.cell (World.block_lt_of_cell? w _ c1)).trans c1
 clear HB BK
 go_wp2
 repeat (go_quiet (fail); try go_wp2)
 go_ret
 exact ⟨rfl, by first | exact HBW | (apply wN; exact HBW) | (apply wD; exact HBW)⟩
set_option maxRecDepth 100000 in
set_option maxHeartbeats 4000000 in
theorem s_68_2_ok (o g cap : Nat) (a b : Nat) (w : World) (hT : Tab w) (ha : a < 256) (c0 : w.cell? ⟨g, o, none⟩ = some (.int .u8 (a : Int))) (hb : b < 256) (c1 : w.cell? ⟨g, o + 1, none⟩ = some (.int .u8 (b : Int))) (hx : Lib.firstT a = 68) (p0 : ¬ (b : Int) < 128) (p1 : ¬ 143 < (b : Int)) :
  Calls Tryz.prog 105 #[.slice (some ⟨g, o, none⟩) 2 cap] w fun e w' => e = .returned (.bool false) ∧ Below w.heap.size w w' := by
 have HB := ak_ (Below.refl w.heap.size w)
 have ht0 := hT.1 a ha
 rw [hx] at ht0
 have ht0' : w.cell? ⟨4, a, none⟩ = some (.int .u8 68) := ht0
 have q0 := decide_eq_false p0
 have q1 := decide_eq_false p1
 have hl := (hT.2 4 (by decide)).1
 have hh := (hT.2 4 (by decide)).2
 have hl' : w.cell? ⟨5, 8, none⟩ = some (.int .u8 128) := hl
 have hh' : w.cell? ⟨5, 9, none⟩ = some (.int .u8 143) := hh
 go_enter Tryz.func105, Tryz.ntmps105
 go_upto_region 8 with (first | ((with_reducible refine gate_dst (N := 5) rfl ?_); refine box_event ?hg (N := 5) ?hd (cs := #[.int .u8 0, .int .u8 0]) (t := 179) ?hr ?_; (case hd => rfl); (case hg => rfl); (case hr => first | (go_simp; done) | (go_simp; rfl)); intro gb hg w5 hbox hb; have n0_ := ak_ (below_step (by repeat (first | (with_reducible first | exact HB.out | apply wA | apply wN | apply wD) | exact HB.out)) hb); have n1_ := ak_ (hbox); have n3_ := ak_ ((by rw [hg]; exact (below_size (by repeat (first | (with_reducible first | exact HB.out | apply wA | apply wN | apply wD) | exact HB.out))) : w.heap.size ≤ gb)); clear HB; have HB := n0_; have BK := n1_; have GE := n3_; clear n0_ n1_ n3_; clear hb hbox hg; have hcz_0 : w5.cell? ⟨gb, 0, none⟩ = some (.int .u8 0) := (blk_cell BK.out 0).trans rfl; have hcz_1 : w5.cell? ⟨gb, 1, none⟩ = some (.int .u8 0) := (blk_cell BK.out 1).trans rfl; have hfz_0 := blk_frozen BK.out 0; have hfz_1 := blk_frozen BK.out 1))
 refine name_world (fun W => W.heap[gb]? = some (.cells #[.int .u8 128, .int .u8 143] 179 (0, 0)) ∧ Below w.heap.size w W) ⟨?bk, ?be⟩ (fun W ⟨BKW, HBW⟩ => ?_)
 case bk => (with_reducible repeat (first | refine bN ?_ _ | refine bD ?_ | refine bA ?_ _)); refine blk_put (cs := #[.int .u8 128, .int .u8 0]) ?_ 1 _ rfl; (with_reducible repeat (first | refine bN ?_ _ | refine bD ?_ | refine bA ?_ _)); refine blk_put (cs := #[.int .u8 0, .int .u8 0]) ?_ 0 _ rfl; (with_reducible repeat (first | refine bN ?_ _ | refine bD ?_ | refine bA ?_ _)); exact BK.out
 case be => repeat (first | (with_reducible first | exact HB.out | apply wA | apply wN | apply wD | refine below_set ?_ GE.out) | exact HB.out)
 have k0 : W.cell? ⟨gb, 0, none⟩ = some (.int .u8 128) := (blk_cell BKW 0).trans rfl
 have k1 : W.cell? ⟨gb, 1, none⟩ = some (.int .u8 143) := (blk_cell BKW 1).trans rfl
 have d0 := (HBW.cell (World.block_lt_of_cell? w _ c0)).trans c0
 have d1 := (HBW.cell (World.block_lt_of_cell? w _ c1)).trans c1
 clear HB BK
 go_wp2
 repeat (go_quiet (fail); try go_wp2)
 go_ret
 exact ⟨rfl, by first | exact HBW | (apply wN; exact HBW) | (apply wD; exact HBW)⟩
set_option maxRecDepth 100000 in
set_option maxHeartbeats 4000000 in
theorem s_68_3_lo (o g cap : Nat) (a b c : Nat) (w : World) (hT : Tab w) (ha : a < 256) (c0 : w.cell? ⟨g, o, none⟩ = some (.int .u8 (a : Int))) (hb : b < 256) (c1 : w.cell? ⟨g, o + 1, none⟩ = some (.int .u8 (b : Int))) (hc : c < 256) (c2 : w.cell? ⟨g, o + 2, none⟩ = some (.int .u8 (c : Int))) (hx : Lib.firstT a = 68) (p0 : (b : Int) < 128) :
  Calls Tryz.prog 105 #[.slice (some ⟨g, o, none⟩) 3 cap] w fun e w' => e = .returned (.bool true) ∧ Below w.heap.size w w' := by
 have HB := ak_ (Below.refl w.heap.size w)
 have ht0 := hT.1 a ha
 rw [hx] at ht0
 have ht0' : w.cell? ⟨4, a, none⟩ = some (.int .u8 68) := ht0
 have q0 := decide_eq_true p0
 have hl := (hT.2 4 (by decide)).1
 have hh := (hT.2 4 (by decide)).2
 have hl' : w.cell? ⟨5, 8, none⟩ = some (.int .u8 128) := hl
 have hh' : w.cell? ⟨5, 9, none⟩ = some (.int .u8 143) := hh
 go_enter Tryz.func105, Tryz.ntmps105
 go_upto_region 8 with (first | ((with_reducible refine gate_dst (N := 5) rfl ?_); refine box_event ?hg (N := 5) ?hd (cs := #[.int .u8 0, .int .u8 0]) (t := 179) ?hr ?_; (case hd => rfl); (case hg => rfl); (case hr => first | (go_simp; done) | (go_simp; rfl)); intro gb hg w5 hbox hb; have n0_ := ak_ (below_step (by repeat (first | (with_reducible first | exact HB.out | apply wA | apply wN | apply wD) | exact HB.out)) hb); have n1_ := ak_ (hbox); have n3_ := ak_ ((by rw [hg]; exact (below_size (by repeat (first | (with_reducible first | exact HB.out | apply wA | apply wN | apply wD) | exact HB.out))) : w.heap.size ≤ gb)); clear HB; have HB := n0_; have BK := n1_; have GE := n3_; clear n0_ n1_ n3_; clear hb hbox hg; have hcz_0 : w5.cell? ⟨gb, 0, none⟩ = some (.int .u8 0) := (blk_cell BK.out 0).trans rfl; have hcz_1 : w5.cell? ⟨gb, 1, none⟩ = some (.int .u8 0) := (blk_cell BK.out 1).trans rfl; have hfz_0 := blk_frozen BK.out 0; have hfz_1 := blk_frozen BK.out 1))
 refine name_world (fun W => W.heap[gb]? = some (.cells #[.int .u8 128, .int .u8 143] 179 (0, 0)) ∧ Below w.heap.size w W) ⟨?bk, ?be⟩ (fun W ⟨BKW, HBW⟩ => ?_)
 case bk => (with_reducible repeat (first | refine bN ?_ _ | refine bD ?_ | refine bA ?_ _)); refine blk_put (cs := #[.int .u8 128, .int .u8 0]) ?_ 1 _ rfl; (with_reducible repeat (first | refine bN ?_ _ | refine bD ?_ | refine bA ?_ _)); refine blk_put (cs := #[.int .u8 0, .int .u8 0]) ?_ 0 _ rfl; (with_reducible repeat (first | refine bN ?_ _ | refine bD ?_ | refine bA ?_ _)); exact BK.out
 case be => repeat (first | (with_reducible first | exact HB.out | apply wA | apply wN | apply wD | refine below_set ?_ GE.out) | exact HB.out)
 have k0 : W.cell? ⟨gb, 0, none⟩ = some (.int .u8 128) := (blk_cell BKW 0).trans rfl
 have k1 : W.cell? ⟨gb, 1, none⟩ = some (.int .u8 143) := (blk_cell BKW 1).trans rfl
 have d0 := (HBW.cell (World.block_lt_of_cell? w _ c0)).trans c0
 have d1 := (HBW.cell (World.block_lt_of_cell? w _ c1)).trans c1
 have d2 := (HBW.cell (World.block_lt_of_cell? w _ c2)).trans c2
 clear HB BK
 go_wp2
 repeat (go_quiet (fail); try go_wp2)
 go_ret
 exact ⟨rfl, by first | exact HBW | (apply wN; exact HBW) | (apply wD; exact HBW)⟩
set_option maxRecDepth 100000 in
set_option maxHeartbeats 4000000 in
theorem s_68_3_hi (o g cap : Nat) (a b c : Nat) (w : World) (hT : Tab w) (ha : a < 256) (c0 : w.cell? ⟨g, o, none⟩ = some (.int .u8 (a : Int))) (hb : b < 256) (c1 : w.cell? ⟨g, o + 1, none⟩ = some (.int .u8 (b : Int))) (hc : c < 256) (c2 : w.cell? ⟨g, o + 2, none⟩ = some (.int .u8 (c : Int))) (hx : Lib.firstT a = 68) (p0 : ¬ (b : Int) < 128) (p1 : 143 < (b : Int)) :
  Calls Tryz.prog 105 #[.slice (some ⟨g, o, none⟩) 3 cap] w fun e w' => e = .returned (.bool true) ∧ Below w.heap.size w w' := by
 have HB := ak_ (Below.refl w.heap.size w)
 have ht0 := hT.1 a ha
 rw [hx] at ht0
 have ht0' : w.cell? ⟨4, a, none⟩ = some (.int .u8 68) := ht0
 have q0 := decide_eq_false p0
 have q1 := decide_eq_true p1
 have hl := (hT.2 4 (by decide)).1
 have hh := (hT.2 4 (by decide)).2
 have hl' : w.cell? ⟨5, 8, none⟩ = some (.int .u8 128) := hl
 have hh' : w.cell? ⟨5, 9, none⟩ = some (.int .u8 143) := hh
 go_enter Tryz.func105, Tryz.ntmps105
 go_upto_region 8 with (first | ((with_reducible refine gate_dst (N := 5) rfl ?_); refine box_event ?hg (N := 5) ?hd (cs := #[.int .u8 0, .int .u8 0]) (t := 179) ?hr ?_; (case hd => rfl); (case hg => rfl); (case hr => first | (go_simp; done) | (go_simp; rfl)); intro gb hg w5 hbox hb; have n0_ := ak_ (below_step (by repeat (first | (with_reducible first | exact HB.out | apply wA | apply wN | apply wD) | exact HB.out)) hb); have n1_ := ak_ (hbox); have n3_ := ak_ ((by rw [hg]; exact (below_size (by repeat (first | (with_reducible first | exact HB.out | apply wA | apply wN | apply wD) | exact HB.out))) : w.heap.size ≤ gb)); clear HB; have HB := n0_; have BK := n1_; have GE := n3_; clear n0_ n1_ n3_; clear hb hbox hg; have hcz_0 : w5.cell? ⟨gb, 0, none⟩ = some (.int .u8 0) := (blk_cell BK.out 0).trans rfl; have hcz_1 : w5.cell? ⟨gb, 1, none⟩ = some (.int .u8 0) := (blk_cell BK.out 1).trans rfl; have hfz_0 := blk_frozen BK.out 0; have hfz_1 := blk_frozen BK.out 1))
 refine name_world (fun W => W.heap[gb]? = some (.cells #[.int .u8 128, .int .u8 143] 179 (0, 0)) ∧ Below w.heap.size w W) ⟨?bk, ?be⟩ (fun W ⟨BKW, HBW⟩ => ?_)
 case bk => (with_reducible repeat (first | refine bN ?_ _ | refine bD ?_ | refine bA ?_ _)); refine blk_put (cs := #[.int .u8 128, .int .u8 0]) ?_ 1 _ rfl; (with_reducible repeat (first | refine bN ?_ _ | refine bD ?_ | refine bA ?_ _)); refine blk_put (cs := #[.int .u8 0, .int .u8 0]) ?_ 0 _ rfl; (with_reducible repeat (first | refine bN ?_ _ | refine bD ?_ | refine bA ?_ _)); exact BK.out
 case be => repeat (first | (with_reducible first | exact HB.out | apply wA | apply wN | apply wD | refine below_set ?_ GE.out) | exact HB.out)
 have k0 : W.cell? ⟨gb, 0, none⟩ = some (.int .u8 128) := (blk_cell BKW 0).trans rfl
 have k1 : W.cell? ⟨gb, 1, none⟩ = some (.int .u8 143) := (blk_cell BKW 1).trans rfl
 have d0 := (HBW.cell (World.block_lt_of_cell? w _ c0)).trans c0
 have d1 := (HBW.cell (World.block_lt_of_cell? w _ c1)).trans c1
 have d2 := (HBW.cell (World.block_lt_of_cell? w _ c2)).trans c2
 clear HB BK
 go_wp2
 repeat (go_quiet (fail); try go_wp2)
 go_ret
 exact ⟨rfl, by first | exact HBW | (apply wN; exact HBW) | (apply wD; exact HBW)⟩
set_option maxRecDepth 100000 in
set_option maxHeartbeats 4000000 in
theorem s_68_3_lo2 (o g cap : Nat) (a b c : Nat) (w : World) (hT : Tab w) (ha : a < 256) (c0 : w.cell? ⟨g, o, none⟩ = some (.int .u8 (a : Int))) (hb : b < 256) (c1 : w.cell? ⟨g, o + 1, none⟩ = some (.int .u8 (b : Int))) (hc : c < 256) (c2 : w.cell? ⟨g, o + 2, none⟩ = some (.int .u8 (c : Int))) (hx : Lib.firstT a = 68) (p0 : ¬ (b : Int) < 128) (p1 : ¬ 143 < (b : Int)) (p2 : (c : Int) < 128) :
  Calls Tryz.prog 105 #[.slice (some ⟨g, o, none⟩) 3 cap] w fun e w' => e = .returned (.bool true) ∧ Below w.heap.size w w' := by
 have HB := ak_ (Below.refl w.heap.size w)
 have ht0 := hT.1 a ha
 rw [hx] at ht0
 have ht0' : w.cell? ⟨4, a, none⟩ = some (.int .u8 68) := ht0
 have q0 := decide_eq_false p0
 have q1 := decide_eq_false p1
 have q2 := decide_eq_true p2
 have hl := (hT.2 4 (by decide)).1
 have hh := (hT.2 4 (by decide)).2
 have hl' : w.cell? ⟨5, 8, none⟩ = some (.int .u8 128) := hl
 have hh' : w.cell? ⟨5, 9, none⟩ = some (.int .u8 143) := hh
 go_enter Tryz.func105, Tryz.ntmps105
 go_upto_region 8 with (first | ((with_reducible refine gate_dst (N := 5) rfl ?_); refine box_event ?hg (N := 5) ?hd (cs := #[.int .u8 0, .int .u8 0]) (t := 179) ?hr ?_; (case hd => rfl); (case hg => rfl); (case hr => first | (go_simp; done) | (go_simp; rfl)); intro gb hg w5 hbox hb; have n0_ := ak_ (below_step (by repeat (first | (with_reducible first | exact HB.out | apply wA | apply wN | apply wD) | exact HB.out)) hb); have n1_ := ak_ (hbox); have n3_ := ak_ ((by rw [hg]; exact (below_size (by repeat (first | (with_reducible first | exact HB.out | apply wA | apply wN | apply wD) | exact HB.out))) : w.heap.size ≤ gb)); clear HB; have HB := n0_; have BK := n1_; have GE := n3_; clear n0_ n1_ n3_; clear hb hbox hg; have hcz_0 : w5.cell? ⟨gb, 0, none⟩ = some (.int .u8 0) := (blk_cell BK.out 0).trans rfl; have hcz_1 : w5.cell? ⟨gb, 1, none⟩ = some (.int .u8 0) := (blk_cell BK.out 1).trans rfl; have hfz_0 := blk_frozen BK.out 0; have hfz_1 := blk_frozen BK.out 1))
 refine name_world (fun W => W.heap[gb]? = some (.cells #[.int .u8 128, .int .u8 143] 179 (0, 0)) ∧ Below w.heap.size w W) ⟨?bk, ?be⟩ (fun W ⟨BKW, HBW⟩ => ?_)
 case bk => (with_reducible repeat (first | refine bN ?_ _ | refine bD ?_ | refine bA ?_ _)); refine blk_put (cs := #[.int .u8 128, .int .u8 0]) ?_ 1 _ rfl; (with_reducible repeat (first | refine bN ?_ _ | refine bD ?_ | refine bA ?_ _)); refine blk_put (cs := #[.int .u8 0, .int .u8 0]) ?_ 0 _ rfl; (with_reducible repeat (first | refine bN ?_ _ | refine bD ?_ | refine bA ?_ _)); exact BK.out
 case be => repeat (first | (with_reducible first | exact HB.out | apply wA | apply wN | apply wD | refine below_set ?_ GE.out) | exact HB.out)
 have k0 : W.cell? ⟨gb, 0, none⟩ = some (.int .u8 128) := (blk_cell BKW 0).trans rfl
 have k1 : W.cell? ⟨gb, 1, none⟩ = some (.int .u8 143) := (blk_cell BKW 1).trans rfl
 have d0 := (HBW.cell (World.block_lt_of_cell? w _ c0)).trans c0
 have d1 := (HBW.cell (World.block_lt_of_cell? w _ c1)).trans c1
 have d2 := (HBW.cell (World.block_lt_of_cell? w _ c2)).trans c2
 clear HB BK
 go_wp2
 repeat (go_quiet (fail); try go_wp2)
 go_ret
 exact ⟨rfl, by first | exact HBW | (apply wN; exact HBW) | (apply wD; exact HBW)⟩
set_option maxRecDepth 100000 in
set_option maxHeartbeats 4000000 in
theorem s_68_3_hi2 (o g cap : Nat) (a b c : Nat) (w : World) (hT : Tab w) (ha : a < 256) (c0 : w.cell? ⟨g, o, none⟩ = some (.int .u8 (a : Int))) (hb : b < 256) (c1 : w.cell? ⟨g, o + 1, none⟩ = some (.int .u8 (b : Int))) (hc : c < 256) (c2 : w.cell? ⟨g, o + 2, none⟩ = some (.int .u8 (c : Int))) (hx : Lib.firstT a = 68) (p0 : ¬ (b : Int) < 128) (p1 : ¬ 143 < (b : Int)) (p2 : ¬ (c : Int) < 128) (p3 : 191 < (c : Int)) :
  Calls Tryz.prog 105 #[.slice (some ⟨g, o, none⟩) 3 cap] w fun e w' => e = .returned (.bool true) ∧ Below w.heap.size w w' := by
 have HB := ak_ (Below.refl w.heap.size w)
 have ht0 := hT.1 a ha
 rw [hx] at ht0
 have ht0' : w.cell? ⟨4, a, none⟩ = some (.int .u8 68) := ht0
 have q0 := decide_eq_false p0
 have q1 := decide_eq_false p1
 have q2 := decide_eq_false p2
 have q3 := decide_eq_true p3
 have hl := (hT.2 4 (by decide)).1
 have hh := (hT.2 4 (by decide)).2
 have hl' : w.cell? ⟨5, 8, none⟩ = some (.int .u8 128) := hl
 have hh' : w.cell? ⟨5, 9, none⟩ = some (.int .u8 143) := hh
 go_enter Tryz.func105, Tryz.ntmps105
 go_upto_region 8 with (first | ((with_reducible refine gate_dst (N := 5) rfl ?_); refine box_event ?hg (N := 5) ?hd (cs := #[.int .u8 0, .int .u8 0]) (t := 179) ?hr ?_; (case hd => rfl); (case hg => rfl); (case hr => first | (go_simp; done) | (go_simp; rfl)); intro gb hg w5 hbox hb; have n0_ := ak_ (below_step (by repeat (first | (with_reducible first | exact HB.out | apply wA | apply wN | apply wD) | exact HB.out)) hb); have n1_ := ak_ (hbox); have n3_ := ak_ ((by rw [hg]; exact (below_size (by repeat (first | (with_reducible first | exact HB.out | apply wA | apply wN | apply wD) | exact HB.out))) : w.heap.size ≤ gb)); clear HB; have HB := n0_; have BK := n1_; have GE := n3_; clear n0_ n1_ n3_; clear hb hbox hg; have hcz_0 : w5.cell? ⟨gb, 0, none⟩ = some (.int .u8 0) := (blk_cell BK.out 0).trans rfl; have hcz_1 : w5.cell? ⟨gb, 1, none⟩ = some (.int .u8 0) := (blk_cell BK.out 1).trans rfl; have hfz_0 := blk_frozen BK.out 0; have hfz_1 := blk_frozen BK.out 1))
 refine name_world (fun W => W.heap[gb]? = some (.cells #[.int .u8 128, .int .u8 143] 179 (0, 0)) ∧ Below w.heap.size w W) ⟨?bk, ?be⟩ (fun W ⟨BKW, HBW⟩ => ?_)
 case bk => (with_reducible repeat (first | refine bN ?_ _ | refine bD ?_ | refine bA ?_ _)); refine blk_put (cs := #[.int .u8 128, .int .u8 0]) ?_ 1 _ rfl; (with_reducible repeat (first | refine bN ?_ _ | refine bD ?_ | refine bA ?_ _)); refine blk_put (cs := #[.int .u8 0, .int .u8 0]) ?_ 0 _ rfl; (with_reducible repeat (first | refine bN ?_ _ | refine bD ?_ | refine bA ?_ _)); exact BK.out
 case be => repeat (first | (with_reducible first | exact HB.out | apply wA | apply wN | apply wD | refine below_set ?_ GE.out) | exact HB.out)
 have k0 : W.cell? ⟨gb, 0, none⟩ = some (.int .u8 128) := (blk_cell BKW 0).trans rfl
 have k1 : W.cell? ⟨gb, 1, none⟩ = some (.int .u8 143) := (blk_cell BKW 1).trans rfl
 have d0 := (HBW.cell (World.block_lt_of_cell? w _ c0)).trans c0
 have d1 := (HBW.cell (World.block_lt_of_cell? w _ c1)).trans c1
 have d2 := (HBW.cell (World.block_lt_of_cell? w _ c2)).trans c2
 clear HB BK
 go_wp2
 repeat (go_quiet (fail); try go_wp2)
 go_ret
 exact ⟨rfl, by first | exact HBW | (apply wN; exact HBW) | (apply wD; exact HBW)⟩
set_option maxRecDepth 100000 in
set_option maxHeartbeats 4000000 in
theorem s_68_3_ok (o g cap : Nat) (a b c : Nat) (w : World) (hT : Tab w) (ha : a < 256) (c0 : w.cell? ⟨g, o, none⟩ = some (.int .u8 (a : Int))) (hb : b < 256) (c1 : w.cell? ⟨g, o + 1, none⟩ = some (.int .u8 (b : Int))) (hc : c < 256) (c2 : w.cell? ⟨g, o + 2, none⟩ = some (.int .u8 (c : Int))) (hx : Lib.firstT a = 68) (p0 : ¬ (b : Int) < 128) (p1 : ¬ 143 < (b : Int)) (p2 : ¬ (c : Int) < 128) (p3 : ¬ 191 < (c : Int)) :
  Calls Tryz.prog 105 #[.slice (some ⟨g, o, none⟩) 3 cap] w fun e w' => e = .returned (.bool false) ∧ Below w.heap.size w w' := by
 have HB := ak_ (Below.refl w.heap.size w)
 have ht0 := hT.1 a ha
 rw [hx] at ht0
 have ht0' : w.cell? ⟨4, a, none⟩ = some (.int .u8 68) := ht0
 have q0 := decide_eq_false p0
 have q1 := decide_eq_false p1
 have q2 := decide_eq_false p2
 have q3 := decide_eq_false p3
 have hl := (hT.2 4 (by decide)).1
 have hh := (hT.2 4 (by decide)).2
 have hl' : w.cell? ⟨5, 8, none⟩ = some (.int .u8 128) := hl
 have hh' : w.cell? ⟨5, 9, none⟩ = some (.int .u8 143) := hh
 go_enter Tryz.func105, Tryz.ntmps105
 go_upto_region 8 with (first | ((with_reducible refine gate_dst (N := 5) rfl ?_); refine box_event ?hg (N := 5) ?hd (cs := #[.int .u8 0, .int .u8 0]) (t := 179) ?hr ?_; (case hd => rfl); (case hg => rfl); (case hr => first | (go_simp; done) | (go_simp; rfl)); intro gb hg w5 hbox hb; have n0_ := ak_ (below_step (by repeat (first | (with_reducible first | exact HB.out | apply wA | apply wN | apply wD) | exact HB.out)) hb); have n1_ := ak_ (hbox); have n3_ := ak_ ((by rw [hg]; exact (below_size (by repeat (first | (with_reducible first | exact HB.out | apply wA | apply wN | apply wD) | exact HB.out))) : w.heap.size ≤ gb)); clear HB; have HB := n0_; have BK := n1_; have GE := n3_; clear n0_ n1_ n3_; clear hb hbox hg; have hcz_0 : w5.cell? ⟨gb, 0, none⟩ = some (.int .u8 0) := (blk_cell BK.out 0).trans rfl; have hcz_1 : w5.cell? ⟨gb, 1, none⟩ = some (.int .u8 0) := (blk_cell BK.out 1).trans rfl; have hfz_0 := blk_frozen BK.out 0; have hfz_1 := blk_frozen BK.out 1))
 refine name_world (fun W => W.heap[gb]? = some (.cells #[.int .u8 128, .int .u8 143] 179 (0, 0)) ∧ Below w.heap.size w W) ⟨?bk, ?be⟩ (fun W ⟨BKW, HBW⟩ => ?_)
 case bk => (with_reducible repeat (first | refine bN ?_ _ | refine bD ?_ | refine bA ?_ _)); refine blk_put (cs := #[.int .u8 128, .int .u8 0]) ?_ 1 _ rfl; (with_reducible repeat (first | refine bN ?_ _ | refine bD ?_ | refine bA ?_ _)); refine blk_put (cs := #[.int .u8 0, .int .u8 0]) ?_ 0 _ rfl; (with_reducible repeat (first | refine bN ?_ _ | refine bD ?_ | refine bA ?_ _)); exact BK.out
 case be => repeat (first | (with_reducible first | exact HB.out | apply wA | apply wN | apply wD | refine below_set ?_ GE.out) | exact HB.out)
 have k0 : W.cell? ⟨gb, 0, none⟩ = some (.int .u8 128) := (blk_cell BKW 0).trans rfl
 have k1 : W.cell? ⟨gb, 1, none⟩ = some (.int .u8 143) := (blk_cell BKW 1).trans rfl
 have d0 := (HBW.cell (World.block_lt_of_cell? w _ c0)).trans c0
 have d1 := (HBW.cell (World.block_lt_of_cell? w _ c1)).trans c1
 have d2 := (HBW.cell (World.block_lt_of_cell? w _ c2)).trans c2
 clear HB BK
 go_wp2
 repeat (go_quiet (fail); try go_wp2)
 go_ret
 exact ⟨rfl, by first | exact HBW | (apply wN; exact HBW) | (apply wD; exact HBW)⟩
def Short (a b c n : Nat) : Prop := n < Lib.firstT a % 8 ∧ (1 < n → Lib.accLo (Lib.firstT a / 16) ≤ b ∧ b ≤ Lib.accHi (Lib.firstT a / 16)) ∧ (2 < n → 128 ≤ c ∧ c ≤ 191)
instance (a b c n : Nat) : Decidable (Short a b c n) := by unfold Short; infer_instance
theorem full_calls (o g cap n a b c : Nat) (w : World) (hT : Tab w) (h1 : 1 ≤ n) (ha : a < 256) (hb : b < 256) (hc : c < 256) (c0 : w.cell? ⟨g, o, none⟩ = some (.int .u8 (a : Int))) (c1 : 1 < n → w.cell? ⟨g, o + 1, none⟩ = some (.int .u8 (b : Int))) (c2 : 2 < n → w.cell? ⟨g, o + 2, none⟩ = some (.int .u8 (c : Int))) :
  Calls Tryz.prog 105 #[.slice (some ⟨g, o, none⟩) n cap] w fun e w' => e = .returned (.bool (!decide (Short a b c n))) ∧ Below w.heap.size w w' := by
 rcases Lib.firstT_cases a with hx | hx | hx | hx | hx | hx | hx | hx | hx
 ·rw [decide_eq_false (show ¬ Short a b c n from fun h => by have h0 := h.1; rw [hx] at h0; omega)]
  exact full_240 o g cap a w hT n (by omega) h1 ha c0 hx
 ·rw [decide_eq_false (show ¬ Short a b c n from fun h => by have h0 := h.1; rw [hx] at h0; omega)]
  exact full_241 o g cap a w hT n (by omega) h1 ha c0 hx
 ·have el : Lib.accLo (2 / 16) = 128 := by decide
  have eh : Lib.accHi (2 / 16) = 191 := by decide
  by_cases hn : 2 ≤ n
  ·rw [decide_eq_false (show ¬ Short a b c n from fun h => by have h0 := h.1; rw [hx] at h0; omega)]
   exact full_2 o g cap a w hT n hn h1 ha c0 hx
  ·obtain rfl : n = 1 := by omega
   rw [decide_eq_true (show Short a b c 1 from by unfold Short; rw [hx, el, eh]; refine ⟨by omega, fun _ => ?_, fun _ => ?_⟩ <;> omega)]
   exact short_2_1 o g cap a w hT ha c0 hx
 ·have el : Lib.accLo (19 / 16) = 160 := by decide
  have eh : Lib.accHi (19 / 16) = 191 := by decide
  by_cases hn : 3 ≤ n
  ·rw [decide_eq_false (show ¬ Short a b c n from fun h => by have h0 := h.1; rw [hx] at h0; omega)]
   exact full_19 o g cap a w hT n hn h1 ha c0 hx
  ·rcases (show n = 1 ∨ n = 2 by omega) with rfl | rfl
   ·rw [decide_eq_true (show Short a b c 1 from by unfold Short; rw [hx, el, eh]; refine ⟨by omega, fun _ => ?_, fun _ => ?_⟩ <;> omega)]
    exact short_19_1 o g cap a w hT ha c0 hx
   ·by_cases p0 : (b : Int) < 160
    ·rw [decide_eq_false (show ¬ Short a b c 2 from fun h => by unfold Short at h; rw [hx, el, eh] at h; have := h.2; omega)]
     exact s_19_2_lo o g cap a b w hT ha c0 hb (c1 (by omega)) hx p0
    by_cases p1 : 191 < (b : Int)
    ·rw [decide_eq_false (show ¬ Short a b c 2 from fun h => by unfold Short at h; rw [hx, el, eh] at h; have := h.2; omega)]
     exact s_19_2_hi o g cap a b w hT ha c0 hb (c1 (by omega)) hx p0 p1
    rw [decide_eq_true (show Short a b c 2 from by unfold Short; rw [hx, el, eh]; refine ⟨by omega, fun _ => ?_, fun _ => ?_⟩ <;> omega)]
    exact s_19_2_ok o g cap a b w hT ha c0 hb (c1 (by omega)) hx p0 p1
 ·have el : Lib.accLo (3 / 16) = 128 := by decide
  have eh : Lib.accHi (3 / 16) = 191 := by decide
  by_cases hn : 3 ≤ n
  ·rw [decide_eq_false (show ¬ Short a b c n from fun h => by have h0 := h.1; rw [hx] at h0; omega)]
   exact full_3 o g cap a w hT n hn h1 ha c0 hx
  ·rcases (show n = 1 ∨ n = 2 by omega) with rfl | rfl
   ·rw [decide_eq_true (show Short a b c 1 from by unfold Short; rw [hx, el, eh]; refine ⟨by omega, fun _ => ?_, fun _ => ?_⟩ <;> omega)]
    exact short_3_1 o g cap a w hT ha c0 hx
   ·by_cases p0 : (b : Int) < 128
    ·rw [decide_eq_false (show ¬ Short a b c 2 from fun h => by unfold Short at h; rw [hx, el, eh] at h; have := h.2; omega)]
     exact s_3_2_lo o g cap a b w hT ha c0 hb (c1 (by omega)) hx p0
    by_cases p1 : 191 < (b : Int)
    ·rw [decide_eq_false (show ¬ Short a b c 2 from fun h => by unfold Short at h; rw [hx, el, eh] at h; have := h.2; omega)]
     exact s_3_2_hi o g cap a b w hT ha c0 hb (c1 (by omega)) hx p0 p1
    rw [decide_eq_true (show Short a b c 2 from by unfold Short; rw [hx, el, eh]; refine ⟨by omega, fun _ => ?_, fun _ => ?_⟩ <;> omega)]
    exact s_3_2_ok o g cap a b w hT ha c0 hb (c1 (by omega)) hx p0 p1
 ·have el : Lib.accLo (35 / 16) = 128 := by decide
  have eh : Lib.accHi (35 / 16) = 159 := by decide
  by_cases hn : 3 ≤ n
  ·rw [decide_eq_false (show ¬ Short a b c n from fun h => by have h0 := h.1; rw [hx] at h0; omega)]
   exact full_35 o g cap a w hT n hn h1 ha c0 hx
  ·rcases (show n = 1 ∨ n = 2 by omega) with rfl | rfl
   ·rw [decide_eq_true (show Short a b c 1 from by unfold Short; rw [hx, el, eh]; refine ⟨by omega, fun _ => ?_, fun _ => ?_⟩ <;> omega)]
    exact short_35_1 o g cap a w hT ha c0 hx
   ·by_cases p0 : (b : Int) < 128
    ·rw [decide_eq_false (show ¬ Short a b c 2 from fun h => by unfold Short at h; rw [hx, el, eh] at h; have := h.2; omega)]
     exact s_35_2_lo o g cap a b w hT ha c0 hb (c1 (by omega)) hx p0
    by_cases p1 : 159 < (b : Int)
    ·rw [decide_eq_false (show ¬ Short a b c 2 from fun h => by unfold Short at h; rw [hx, el, eh] at h; have := h.2; omega)]
     exact s_35_2_hi o g cap a b w hT ha c0 hb (c1 (by omega)) hx p0 p1
    rw [decide_eq_true (show Short a b c 2 from by unfold Short; rw [hx, el, eh]; refine ⟨by omega, fun _ => ?_, fun _ => ?_⟩ <;> omega)]
    exact s_35_2_ok o g cap a b w hT ha c0 hb (c1 (by omega)) hx p0 p1
 ·have el : Lib.accLo (52 / 16) = 144 := by decide
  have eh : Lib.accHi (52 / 16) = 191 := by decide
  by_cases hn : 4 ≤ n
  ·rw [decide_eq_false (show ¬ Short a b c n from fun h => by have h0 := h.1; rw [hx] at h0; omega)]
   exact full_52 o g cap a w hT n hn h1 ha c0 hx
  ·rcases (show n = 1 ∨ n = 2 ∨ n = 3 by omega) with rfl | rfl | rfl
   ·rw [decide_eq_true (show Short a b c 1 from by unfold Short; rw [hx, el, eh]; refine ⟨by omega, fun _ => ?_, fun _ => ?_⟩ <;> omega)]
    exact short_52_1 o g cap a w hT ha c0 hx
   ·by_cases p0 : (b : Int) < 144
    ·rw [decide_eq_false (show ¬ Short a b c 2 from fun h => by unfold Short at h; rw [hx, el, eh] at h; have := h.2; omega)]
     exact s_52_2_lo o g cap a b w hT ha c0 hb (c1 (by omega)) hx p0
    by_cases p1 : 191 < (b : Int)
    ·rw [decide_eq_false (show ¬ Short a b c 2 from fun h => by unfold Short at h; rw [hx, el, eh] at h; have := h.2; omega)]
     exact s_52_2_hi o g cap a b w hT ha c0 hb (c1 (by omega)) hx p0 p1
    rw [decide_eq_true (show Short a b c 2 from by unfold Short; rw [hx, el, eh]; refine ⟨by omega, fun _ => ?_, fun _ => ?_⟩ <;> omega)]
    exact s_52_2_ok o g cap a b w hT ha c0 hb (c1 (by omega)) hx p0 p1
   ·by_cases p0 : (b : Int) < 144
    ·rw [decide_eq_false (show ¬ Short a b c 3 from fun h => by unfold Short at h; rw [hx, el, eh] at h; have := h.2; omega)]
     exact s_52_3_lo o g cap a b c w hT ha c0 hb (c1 (by omega)) hc (c2 (by omega)) hx p0
    by_cases p1 : 191 < (b : Int)
    ·rw [decide_eq_false (show ¬ Short a b c 3 from fun h => by unfold Short at h; rw [hx, el, eh] at h; have := h.2; omega)]
     exact s_52_3_hi o g cap a b c w hT ha c0 hb (c1 (by omega)) hc (c2 (by omega)) hx p0 p1
    by_cases p2 : (c : Int) < 128
    ·rw [decide_eq_false (show ¬ Short a b c 3 from fun h => by unfold Short at h; rw [hx, el, eh] at h; have := h.2; omega)]
     exact s_52_3_lo2 o g cap a b c w hT ha c0 hb (c1 (by omega)) hc (c2 (by omega)) hx p0 p1 p2
    by_cases p3 : 191 < (c : Int)
    ·rw [decide_eq_false (show ¬ Short a b c 3 from fun h => by unfold Short at h; rw [hx, el, eh] at h; have := h.2; omega)]
     exact s_52_3_hi2 o g cap a b c w hT ha c0 hb (c1 (by omega)) hc (c2 (by omega)) hx p0 p1 p2 p3
    rw [decide_eq_true (show Short a b c 3 from by unfold Short; rw [hx, el, eh]; refine ⟨by omega, fun _ => ?_, fun _ => ?_⟩ <;> omega)]
    exact s_52_3_ok o g cap a b c w hT ha c0 hb (c1 (by omega)) hc (c2 (by omega)) hx p0 p1 p2 p3
 ·have el : Lib.accLo (4 / 16) = 128 := by decide
  have eh : Lib.accHi (4 / 16) = 191 := by decide
  by_cases hn : 4 ≤ n
  ·rw [decide_eq_false (show ¬ Short a b c n from fun h => by have h0 := h.1; rw [hx] at h0; omega)]
   exact full_4 o g cap a w hT n hn h1 ha c0 hx
  ·rcases (show n = 1 ∨ n = 2 ∨ n = 3 by omega) with rfl | rfl | rfl
   ·rw [decide_eq_true (show Short a b c 1 from by unfold Short; rw [hx, el, eh]; refine ⟨by omega, fun _ => ?_, fun _ => ?_⟩ <;> omega)]
    exact short_4_1 o g cap a w hT ha c0 hx
   ·by_cases p0 : (b : Int) < 128
    ·rw [decide_eq_false (show ¬ Short a b c 2 from fun h => by unfold Short at h; rw [hx, el, eh] at h; have := h.2; omega)]
     exact s_4_2_lo o g cap a b w hT ha c0 hb (c1 (by omega)) hx p0
    by_cases p1 : 191 < (b : Int)
    ·rw [decide_eq_false (show ¬ Short a b c 2 from fun h => by unfold Short at h; rw [hx, el, eh] at h; have := h.2; omega)]
     exact s_4_2_hi o g cap a b w hT ha c0 hb (c1 (by omega)) hx p0 p1
    rw [decide_eq_true (show Short a b c 2 from by unfold Short; rw [hx, el, eh]; refine ⟨by omega, fun _ => ?_, fun _ => ?_⟩ <;> omega)]
    exact s_4_2_ok o g cap a b w hT ha c0 hb (c1 (by omega)) hx p0 p1
   ·by_cases p0 : (b : Int) < 128
    ·rw [decide_eq_false (show ¬ Short a b c 3 from fun h => by unfold Short at h; rw [hx, el, eh] at h; have := h.2; omega)]
     exact s_4_3_lo o g cap a b c w hT ha c0 hb (c1 (by omega)) hc (c2 (by omega)) hx p0
    by_cases p1 : 191 < (b : Int)
    ·rw [decide_eq_false (show ¬ Short a b c 3 from fun h => by unfold Short at h; rw [hx, el, eh] at h; have := h.2; omega)]
     exact s_4_3_hi o g cap a b c w hT ha c0 hb (c1 (by omega)) hc (c2 (by omega)) hx p0 p1
    by_cases p2 : (c : Int) < 128
    ·rw [decide_eq_false (show ¬ Short a b c 3 from fun h => by unfold Short at h; rw [hx, el, eh] at h; have := h.2; omega)]
     exact s_4_3_lo2 o g cap a b c w hT ha c0 hb (c1 (by omega)) hc (c2 (by omega)) hx p0 p1 p2
    by_cases p3 : 191 < (c : Int)
    ·rw [decide_eq_false (show ¬ Short a b c 3 from fun h => by unfold Short at h; rw [hx, el, eh] at h; have := h.2; omega)]
     exact s_4_3_hi2 o g cap a b c w hT ha c0 hb (c1 (by omega)) hc (c2 (by omega)) hx p0 p1 p2 p3
    rw [decide_eq_true (show Short a b c 3 from by unfold Short; rw [hx, el, eh]; refine ⟨by omega, fun _ => ?_, fun _ => ?_⟩ <;> omega)]
    exact s_4_3_ok o g cap a b c w hT ha c0 hb (c1 (by omega)) hc (c2 (by omega)) hx p0 p1 p2 p3
 ·have el : Lib.accLo (68 / 16) = 128 := by decide
  have eh : Lib.accHi (68 / 16) = 143 := by decide
  by_cases hn : 4 ≤ n
  ·rw [decide_eq_false (show ¬ Short a b c n from fun h => by have h0 := h.1; rw [hx] at h0; omega)]
   exact full_68 o g cap a w hT n hn h1 ha c0 hx
  ·rcases (show n = 1 ∨ n = 2 ∨ n = 3 by omega) with rfl | rfl | rfl
   ·rw [decide_eq_true (show Short a b c 1 from by unfold Short; rw [hx, el, eh]; refine ⟨by omega, fun _ => ?_, fun _ => ?_⟩ <;> omega)]
    exact short_68_1 o g cap a w hT ha c0 hx
   ·by_cases p0 : (b : Int) < 128
    ·rw [decide_eq_false (show ¬ Short a b c 2 from fun h => by unfold Short at h; rw [hx, el, eh] at h; have := h.2; omega)]
     exact s_68_2_lo o g cap a b w hT ha c0 hb (c1 (by omega)) hx p0
    by_cases p1 : 143 < (b : Int)
    ·rw [decide_eq_false (show ¬ Short a b c 2 from fun h => by unfold Short at h; rw [hx, el, eh] at h; have := h.2; omega)]
     exact s_68_2_hi o g cap a b w hT ha c0 hb (c1 (by omega)) hx p0 p1
    rw [decide_eq_true (show Short a b c 2 from by unfold Short; rw [hx, el, eh]; refine ⟨by omega, fun _ => ?_, fun _ => ?_⟩ <;> omega)]
    exact s_68_2_ok o g cap a b w hT ha c0 hb (c1 (by omega)) hx p0 p1
   ·by_cases p0 : (b : Int) < 128
    ·rw [decide_eq_false (show ¬ Short a b c 3 from fun h => by unfold Short at h; rw [hx, el, eh] at h; have := h.2; omega)]
     exact s_68_3_lo o g cap a b c w hT ha c0 hb (c1 (by omega)) hc (c2 (by omega)) hx p0
    by_cases p1 : 143 < (b : Int)
    ·rw [decide_eq_false (show ¬ Short a b c 3 from fun h => by unfold Short at h; rw [hx, el, eh] at h; have := h.2; omega)]
     exact s_68_3_hi o g cap a b c w hT ha c0 hb (c1 (by omega)) hc (c2 (by omega)) hx p0 p1
    by_cases p2 : (c : Int) < 128
    ·rw [decide_eq_false (show ¬ Short a b c 3 from fun h => by unfold Short at h; rw [hx, el, eh] at h; have := h.2; omega)]
     exact s_68_3_lo2 o g cap a b c w hT ha c0 hb (c1 (by omega)) hc (c2 (by omega)) hx p0 p1 p2
    by_cases p3 : 191 < (c : Int)
    ·rw [decide_eq_false (show ¬ Short a b c 3 from fun h => by unfold Short at h; rw [hx, el, eh] at h; have := h.2; omega)]
     exact s_68_3_hi2 o g cap a b c w hT ha c0 hb (c1 (by omega)) hc (c2 (by omega)) hx p0 p1 p2 p3
    rw [decide_eq_true (show Short a b c 3 from by unfold Short; rw [hx, el, eh]; refine ⟨by omega, fun _ => ?_, fun _ => ?_⟩ <;> omega)]
    exact s_68_3_ok o g cap a b c w hT ha c0 hb (c1 (by omega)) hc (c2 (by omega)) hx p0 p1 p2 p3
end Go.Proofs.YtdjkdlbokepoaaaGreatDoor.P.Sc
