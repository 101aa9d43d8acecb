-- Written by wip/tools/myprint.py of this session over the kit's print; Lean checks it.
import Derived.WalkMore
import Derived.Test.YtnkfdobcmfdhfaaDoorPx0
import Derived.Test.YtnkfdobcmfdhfaaDoorPx2
import Derived.Test.YtnkfdobcmfdhfaaDoorPx3
namespace Go.Proofs.YtnkfdobcmfdhfaaDoor.P
open Go.RowKit Go.Proofs.YtnkfdobcmfdhfaaDoorW.PrintWords Go.Proofs.YtnkfdobcmfdhfaaDoorW.PrintLast Go.Proofs.YtnkfdobcmfdhfaaDoorW.PrintMore
attribute [local go_sem] max2_int min2_int max_two min_two max_three min_three max_four min_four   -- for this text's walks alone
set_option linter.unusedVariables false
set_option linter.unusedSimpArgs false

/-! ### spans_Nest: function 15 -/
mutual
def spans_Nest.l0 : Nat → List (S24) → List Int → List (S24) → Int → Int → Option (List Int × Int × Int)
  | 0, _, _, _, _, _ => none
  | k + 1, x0, x2, x16, x17, x18 => if x18 < x17 then (if 0 ≤ x18 then (if x18 < (x16.length : Int) then ((spans_spans.f k (([(⟨(rd_T24 x16 x18).f0, (rd_T24 x16 x18).f1⟩ : S24)] : List (S24)))).bind fun t125 => (if t125 = true then (spans_Nest.l0 k x0 x2 x16 x17 (wrap64 (x18 + 1))) else (some (([] : List Int), x18, 6)))) else (none)) else (none)) else (spans_Nest.l1 k x0 x2 ([] : List Int) 0 x0 (x0.length : Int) 0)
def spans_Nest.l1 : Nat → List (S24) → List Int → List Int → Int → List (S24) → Int → Int → Option (List Int × Int × Int)
  | 0, _, _, _, _, _, _, _ => none
  | k + 1, x0, x2, x7, x8, x29, x30, x31 => if x31 < x30 then (if 0 ≤ x31 then (if x31 < (x29.length : Int) then (spans_Nest.l2 k x0 x2 x7 x8 x31 (x7.length : Int) x29 x30 x31 ((rd_T24 x29 x31).f0) ((rd_T24 x29 x31).f1)) else (none)) else (none)) else (some (x2, 0, 0))
def spans_Nest.l2 : Nat → List (S24) → List Int → List Int → Int → Int → Int → List (S24) → Int → Int → Int → Int → Option (List Int × Int × Int)
  | 0, _, _, _, _, _, _, _, _, _, _, _ => none
  | k + 1, x0, x2, x7, x8, x9, x11, x29, x30, x31, x128000, x128001 => if x11 > 0 then (if 0 ≤ (wrap64 (x11 - 1)) then (if (wrap64 (x11 - 1)) < (x7.length : Int) then (if 0 ≤ (rd x7 (wrap64 (x11 - 1))) then (if (rd x7 (wrap64 (x11 - 1))) < (x0.length : Int) then ((spans_within.f x128000 x128001 ((rd_T24 x0 (rd x7 (wrap64 (x11 - 1)))).f0) ((rd_T24 x0 (rd x7 (wrap64 (x11 - 1)))).f1)).bind fun t137 => (if t137 = true then (if x128000 < x8 then (some (([] : List Int), x9, 6)) else (if x2.length < 17592186044416 then (if x7.length < 17592186044416 then (spans_Nest.l1 k x0 (x2 ++ [rd x7 (wrap64 (x11 - 1))]) (x7 ++ [x9]) x8 x29 x30 (wrap64 (x31 + 1))) else (none)) else (none))) else ((spans_before.f ((rd_T24 x0 (rd x7 (wrap64 (x11 - 1)))).f0) ((rd_T24 x0 (rd x7 (wrap64 (x11 - 1)))).f1) x128000 x128001).bind fun t145 => (if t145 = true then (if (wrap64 (x11 - 1)) ≤ (x7.length : Int) then (spans_Nest.l2 k x0 x2 (x7.take ((wrap64 (x11 - 1)) : Int).toNat) (mx x8 ((rd_T24 x0 (rd x7 (wrap64 (x11 - 1)))).f1)) x9 (wrap64 (x11 - 1)) x29 x30 x31 x128000 x128001) else (none)) else (some (([] : List Int), x9, 6)))))) else (none)) else (none)) else (none)) else (none)) else (if x128000 < x8 then (some (([] : List Int), x9, 6)) else (if x2.length < 17592186044416 then (if x7.length < 17592186044416 then (spans_Nest.l1 k x0 (x2 ++ [(-1)]) (x7 ++ [x9]) x8 x29 x30 (wrap64 (x31 + 1))) else (none)) else (none)))
end
def spans_Nest.f (k : Nat) (l0 : List (S24)) : Option (List Int × Int × Int) := if (l0.length : Int) > 2000 then (some (([] : List Int), 0, 3)) else (spans_Nest.l0 k l0 ([] : List Int) l0 (l0.length : Int) 0)
theorem spans_Nest.mono_l : ∀ k, (∀ y0 y1 y2 y3 y4, LeO (spans_Nest.l0 k y0 y1 y2 y3 y4) (spans_Nest.l0 (k + 1) y0 y1 y2 y3 y4)) ∧ (∀ y0 y1 y2 y3 y4 y5 y6, LeO (spans_Nest.l1 k y0 y1 y2 y3 y4 y5 y6) (spans_Nest.l1 (k + 1) y0 y1 y2 y3 y4 y5 y6)) ∧ (∀ y0 y1 y2 y3 y4 y5 y6 y7 y8 y9 y10, LeO (spans_Nest.l2 k y0 y1 y2 y3 y4 y5 y6 y7 y8 y9 y10) (spans_Nest.l2 (k + 1) y0 y1 y2 y3 y4 y5 y6 y7 y8 y9 y10))
  | 0 => ⟨fun _ _ _ _ _ r h => by simp [spans_Nest.l0] at h, fun _ _ _ _ _ _ _ r h => by simp [spans_Nest.l1] at h, fun _ _ _ _ _ _ _ _ _ _ _ r h => by simp [spans_Nest.l2] at h⟩
  | k + 1 => by
    obtain ⟨ih0, ih1, ih2⟩ := spans_Nest.mono_l k
    refine ⟨?_, ?_, ?_⟩
    · intro y0 y1 y2 y3 y4
      unfold spans_Nest.l0
      repeat' first
      | (with_reducible exact ih0 _ _ _ _ _)
      | (with_reducible exact ih1 _ _ _ _ _ _ _)
      | (with_reducible exact ih2 _ _ _ _ _ _ _ _ _ _ _)
      | (with_reducible exact spans_spans.mono _ _)
      | (with_reducible exact LeO.refl _)
      | (with_reducible exact LeO.none _)
      | (with_reducible refine LeO.ite ?_ ?_)
      | (with_reducible refine LeO.bind ?_ (fun _ => ?_))
      | exact ih0 _ _ _ _ _
      | exact ih1 _ _ _ _ _ _ _
      | exact ih2 _ _ _ _ _ _ _ _ _ _ _
      | exact spans_spans.mono _ _
      | exact LeO.none _
      | refine LeO.ite ?_ ?_
      | refine LeO.bind ?_ (fun _ => ?_)
    · intro y0 y1 y2 y3 y4 y5 y6
      unfold spans_Nest.l1
      repeat' first
      | (with_reducible exact ih0 _ _ _ _ _)
      | (with_reducible exact ih1 _ _ _ _ _ _ _)
      | (with_reducible exact ih2 _ _ _ _ _ _ _ _ _ _ _)
      | (with_reducible exact spans_spans.mono _ _)
      | (with_reducible exact LeO.refl _)
      | (with_reducible exact LeO.none _)
      | (with_reducible refine LeO.ite ?_ ?_)
      | (with_reducible refine LeO.bind ?_ (fun _ => ?_))
      | exact ih0 _ _ _ _ _
      | exact ih1 _ _ _ _ _ _ _
      | exact ih2 _ _ _ _ _ _ _ _ _ _ _
      | exact spans_spans.mono _ _
      | exact LeO.none _
      | refine LeO.ite ?_ ?_
      | refine LeO.bind ?_ (fun _ => ?_)
    · intro y0 y1 y2 y3 y4 y5 y6 y7 y8 y9 y10
      unfold spans_Nest.l2
      repeat' first
      | (with_reducible exact ih0 _ _ _ _ _)
      | (with_reducible exact ih1 _ _ _ _ _ _ _)
      | (with_reducible exact ih2 _ _ _ _ _ _ _ _ _ _ _)
      | (with_reducible exact spans_spans.mono _ _)
      | (with_reducible exact LeO.refl _)
      | (with_reducible exact LeO.none _)
      | (with_reducible refine LeO.ite ?_ ?_)
      | (with_reducible refine LeO.bind ?_ (fun _ => ?_))
      | exact ih0 _ _ _ _ _
      | exact ih1 _ _ _ _ _ _ _
      | exact ih2 _ _ _ _ _ _ _ _ _ _ _
      | exact spans_spans.mono _ _
      | exact LeO.none _
      | refine LeO.ite ?_ ?_
      | refine LeO.bind ?_ (fun _ => ?_)
theorem spans_Nest.mono : ∀ a0 k, LeO (spans_Nest.f k a0) (spans_Nest.f (k + 1) a0) := by
  intro a0 k
  obtain ⟨ih0, ih1, ih2⟩ := spans_Nest.mono_l k
  unfold spans_Nest.f
  repeat' first
      | (with_reducible exact ih0 _ _ _ _ _)
      | (with_reducible exact ih1 _ _ _ _ _ _ _)
      | (with_reducible exact ih2 _ _ _ _ _ _ _ _ _ _ _)
      | (with_reducible exact spans_spans.mono _ _)
      | (with_reducible exact LeO.refl _)
      | (with_reducible exact LeO.none _)
      | (with_reducible refine LeO.ite ?_ ?_)
      | (with_reducible refine LeO.bind ?_ (fun _ => ?_))
      | exact ih0 _ _ _ _ _
      | exact ih1 _ _ _ _ _ _ _
      | exact ih2 _ _ _ _ _ _ _ _ _ _ _
      | exact spans_spans.mono _ _
      | exact LeO.none _
      | refine LeO.ite ?_ ?_
      | refine LeO.bind ?_ (fun _ => ?_)
theorem ngr {Q : Exit → Act → World → Prop} {a : Act} {w : World} (h : Q .ret a w) : Exit.noGoto Q .ret a w := h
set_option maxHeartbeats 8000000 in
set_option maxRecDepth 100000 in
theorem spans_Nest.calls (k : Nat) (A0 : Option Addr) (c0 : Nat) (l0 : List (S24)) (r1 : List Int) (r2 : Int) (r3 : Int) (w : World) (hr0 : Kd.C k24 w A0 l0.length l0) (hc0 : l0.length ≤ c0) (h : spans_Nest.f k l0 = some (r1, r2, r3)) :
    Calls Tryd.prog 15 #[.slice A0 l0.length c0] w fun e w' => ∃ v0_ : Value, e = .returned (.tuple #[v0_, .int .i64 r2, .int .i64 r3]) ∧ Kd.R (Kd.int .i64) 3 w' w.heap.size (fun _ => True) v0_ r1 ∧ Below w.heap.size w w' := by
  have hu24 := Tryd.underlying24
  have HR0 := ak hr0
  have HC0 := ak hc0
  clear hr0 hc0
  have HB := ak (Below.refl w.heap.size w)
  have H : (if (l0.length : Int) > 2000 then (some (([] : List Int), 0, 3)) else (spans_Nest.l0 k l0 ([] : List Int) l0 (l0.length : Int) 0)) = some (r1, r2, r3) := h
  clear h
  by_cases c2 : (l0.length : Int) > 2000
  · rw [if_pos c2] at H
    have c2b0 : decide (2000 < (l0.length : Int)) = true := decide_eq_true c2
    have c2b1 : decide (2000 < l0.length) = true := decide_eq_true (by omega)
    clear c2
    simp only [Option.some.injEq, Prod.mk.injEq] at H
    obtain ⟨rfl, rfl, rfl⟩ := H
    go_enter Tryd.func15, Tryd.ntmps15
    go_wp2
    go_step3
    go_wp2
    (first | refine ngr ?_ | skip)
    go_ret3
    exact ⟨_, by first | rfl | (simp [errW_none, errW_some] <;> rfl) | (simp [*, errW_none, errW_some] <;> rfl), by first | exact Kd.R_nil _ _ _ _ _ | exact Kd.N_nil _ _ _ _ _ | exact Kd.V_nil _ _ _ _ _ | exact Kd.Q_nil _ _ _ _ _ | exact Kd.S_nil _ _ _ _ _, by repeat (first | (with_reducible first | exact HB.out | apply wA | apply wN | apply wD) | exact HB.out)⟩
  · rw [if_neg c2] at H
    have c2b0 : decide (2000 < (l0.length : Int)) = false := decide_eq_false c2
    have c2b1 : decide (2000 < l0.length) = false := decide_eq_false (by omega)
    clear c2
    have H' := ak H
    clear H
    go_enter Tryd.func15, Tryd.ntmps15
    go_wp2
    go_step3
    go_wp2
    go_loopg [2, 18] k (fun kq v2 v18 w' => ∃ (x2_1 : List Int) (x18_1 : Int), v18 = .int .i64 x18_1 ∧ Aside0 (spans_Nest.l0 kq l0 x2_1 l0 (l0.length : Int) x18_1 = some (r1, r2, r3)) ∧ Aside0 (kq ≤ k) ∧ Aside0 (Kd.R (Kd.int .i64) 3 w' w.heap.size (fun _ => True) v2 x2_1) ∧ Aside0 (Below w.heap.size w w'))
    case atStart => exact ⟨(([] : List Int)), (0), (by first | rfl | (simp; done) | (simp [*]; done)), H', ⟨Nat.le_refl _⟩, ⟨by first | exact Kd.R_nil _ _ _ _ _ | exact Kd.N_nil _ _ _ _ _ | exact Kd.V_nil _ _ _ _ _ | exact Kd.Q_nil _ _ _ _ _ | exact Kd.S_nil _ _ _ _ _⟩, ⟨by repeat (first | (with_reducible first | exact HB.out | apply wA | apply wN | apply wD) | exact HB.out)⟩⟩
    case round =>
      clear H'
      try clear c1
      try clear c2
      try clear c2b0
      try clear c2b1
      try clear p2
      obtain ⟨x2_1, x18_1, rfl, HA, HK1, HO_2, HB⟩ := hrel
      cases gk with
      | zero => exact absurd HA.out (by simp [spans_Nest.l0])
      | succ k1 =>
        have H := HA.out
        clear HA
        simp only [spans_Nest.l0] at H
        by_cases c3 : x18_1 < (l0.length : Int)
        · rw [if_pos c3] at H
          have c3b0 : decide (x18_1 < (l0.length : Int)) = true := decide_eq_true c3
          clear c3
          by_cases c4 : 0 ≤ x18_1
          · rw [if_pos c4] at H
            have c4b0 : decide (0 ≤ x18_1) = true := decide_eq_true c4
            clear c4
            by_cases c5 : x18_1 < (l0.length : Int)
            · rw [if_pos c5] at H
              have c5b0 : decide (x18_1 < (l0.length : Int)) = true := decide_eq_true c5
              clear c5
              obtain ⟨y122, hy122⟩ : ∃ y_ : List (S24), y_ = (([(⟨(rd_T24 l0 x18_1).f0, (rd_T24 l0 x18_1).f1⟩ : S24)] : List (S24))) := ⟨_, rfl⟩
              replace H : ((spans_spans.f k1 y122).bind fun t125 => (if t125 = true then (spans_Nest.l0 k1 l0 x2_1 l0 (l0.length : Int) (wrap64 (x18_1 + 1))) else (some (([] : List Int), x18_1, 6)))) = some (r1, r2, r3) := by first | (rw [hy122]; with_reducible exact H) | (have H2_ := (Option.bind_some _ _).symm.trans H; rw [hy122]; with_reducible exact H2_) | (have H2_ := (Option.bind_some _ _).symm.trans H; with_reducible exact H2_) | with_reducible exact H | (rw [hy122]; exact H) | exact H
              have Ny122 := ak hy122
              clear hy122
              replace H := Option.bind_eq_some_iff.mp H
              obtain ⟨t125, A60, H⟩ := H
              replace H : (if t125 = true then (spans_Nest.l0 k1 l0 x2_1 l0 (l0.length : Int) (wrap64 (x18_1 + 1))) else (some (([] : List Int), x18_1, 6))) = some (r1, r2, r3) := H
              have A6 := ak A60
              clear A60
              by_cases c7 : t125 = true
              · subst c7
                have H1 : (spans_Nest.l0 k1 l0 x2_1 l0 (l0.length : Int) (wrap64 (x18_1 + 1))) = some (r1, r2, r3) := by rw [if_pos rfl] at H; exact H
                clear H
                have H := H1
                clear H1
                have H' := ak H
                clear H
                have p120 : 0 ≤ (x18_1 : Int) := of_decide_eq_true (by first | (with_reducible assumption) | assumption)
                have q120 : x18_1 < (l0.length : Int) := of_decide_eq_true (by first | (with_reducible assumption) | assumption)
                obtain ⟨ad120, e120, hx120_0, hx120_1⟩ := at_T24 HR0.out x18_1 p120 q120
                cases e120
                replace hx120_0 := (HB.out.cell (World.block_lt_of_cell? w _ hx120_0)).trans hx120_0
                replace hx120_1 := (HB.out.cell (World.block_lt_of_cell? w _ hx120_1)).trans hx120_1
                replace p120 := eq_true p120
                replace q120 := eq_true q120
                go_wp2_with (first | ((with_reducible refine gate_dst (N := 6) rfl ?_); refine box_event ?hg (N := 6) ?hd (cs := #[.int .i64 0, .int .i64 0]) (t := 24) ?hr ?_; (case hd => rfl); (case hg => rfl); (case hr => first | (go_simp; done) | (go_simp; rfl)); intro gb121 hg w8 hbox hb; have n0_ := ak (Kd.R_below (by (with_reducible repeat (first | apply Kd.R_alloc | apply Kd.R_drewN | apply Kd.R_drew)); exact HO_2.out) hb); have n1_ := ak (below_step (by repeat (first | (with_reducible first | exact HB.out | apply wA | apply wN | apply wD) | exact HB.out)) hb); have n2_ := ak (hbox); have n3_ := ak ((by rw [hg]; exact (below_size (by repeat (first | (with_reducible first | exact HB.out | apply wA | apply wN | apply wD) | exact HB.out))) : w.heap.size ≤ gb121)); have n4_ := ak ((by rw [hg]; exact (below_size (by repeat (first | (with_reducible first | exact HB.out | apply wA | apply wN | apply wD) | exact HB.out))) : w.heap.size ≤ gb121)); clear HO_2; clear HB; have HO_2 := n0_; have HB := n1_; have BK121 := n2_; have GW121 := n3_; have GE121 := n4_; clear n0_ n1_ n2_ n3_ n4_; clear hb hbox hg; have hcz9_0 : w8.cell? ⟨gb121, 0, none⟩ = some (.int .i64 0) := (blk_cell BK121.out 0).trans rfl; have hcz9_1 : w8.cell? ⟨gb121, 1, none⟩ = some (.int .i64 0) := (blk_cell BK121.out 1).trans rfl; have hfz9_0 := blk_frozen BK121.out 0; have hfz9_1 := blk_frozen BK121.out 1) | ((with_reducible refine gate_dst (N := 24) rfl ?_); refine Kd.R_lit k24 _ 24 ?hg (N := 24) ?hd (xs := ([(⟨(rd_T24 l0 x18_1).f0, (rd_T24 l0 x18_1).f1⟩ : S24)] : List (S24))) (inner := [.int .i64 ((rd_T24 l0 x18_1).f0), .int .i64 ((rd_T24 l0 x18_1).f1)]) (ok := fun _ => True) (okp := fun _ => True) ?hr ?hp (fun _ hk => hk) trivial (Below.refl _ _) (Nat.le_refl _) (by simp) ?_; (case hd => rfl); (case hg => rfl); (case hr => first | (go_simp; done) | (go_simp; rfl)); (case hp => exact (Reps.c2 (show Kd.M k24 _ _ _ (⟨(rd_T24 l0 x18_1).f0, (rd_T24 l0 x18_1).f1⟩ : S24) [.int .i64 ((rd_T24 l0 x18_1).f0), .int .i64 ((rd_T24 l0 x18_1).f1)] from (k24_mkM _ _ _ (⟨(rd_T24 l0 x18_1).f0, (rd_T24 l0 x18_1).f1⟩ : S24) )) (Reps.none _ _))); intro v123 w10 ho11 hb hg_ hnew_; clear hg_ hnew_; (first | rw [← Ny122.out] at ho11 | (simp only [Int.reduceToNat] at ho11; rw [← Ny122.out] at ho11)); have n0_ := ak (Kd.R_below (by (with_reducible repeat (first | apply Kd.R_alloc | apply Kd.R_drewN | apply Kd.R_drew)); exact (Kd.R_mono (Kd.R_far (p := ⟨gb121, 1, none⟩) (Kd.R_far (p := ⟨gb121, 0, none⟩) (Kd.R_types HO_2.out BK121.out (by decide)) (fun _ hk => hk.2) (.int .i64 ((rd_T24 l0 x18_1).f0))) (fun _ hk => hk.2) (.int .i64 ((rd_T24 l0 x18_1).f1))) (fun _ h_ => h_.1))) hb); have n1_ := ak (Kd.R_lower (Kd.R_newB ho11 (g := gb121) (o := .cells #[.int .i64 ((rd_T24 l0 x18_1).f0), .int .i64 ((rd_T24 l0 x18_1).f1)] 24 (0, 0)) (by (with_reducible repeat (first | refine bN ?_ _ | refine bD ?_ | refine bA ?_ _)); refine blk_put (cs := #[.int .i64 ((rd_T24 l0 x18_1).f0), .int .i64 0]) ?_ 1 _ rfl; (with_reducible repeat (first | refine bN ?_ _ | refine bD ?_ | refine bA ?_ _)); refine blk_put (cs := #[.int .i64 0, .int .i64 0]) ?_ 0 _ rfl; (with_reducible repeat (first | refine bN ?_ _ | refine bD ?_ | refine bA ?_ _)); exact BK121.out)) (below_size (by repeat (first | (with_reducible first | exact HB.out | apply wA | apply wN | apply wD | refine below_set ?_ GE121.out) | exact HB.out)))); have n2_ := ak (blk_below (g := gb121) (o := .cells #[.int .i64 ((rd_T24 l0 x18_1).f0), .int .i64 ((rd_T24 l0 x18_1).f1)] 24 (0, 0)) (by (with_reducible repeat (first | refine bN ?_ _ | refine bD ?_ | refine bA ?_ _)); refine blk_put (cs := #[.int .i64 ((rd_T24 l0 x18_1).f0), .int .i64 0]) ?_ 1 _ rfl; (with_reducible repeat (first | refine bN ?_ _ | refine bD ?_ | refine bA ?_ _)); refine blk_put (cs := #[.int .i64 0, .int .i64 0]) ?_ 0 _ rfl; (with_reducible repeat (first | refine bN ?_ _ | refine bD ?_ | refine bA ?_ _)); exact BK121.out) hb); have n3_ := ak (below_step (by repeat (first | (with_reducible first | exact HB.out | apply wA | apply wN | apply wD | refine below_set ?_ GE121.out) | exact HB.out)) hb); clear HO_2; clear BK121; clear HB; have HO_2 := n0_; have HO124 := n1_; have BK121 := n2_; have HB := n3_; clear n0_ n1_ n2_ n3_; clear hb ho11; obtain ⟨Ao12, co12, eo12⟩ := Kd.R_slice HO124.out; subst eo12) | ((with_reducible refine gate_callee (f := 40) rfl ?_); refine goesL_ (some 25) rfl rfl Tryd.func40 (by kernel_rfl) rfl #[.slice Ao12 y122.length co12] rfl (by (try simp only [List.map_toArray, List.map_cons, List.map_nil]); first | done | rfl | (simp only [List.length_drop, List.length_take]; rfl)) ?_; (with_reducible refine (spans_spans.calls k1 _ _ y122 true _ ?side1 ?side2 A6.out).mono ?_); (case side1 => repeat (first | exact (Kd.R_reads' HO124.out).2.2 | (with_reducible refine Kd.C_alloc ?_ _) | (with_reducible refine Kd.C_drewN ?_ _) | (with_reducible refine Kd.C_drew ?_))); (case side2 => exact (Kd.R_reads' HO124.out).2.1); rintro e w13 ⟨rfl, hb⟩; refine ⟨_, rfl, ?_⟩; have n0_ := ak (Kd.R_below (by (with_reducible repeat (first | apply Kd.R_alloc | apply Kd.R_drewN | apply Kd.R_drew)); exact HO_2.out) hb); have n1_ := ak (Kd.R_below (by (with_reducible repeat (first | apply Kd.R_alloc | apply Kd.R_drewN | apply Kd.R_drew)); exact HO124.out) hb); have n2_ := ak (blk_below (g := gb121) (o := .cells #[.int .i64 ((rd_T24 l0 x18_1).f0), .int .i64 ((rd_T24 l0 x18_1).f1)] 24 (0, 0)) (by (with_reducible repeat (first | refine bN ?_ _ | refine bD ?_ | refine bA ?_ _)); exact BK121.out) hb); have n3_ := ak (below_step (by repeat (first | (with_reducible first | exact HB.out | apply wA | apply wN | apply wD | refine below_set ?_ GE121.out) | exact HB.out)) hb); clear HO_2; clear HO124; clear BK121; clear HB; have HO_2 := n0_; have HO124 := n1_; have BK121 := n2_; have HB := n3_; clear n0_ n1_ n2_ n3_; (try clear hb); (try clear hb2); (try clear hk); (try clear hi)))
                go_roundg k1
                case measure => have := HK1.out; omega
                case rel => exact ⟨(x2_1), (wrap64 (x18_1 + 1)), (by first | rfl | (simp; done) | (simp [*]; done)), H', ⟨by have := HK1.out; omega⟩, ⟨by (with_reducible repeat (first | apply Kd.R_alloc | apply Kd.R_drewN | apply Kd.R_drew)); exact HO_2.out⟩, ⟨by repeat (first | (with_reducible first | exact HB.out | apply wA | apply wN | apply wD | refine below_set ?_ GE121.out) | exact HB.out)⟩⟩
              · replace c7 := Bool.eq_false_iff.mpr c7
                subst c7
                have H1 : (some (([] : List Int), x18_1, 6)) = some (r1, r2, r3) := by rw [if_neg (show ¬ (false = true) by decide)] at H; exact H
                clear H
                have H := H1
                clear H1
                simp only [Option.some.injEq, Prod.mk.injEq] at H
                obtain ⟨rfl, rfl, rfl⟩ := H
                have p120 : 0 ≤ (x18_1 : Int) := of_decide_eq_true (by first | (with_reducible assumption) | assumption)
                have q120 : x18_1 < (l0.length : Int) := of_decide_eq_true (by first | (with_reducible assumption) | assumption)
                obtain ⟨ad120, e120, hx120_0, hx120_1⟩ := at_T24 HR0.out x18_1 p120 q120
                cases e120
                replace hx120_0 := (HB.out.cell (World.block_lt_of_cell? w _ hx120_0)).trans hx120_0
                replace hx120_1 := (HB.out.cell (World.block_lt_of_cell? w _ hx120_1)).trans hx120_1
                replace p120 := eq_true p120
                replace q120 := eq_true q120
                go_wp2_with (first | ((with_reducible refine gate_dst (N := 6) rfl ?_); refine box_event ?hg (N := 6) ?hd (cs := #[.int .i64 0, .int .i64 0]) (t := 24) ?hr ?_; (case hd => rfl); (case hg => rfl); (case hr => first | (go_simp; done) | (go_simp; rfl)); intro gb121 hg w14 hbox hb; have n0_ := ak (Kd.R_below (by (with_reducible repeat (first | apply Kd.R_alloc | apply Kd.R_drewN | apply Kd.R_drew)); exact HO_2.out) hb); have n1_ := ak (below_step (by repeat (first | (with_reducible first | exact HB.out | apply wA | apply wN | apply wD) | exact HB.out)) hb); have n2_ := ak (hbox); have n3_ := ak ((by rw [hg]; exact (below_size (by repeat (first | (with_reducible first | exact HB.out | apply wA | apply wN | apply wD) | exact HB.out))) : w.heap.size ≤ gb121)); have n4_ := ak ((by rw [hg]; exact (below_size (by repeat (first | (with_reducible first | exact HB.out | apply wA | apply wN | apply wD) | exact HB.out))) : w.heap.size ≤ gb121)); clear HO_2; clear HB; have HO_2 := n0_; have HB := n1_; have BK121 := n2_; have GW121 := n3_; have GE121 := n4_; clear n0_ n1_ n2_ n3_ n4_; clear hb hbox hg; have hcz15_0 : w14.cell? ⟨gb121, 0, none⟩ = some (.int .i64 0) := (blk_cell BK121.out 0).trans rfl; have hcz15_1 : w14.cell? ⟨gb121, 1, none⟩ = some (.int .i64 0) := (blk_cell BK121.out 1).trans rfl; have hfz15_0 := blk_frozen BK121.out 0; have hfz15_1 := blk_frozen BK121.out 1) | ((with_reducible refine gate_dst (N := 24) rfl ?_); refine Kd.R_lit k24 _ 24 ?hg (N := 24) ?hd (xs := ([(⟨(rd_T24 l0 x18_1).f0, (rd_T24 l0 x18_1).f1⟩ : S24)] : List (S24))) (inner := [.int .i64 ((rd_T24 l0 x18_1).f0), .int .i64 ((rd_T24 l0 x18_1).f1)]) (ok := fun _ => True) (okp := fun _ => True) ?hr ?hp (fun _ hk => hk) trivial (Below.refl _ _) (Nat.le_refl _) (by simp) ?_; (case hd => rfl); (case hg => rfl); (case hr => first | (go_simp; done) | (go_simp; rfl)); (case hp => exact (Reps.c2 (show Kd.M k24 _ _ _ (⟨(rd_T24 l0 x18_1).f0, (rd_T24 l0 x18_1).f1⟩ : S24) [.int .i64 ((rd_T24 l0 x18_1).f0), .int .i64 ((rd_T24 l0 x18_1).f1)] from (k24_mkM _ _ _ (⟨(rd_T24 l0 x18_1).f0, (rd_T24 l0 x18_1).f1⟩ : S24) )) (Reps.none _ _))); intro v123 w16 ho17 hb hg_ hnew_; clear hg_ hnew_; (first | rw [← Ny122.out] at ho17 | (simp only [Int.reduceToNat] at ho17; rw [← Ny122.out] at ho17)); have n0_ := ak (Kd.R_below (by (with_reducible repeat (first | apply Kd.R_alloc | apply Kd.R_drewN | apply Kd.R_drew)); exact (Kd.R_mono (Kd.R_far (p := ⟨gb121, 1, none⟩) (Kd.R_far (p := ⟨gb121, 0, none⟩) (Kd.R_types HO_2.out BK121.out (by decide)) (fun _ hk => hk.2) (.int .i64 ((rd_T24 l0 x18_1).f0))) (fun _ hk => hk.2) (.int .i64 ((rd_T24 l0 x18_1).f1))) (fun _ h_ => h_.1))) hb); have n1_ := ak (Kd.R_lower (Kd.R_newB ho17 (g := gb121) (o := .cells #[.int .i64 ((rd_T24 l0 x18_1).f0), .int .i64 ((rd_T24 l0 x18_1).f1)] 24 (0, 0)) (by (with_reducible repeat (first | refine bN ?_ _ | refine bD ?_ | refine bA ?_ _)); refine blk_put (cs := #[.int .i64 ((rd_T24 l0 x18_1).f0), .int .i64 0]) ?_ 1 _ rfl; (with_reducible repeat (first | refine bN ?_ _ | refine bD ?_ | refine bA ?_ _)); refine blk_put (cs := #[.int .i64 0, .int .i64 0]) ?_ 0 _ rfl; (with_reducible repeat (first | refine bN ?_ _ | refine bD ?_ | refine bA ?_ _)); exact BK121.out)) (below_size (by repeat (first | (with_reducible first | exact HB.out | apply wA | apply wN | apply wD | refine below_set ?_ GE121.out) | exact HB.out)))); have n2_ := ak (blk_below (g := gb121) (o := .cells #[.int .i64 ((rd_T24 l0 x18_1).f0), .int .i64 ((rd_T24 l0 x18_1).f1)] 24 (0, 0)) (by (with_reducible repeat (first | refine bN ?_ _ | refine bD ?_ | refine bA ?_ _)); refine blk_put (cs := #[.int .i64 ((rd_T24 l0 x18_1).f0), .int .i64 0]) ?_ 1 _ rfl; (with_reducible repeat (first | refine bN ?_ _ | refine bD ?_ | refine bA ?_ _)); refine blk_put (cs := #[.int .i64 0, .int .i64 0]) ?_ 0 _ rfl; (with_reducible repeat (first | refine bN ?_ _ | refine bD ?_ | refine bA ?_ _)); exact BK121.out) hb); have n3_ := ak (below_step (by repeat (first | (with_reducible first | exact HB.out | apply wA | apply wN | apply wD | refine below_set ?_ GE121.out) | exact HB.out)) hb); clear HO_2; clear BK121; clear HB; have HO_2 := n0_; have HO124 := n1_; have BK121 := n2_; have HB := n3_; clear n0_ n1_ n2_ n3_; clear hb ho17; obtain ⟨Ao18, co18, eo18⟩ := Kd.R_slice HO124.out; subst eo18) | ((with_reducible refine gate_callee (f := 40) rfl ?_); refine goesL_ (some 25) rfl rfl Tryd.func40 (by kernel_rfl) rfl #[.slice Ao18 y122.length co18] rfl (by (try simp only [List.map_toArray, List.map_cons, List.map_nil]); first | done | rfl | (simp only [List.length_drop, List.length_take]; rfl)) ?_; (with_reducible refine (spans_spans.calls k1 _ _ y122 false _ ?side1 ?side2 A6.out).mono ?_); (case side1 => repeat (first | exact (Kd.R_reads' HO124.out).2.2 | (with_reducible refine Kd.C_alloc ?_ _) | (with_reducible refine Kd.C_drewN ?_ _) | (with_reducible refine Kd.C_drew ?_))); (case side2 => exact (Kd.R_reads' HO124.out).2.1); rintro e w19 ⟨rfl, hb⟩; refine ⟨_, rfl, ?_⟩; have n0_ := ak (Kd.R_below (by (with_reducible repeat (first | apply Kd.R_alloc | apply Kd.R_drewN | apply Kd.R_drew)); exact HO_2.out) hb); have n1_ := ak (Kd.R_below (by (with_reducible repeat (first | apply Kd.R_alloc | apply Kd.R_drewN | apply Kd.R_drew)); exact HO124.out) hb); have n2_ := ak (blk_below (g := gb121) (o := .cells #[.int .i64 ((rd_T24 l0 x18_1).f0), .int .i64 ((rd_T24 l0 x18_1).f1)] 24 (0, 0)) (by (with_reducible repeat (first | refine bN ?_ _ | refine bD ?_ | refine bA ?_ _)); exact BK121.out) hb); have n3_ := ak (below_step (by repeat (first | (with_reducible first | exact HB.out | apply wA | apply wN | apply wD | refine below_set ?_ GE121.out) | exact HB.out)) hb); clear HO_2; clear HO124; clear BK121; clear HB; have HO_2 := n0_; have HO124 := n1_; have BK121 := n2_; have HB := n3_; clear n0_ n1_ n2_ n3_; (try clear hb); (try clear hb2); (try clear hk); (try clear hi)))
                (first | refine ngr ?_ | skip)
                go_ret3
                exact ⟨_, by first | rfl | (simp [errW_none, errW_some] <;> rfl) | (simp [*, errW_none, errW_some] <;> rfl), by first | exact Kd.R_nil _ _ _ _ _ | exact Kd.N_nil _ _ _ _ _ | exact Kd.V_nil _ _ _ _ _ | exact Kd.Q_nil _ _ _ _ _ | exact Kd.S_nil _ _ _ _ _, by repeat (first | (with_reducible first | exact HB.out | apply wA | apply wN | apply wD | refine below_set ?_ GE121.out) | exact HB.out)⟩
            · rw [if_neg c5] at H
              exact absurd H (by simp)
          · rw [if_neg c4] at H
            exact absurd H (by simp)
        · rw [if_neg c3] at H
          have c3b0 : decide (x18_1 < (l0.length : Int)) = false := decide_eq_false c3
          clear c3
          have H' := ak H
          clear H
          go_wp2
          go_step3
          go_wp2
          go_loopg [2, 7, 8, 31] k1 (fun kq v2 v7 v8 v31 w' => ∃ (x2_2 : List Int) (x7_2 : List Int) (x8_2 : Int) (x31_2 : Int), v8 = .int .i64 x8_2 ∧ v31 = .int .i64 x31_2 ∧ Aside0 (spans_Nest.l1 kq l0 x2_2 x7_2 x8_2 l0 (l0.length : Int) x31_2 = some (r1, r2, r3)) ∧ Aside0 (kq ≤ k1) ∧ Aside0 (Kd.R (Kd.int .i64) 3 w' w.heap.size (fun k_ => some k_ ≠ (v7 : Value).ownBlock) v2 x2_2) ∧ Aside0 (Kd.R (Kd.int .i64) 3 w' w.heap.size (fun k_ => some k_ ≠ (v2 : Value).ownBlock) v7 x7_2) ∧ Aside0 (Below w.heap.size w w'))
          case atStart => exact ⟨(x2_1), (([] : List Int)), (0), (0), (by first | rfl | (simp; done) | (simp [*]; done)), (by first | rfl | (simp; done) | (simp [*]; done)), H', ⟨Nat.le_refl _⟩, ⟨by (with_reducible repeat (first | apply Kd.R_alloc | apply Kd.R_drewN | apply Kd.R_drew)); exact Kd.R_mono HO_2.out (fun _ hk => (by simp [Value.ownBlock]))⟩, ⟨by first | exact Kd.R_nil _ _ _ _ _ | exact Kd.N_nil _ _ _ _ _ | exact Kd.V_nil _ _ _ _ _ | exact Kd.Q_nil _ _ _ _ _ | exact Kd.S_nil _ _ _ _ _⟩, ⟨by repeat (first | (with_reducible first | exact HB.out | apply wA | apply wN | apply wD) | exact HB.out)⟩⟩
          case round =>
            clear H'
            try clear c1
            try clear p1
            try clear q1
            try clear hx1
            try clear c2
            try clear c2b0
            try clear c2b1
            try clear p2
            try clear c3
            try clear c3b0
            try clear c4
            try clear c4b0
            try clear c5
            try clear c5b0
            try clear p6
            try clear c7
            try clear p12
            try clear q12
            try clear hx12
            try clear c15
            try clear hcz15_0
            try clear hcz15_1
            try clear hcz9_0
            try clear hcz9_1
            try clear hfz15_0
            try clear hfz15_1
            try clear hfz9_0
            try clear hfz9_1
            try clear hx120_0
            try clear hx120_1
            try clear p120
            try clear p2
            try clear q120
            obtain ⟨x2_2, x7_2, x8_2, x31_2, rfl, rfl, HA, HK2, HO_2, HO_7, HB⟩ := hrel
            cases gk with
            | zero => exact absurd HA.out (by simp [spans_Nest.l1])
            | succ k2 =>
              have H := HA.out
              clear HA
              simp only [spans_Nest.l1] at H
              by_cases c20 : x31_2 < (l0.length : Int)
              · rw [if_pos c20] at H
                have c20b0 : decide (x31_2 < (l0.length : Int)) = true := decide_eq_true c20
                clear c20
                by_cases c21 : 0 ≤ x31_2
                · rw [if_pos c21] at H
                  have c21b0 : decide (0 ≤ x31_2) = true := decide_eq_true c21
                  clear c21
                  by_cases c22 : x31_2 < (l0.length : Int)
                  · rw [if_pos c22] at H
                    have c22b0 : decide (x31_2 < (l0.length : Int)) = true := decide_eq_true c22
                    clear c22
                    have H' := ak H
                    clear H
                    have p126 : 0 ≤ (x31_2 : Int) := of_decide_eq_true (by first | (with_reducible assumption) | assumption)
                    have q126 : x31_2 < (l0.length : Int) := of_decide_eq_true (by first | (with_reducible assumption) | assumption)
                    obtain ⟨ad126, e126, hx126_0, hx126_1⟩ := at_T24 HR0.out x31_2 p126 q126
                    cases e126
                    replace hx126_0 := (HB.out.cell (World.block_lt_of_cell? w _ hx126_0)).trans hx126_0
                    replace hx126_1 := (HB.out.cell (World.block_lt_of_cell? w _ hx126_1)).trans hx126_1
                    replace p126 := eq_true p126
                    replace q126 := eq_true q126
                    go_wp2_with (first | ((with_reducible refine gate_dst (N := 10) rfl ?_); refine box_event ?hg (N := 10) ?hd (cs := #[.int .i64 0, .int .i64 0]) (t := 24) ?hr ?_; (case hd => rfl); (case hg => rfl); (case hr => first | (go_simp; done) | (go_simp; rfl)); intro gb127 hg w23 hbox hb; have n0_ := ak (Kd.R_below (by (with_reducible repeat (first | apply Kd.R_alloc | apply Kd.R_drewN | apply Kd.R_drew)); exact HO_2.out) hb); have n1_ := ak (Kd.R_below (by (with_reducible repeat (first | apply Kd.R_alloc | apply Kd.R_drewN | apply Kd.R_drew)); exact HO_7.out) hb); have n2_ := ak (below_step (by repeat (first | (with_reducible first | exact HB.out | apply wA | apply wN | apply wD) | exact HB.out)) hb); have n3_ := ak (hbox); have n4_ := ak ((by rw [hg]; exact (below_size (by repeat (first | (with_reducible first | exact HB.out | apply wA | apply wN | apply wD) | exact HB.out))) : w.heap.size ≤ gb127)); have n5_ := ak ((by rw [hg]; exact (below_size (by repeat (first | (with_reducible first | exact HB.out | apply wA | apply wN | apply wD) | exact HB.out))) : w.heap.size ≤ gb127)); clear HO_2; clear HO_7; clear HB; have HO_2 := n0_; have HO_7 := n1_; have HB := n2_; have BK127 := n3_; have GW127 := n4_; have GE127 := n5_; clear n0_ n1_ n2_ n3_ n4_ n5_; clear hb hbox hg; have hcz24_0 : w23.cell? ⟨gb127, 0, none⟩ = some (.int .i64 0) := (blk_cell BK127.out 0).trans rfl; have hcz24_1 : w23.cell? ⟨gb127, 1, none⟩ = some (.int .i64 0) := (blk_cell BK127.out 1).trans rfl; have hfz24_0 := blk_frozen BK127.out 0; have hfz24_1 := blk_frozen BK127.out 1; obtain ⟨Ao25, co25, eo25⟩ := Kd.R_slice HO_7.out; subst eo25))
                    go_loopg [2, 7, 8, 11] k2 (fun kq v2 v7 v8 v11 w' => ∃ (x2_3 : List Int) (x7_3 : List Int) (x8_3 : Int) (x11_3 : Int), v8 = .int .i64 x8_3 ∧ v11 = .int .i64 x11_3 ∧ Aside0 (spans_Nest.l2 kq l0 x2_3 x7_3 x8_3 x31_2 x11_3 l0 (l0.length : Int) x31_2 ((rd_T24 l0 x31_2).f0) ((rd_T24 l0 x31_2).f1) = some (r1, r2, r3)) ∧ Aside0 (kq ≤ k2) ∧ Aside0 (Kd.R (Kd.int .i64) 3 w' w.heap.size (fun k_ => some k_ ≠ (v7 : Value).ownBlock) v2 x2_3) ∧ Aside0 (Kd.R (Kd.int .i64) 3 w' w.heap.size (fun k_ => some k_ ≠ (v2 : Value).ownBlock) v7 x7_3) ∧ Aside0 (w'.heap[gb127]? = some (.cells #[.int .i64 ((rd_T24 l0 x31_2).f0), .int .i64 ((rd_T24 l0 x31_2).f1)] 24 (0, 0))) ∧ Aside0 (Below w.heap.size w w'))
                    case atStart => exact ⟨(x2_2), (x7_2), (x8_2), ((x7_2.length : Int)), (by first | rfl | (simp; done) | (simp [*]; done)), (by first | rfl | (simp; done) | (simp [*]; done)), H', ⟨Nat.le_refl _⟩, ⟨by (with_reducible repeat (first | apply Kd.R_alloc | apply Kd.R_drewN | apply Kd.R_drew)); exact Kd.R_mono (Kd.R_far (p := ⟨gb127, 1, none⟩) (Kd.R_far (p := ⟨gb127, 0, none⟩) (Kd.R_types HO_2.out BK127.out (by decide)) (fun _ hk => hk.2) (.int .i64 ((rd_T24 l0 x31_2).f0))) (fun _ hk => hk.2) (.int .i64 ((rd_T24 l0 x31_2).f1))) (fun _ hk => by first | exact hk.1 | exact hk)⟩, ⟨by (with_reducible repeat (first | apply Kd.R_alloc | apply Kd.R_drewN | apply Kd.R_drew)); exact Kd.R_mono (Kd.R_far (p := ⟨gb127, 1, none⟩) (Kd.R_far (p := ⟨gb127, 0, none⟩) (Kd.R_types HO_7.out BK127.out (by decide)) (fun _ hk => hk.2) (.int .i64 ((rd_T24 l0 x31_2).f0))) (fun _ hk => hk.2) (.int .i64 ((rd_T24 l0 x31_2).f1))) (fun _ hk => by first | exact hk.1 | exact hk)⟩, ⟨by (with_reducible repeat (first | refine bN ?_ _ | refine bD ?_ | refine bA ?_ _)); refine blk_put (cs := #[.int .i64 ((rd_T24 l0 x31_2).f0), .int .i64 0]) ?_ 1 _ rfl; (with_reducible repeat (first | refine bN ?_ _ | refine bD ?_ | refine bA ?_ _)); refine blk_put (cs := #[.int .i64 0, .int .i64 0]) ?_ 0 _ rfl; (with_reducible repeat (first | refine bN ?_ _ | refine bD ?_ | refine bA ?_ _)); exact BK127.out⟩, ⟨by repeat (first | (with_reducible first | exact HB.out | apply wA | apply wN | apply wD | refine below_set ?_ GE127.out) | exact HB.out)⟩⟩
                    case round =>
                      clear H'
                      try clear c1
                      try clear p1
                      try clear q1
                      try clear hx1
                      try clear c2
                      try clear c2b0
                      try clear c2b1
                      try clear p2
                      try clear c3
                      try clear c3b0
                      try clear c4
                      try clear c4b0
                      try clear c5
                      try clear c5b0
                      try clear p6
                      try clear c7
                      try clear p12
                      try clear q12
                      try clear hx12
                      try clear c15
                      try clear c20
                      try clear c20b0
                      try clear c21
                      try clear c21b0
                      try clear c22
                      try clear c22b0
                      try clear hcz15_0
                      try clear hcz15_1
                      try clear hcz24_0
                      try clear hcz24_1
                      try clear hcz9_0
                      try clear hcz9_1
                      try clear hfz15_0
                      try clear hfz15_1
                      try clear hfz24_0
                      try clear hfz24_1
                      try clear hfz9_0
                      try clear hfz9_1
                      try clear hx120_0
                      try clear hx120_1
                      try clear hx126_0
                      try clear hx126_1
                      try clear p1
                      try clear p12
                      try clear p120
                      try clear p126
                      try clear p2
                      try clear p6
                      try clear q1
                      try clear q12
                      try clear q120
                      try clear q126
                      obtain ⟨x2_3, x7_3, x8_3, x11_3, rfl, rfl, HA, HK3, HO_2, HO_7, BK127, HB⟩ := hrel
                      cases gk with
                      | zero => exact absurd HA.out (by simp [spans_Nest.l2])
                      | succ k3 =>
                        have H := HA.out
                        clear HA
                        simp only [spans_Nest.l2] at H
                        by_cases c26 : x11_3 > 0
                        · rw [if_pos c26] at H
                          have c26b0 : decide (0 < x11_3) = true := decide_eq_true c26
                          clear c26
                          obtain ⟨ji27, hji27⟩ : ∃ j_ : Int, (wrap64 (x11_3 - 1)) = j_ := ⟨_, rfl⟩
                          replace H : (if 0 ≤ (ji27) then (if (ji27) < (x7_3.length : Int) then (if 0 ≤ (rd x7_3 (ji27)) then (if (rd x7_3 (ji27)) < (l0.length : Int) then ((spans_within.f ((rd_T24 l0 x31_2).f0) ((rd_T24 l0 x31_2).f1) ((rd_T24 l0 (rd x7_3 (ji27))).f0) ((rd_T24 l0 (rd x7_3 (ji27))).f1)).bind fun t137 => (if t137 = true then (if ((rd_T24 l0 x31_2).f0) < x8_3 then (some (([] : List Int), x31_2, 6)) else (if x2_3.length < 17592186044416 then (if x7_3.length < 17592186044416 then (spans_Nest.l1 k3 l0 (x2_3 ++ [rd x7_3 (ji27)]) (x7_3 ++ [x31_2]) x8_3 l0 (l0.length : Int) (wrap64 (x31_2 + 1))) else (none)) else (none))) else ((spans_before.f ((rd_T24 l0 (rd x7_3 (ji27))).f0) ((rd_T24 l0 (rd x7_3 (ji27))).f1) ((rd_T24 l0 x31_2).f0) ((rd_T24 l0 x31_2).f1)).bind fun t145 => (if t145 = true then (if (ji27) ≤ (x7_3.length : Int) then (spans_Nest.l2 k3 l0 x2_3 (x7_3.take ((ji27) : Int).toNat) (mx x8_3 ((rd_T24 l0 (rd x7_3 (ji27))).f1)) x31_2 ji27 l0 (l0.length : Int) x31_2 ((rd_T24 l0 x31_2).f0) ((rd_T24 l0 x31_2).f1)) else (none)) else (some (([] : List Int), x31_2, 6)))))) else (none)) else (none)) else (none)) else (none)) = some (r1, r2, r3) := by first | (rw [hji27] at H; exact H) | (simp only [hji27] at H ⊢; exact H)
                          have hji27w : (IntKind.i64.wrap (x11_3 - 1)) = ji27 := (i64_w _).trans hji27
                          by_cases c28 : 0 ≤ (ji27)
                          · rw [if_pos c28] at H
                            have c28b0 : decide (0 ≤ (ji27)) = true := decide_eq_true c28
                            clear c28
                            by_cases c29 : (ji27) < (x7_3.length : Int)
                            · rw [if_pos c29] at H
                              have c29b0 : decide ((ji27) < (x7_3.length : Int)) = true := decide_eq_true c29
                              clear c29
                              by_cases c30 : 0 ≤ (rd x7_3 (ji27))
                              · rw [if_pos c30] at H
                                have c30b0 : decide (0 ≤ (rd x7_3 (ji27))) = true := decide_eq_true c30
                                clear c30
                                by_cases c31 : (rd x7_3 (ji27)) < (l0.length : Int)
                                · rw [if_pos c31] at H
                                  have c31b0 : decide ((rd x7_3 (ji27)) < (l0.length : Int)) = true := decide_eq_true c31
                                  clear c31
                                  replace H := Option.bind_eq_some_iff.mp H
                                  obtain ⟨t137, A320, H⟩ := H
                                  replace H : (if t137 = true then (if ((rd_T24 l0 x31_2).f0) < x8_3 then (some (([] : List Int), x31_2, 6)) else (if x2_3.length < 17592186044416 then (if x7_3.length < 17592186044416 then (spans_Nest.l1 k3 l0 (x2_3 ++ [rd x7_3 (ji27)]) (x7_3 ++ [x31_2]) x8_3 l0 (l0.length : Int) (wrap64 (x31_2 + 1))) else (none)) else (none))) else ((spans_before.f ((rd_T24 l0 (rd x7_3 (ji27))).f0) ((rd_T24 l0 (rd x7_3 (ji27))).f1) ((rd_T24 l0 x31_2).f0) ((rd_T24 l0 x31_2).f1)).bind fun t145 => (if t145 = true then (if (ji27) ≤ (x7_3.length : Int) then (spans_Nest.l2 k3 l0 x2_3 (x7_3.take ((ji27) : Int).toNat) (mx x8_3 ((rd_T24 l0 (rd x7_3 (ji27))).f1)) x31_2 ji27 l0 (l0.length : Int) x31_2 ((rd_T24 l0 x31_2).f0) ((rd_T24 l0 x31_2).f1)) else (none)) else (some (([] : List Int), x31_2, 6))))) = some (r1, r2, r3) := H
                                  have A32 := ak A320
                                  clear A320
                                  by_cases c33 : t137 = true
                                  · subst c33
                                    have H1 : (if ((rd_T24 l0 x31_2).f0) < x8_3 then (some (([] : List Int), x31_2, 6)) else (if x2_3.length < 17592186044416 then (if x7_3.length < 17592186044416 then (spans_Nest.l1 k3 l0 (x2_3 ++ [rd x7_3 (ji27)]) (x7_3 ++ [x31_2]) x8_3 l0 (l0.length : Int) (wrap64 (x31_2 + 1))) else (none)) else (none))) = some (r1, r2, r3) := by rw [if_pos rfl] at H; exact H
                                    clear H
                                    have H := H1
                                    clear H1
                                    by_cases c34 : ((rd_T24 l0 x31_2).f0) < x8_3
                                    · rw [if_pos c34] at H
                                      have c34b0 : decide (((rd_T24 l0 x31_2).f0) < x8_3) = true := decide_eq_true c34
                                      clear c34
                                      simp only [Option.some.injEq, Prod.mk.injEq] at H
                                      obtain ⟨rfl, rfl, rfl⟩ := H
                                      obtain ⟨Ao35, co35, eo35⟩ := Kd.R_slice HO_7.out
                                      subst eo35
                                      have p134 : 0 ≤ ((ji27) : Int) := of_decide_eq_true (by first | (with_reducible assumption) | assumption)
                                      have q134 : (ji27) < (x7_3.length : Int) := of_decide_eq_true (by first | (with_reducible assumption) | assumption)
                                      obtain ⟨ad134, e134, hx134_0⟩ := Kd.at_int (Kd.R_reads' HO_7.out).2.2 (ji27) p134 q134
                                      cases e134
                                      replace p134 := eq_true p134
                                      replace q134 := eq_true q134
                                      have p135 : 0 ≤ ((rd x7_3 (ji27)) : Int) := of_decide_eq_true (by first | (with_reducible assumption) | assumption)
                                      have q135 : (rd x7_3 (ji27)) < (l0.length : Int) := of_decide_eq_true (by first | (with_reducible assumption) | assumption)
                                      obtain ⟨ad135, e135, hx135_0, hx135_1⟩ := at_T24 HR0.out (rd x7_3 (ji27)) p135 q135
                                      obtain rfl : ad126 = ad135 := (by injection e135)
                                      replace hx135_0 := (HB.out.cell (World.block_lt_of_cell? w _ hx135_0)).trans hx135_0
                                      replace hx135_1 := (HB.out.cell (World.block_lt_of_cell? w _ hx135_1)).trans hx135_1
                                      replace p135 := eq_true p135
                                      replace q135 := eq_true q135
                                      go_wp2_with (first | ((with_reducible refine gate_dst (N := 12) rfl ?_); refine box_event ?hg (N := 12) ?hd (cs := #[.int .i64 0, .int .i64 0]) (t := 24) ?hr ?_; (case hd => rfl); (case hg => rfl); (case hr => first | (go_simp; done) | (go_simp; rfl)); intro gb136 hg w36 hbox hb; have n0_ := ak (Kd.R_below (by (with_reducible repeat (first | apply Kd.R_alloc | apply Kd.R_drewN | apply Kd.R_drew)); exact HO_2.out) hb); have n1_ := ak (Kd.R_below (by (with_reducible repeat (first | apply Kd.R_alloc | apply Kd.R_drewN | apply Kd.R_drew)); exact HO_7.out) hb); have n2_ := ak (blk_below (g := gb127) (o := .cells #[.int .i64 ((rd_T24 l0 x31_2).f0), .int .i64 ((rd_T24 l0 x31_2).f1)] 24 (0, 0)) (by (with_reducible repeat (first | refine bN ?_ _ | refine bD ?_ | refine bA ?_ _)); exact BK127.out) hb); have n3_ := ak (below_step (by repeat (first | (with_reducible first | exact HB.out | apply wA | apply wN | apply wD | refine below_set ?_ GE127.out) | exact HB.out)) hb); have n4_ := ak (hbox); have n5_ := ak ((by rw [hg]; exact (below_size (by repeat (first | (with_reducible first | exact HB.out | apply wA | apply wN | apply wD | refine below_set ?_ GE127.out) | exact HB.out))) : w.heap.size ≤ gb136)); have n6_ := ak ((by rw [hg]; exact (below_size (by repeat (first | (with_reducible first | exact HB.out | apply wA | apply wN | apply wD | refine below_set ?_ GE127.out) | exact HB.out))) : w.heap.size ≤ gb136)); have n7_ := ak ((by rw [hg]; exact Nat.ne_of_lt (blk_lt (g := gb127) (o := .cells #[.int .i64 ((rd_T24 l0 x31_2).f0), .int .i64 ((rd_T24 l0 x31_2).f1)] 24 (0, 0)) (by (with_reducible repeat (first | refine bN ?_ _ | refine bD ?_ | refine bA ?_ _)); exact BK127.out)) : gb127 ≠ gb136)); have n8_ := ak ((by rw [hg]; exact Nat.ne_of_gt (blk_lt (g := gb127) (o := .cells #[.int .i64 ((rd_T24 l0 x31_2).f0), .int .i64 ((rd_T24 l0 x31_2).f1)] 24 (0, 0)) (by (with_reducible repeat (first | refine bN ?_ _ | refine bD ?_ | refine bA ?_ _)); exact BK127.out)) : gb136 ≠ gb127)); clear HO_2; clear HO_7; clear BK127; clear HB; have HO_2 := n0_; have HO_7 := n1_; have BK127 := n2_; have HB := n3_; have BK136 := n4_; have GW136 := n5_; have GE136 := n6_; have NB127_136 := n7_; have NB136_127 := n8_; clear n0_ n1_ n2_ n3_ n4_ n5_ n6_ n7_ n8_; clear hb hbox hg; have hnb37 := NB136_127.out; have hnc37 := NB127_136.out; have hcz38_0 : w36.cell? ⟨gb136, 0, none⟩ = some (.int .i64 0) := (blk_cell BK136.out 0).trans rfl; have hcz38_1 : w36.cell? ⟨gb136, 1, none⟩ = some (.int .i64 0) := (blk_cell BK136.out 1).trans rfl; have hfz38_0 := blk_frozen BK136.out 0; have hfz38_1 := blk_frozen BK136.out 1; have hcz39_0 : w36.cell? ⟨gb127, 0, none⟩ = some (.int .i64 ((rd_T24 l0 x31_2).f0)) := (blk_cell BK127.out 0).trans rfl; have hcz39_1 : w36.cell? ⟨gb127, 1, none⟩ = some (.int .i64 ((rd_T24 l0 x31_2).f1)) := (blk_cell BK127.out 1).trans rfl; have hfz39_0 := blk_frozen BK127.out 0; have hfz39_1 := blk_frozen BK127.out 1) | ((with_reducible refine gate_callee (f := 41) rfl ?_); refine goesL_ (some 54) rfl rfl Tryd.func41 (by kernel_rfl) rfl #[.agg #[.int .i64 ((rd_T24 l0 x31_2).f0), .int .i64 ((rd_T24 l0 x31_2).f1)], .agg #[.int .i64 ((rd_T24 l0 (rd x7_3 (ji27))).f0), .int .i64 ((rd_T24 l0 (rd x7_3 (ji27))).f1)]] rfl (by (try simp only [List.map_toArray, List.map_cons, List.map_nil]); first | done | (simp only [hji27]; rfl) | rfl | (simp only [List.length_drop, List.length_take]; rfl)) ?_; (with_reducible refine (spans_within.calls ((rd_T24 l0 x31_2).f0) ((rd_T24 l0 x31_2).f1) ((rd_T24 l0 (rd x7_3 (ji27))).f0) ((rd_T24 l0 (rd x7_3 (ji27))).f1) true _ A32.out).mono ?_); rintro e w40 ⟨rfl, hb⟩; refine ⟨_, rfl, ?_⟩; have n0_ := ak (Kd.R_below (by (with_reducible repeat (first | apply Kd.R_alloc | apply Kd.R_drewN | apply Kd.R_drew)); exact (Kd.R_mono (Kd.R_far (p := ⟨gb136, 1, none⟩) (Kd.R_far (p := ⟨gb136, 0, none⟩) (Kd.R_types HO_2.out BK136.out (by decide)) (fun _ hk => hk.2) (.int .i64 ((rd_T24 l0 (rd x7_3 (ji27))).f0))) (fun _ hk => hk.2) (.int .i64 ((rd_T24 l0 (rd x7_3 (ji27))).f1))) (fun _ h_ => h_.1))) hb); have n1_ := ak (Kd.R_below (by (with_reducible repeat (first | apply Kd.R_alloc | apply Kd.R_drewN | apply Kd.R_drew)); exact (Kd.R_mono (Kd.R_far (p := ⟨gb136, 1, none⟩) (Kd.R_far (p := ⟨gb136, 0, none⟩) (Kd.R_types HO_7.out BK136.out (by decide)) (fun _ hk => hk.2) (.int .i64 ((rd_T24 l0 (rd x7_3 (ji27))).f0))) (fun _ hk => hk.2) (.int .i64 ((rd_T24 l0 (rd x7_3 (ji27))).f1))) (fun _ h_ => h_.1))) hb); have n2_ := ak (blk_below (g := gb127) (o := .cells #[.int .i64 ((rd_T24 l0 x31_2).f0), .int .i64 ((rd_T24 l0 x31_2).f1)] 24 (0, 0)) (by (with_reducible repeat (first | refine bN ?_ _ | refine bD ?_ | refine bA ?_ _)); refine blk_far ?_ NB127_136.out _; (with_reducible repeat (first | refine bN ?_ _ | refine bD ?_ | refine bA ?_ _)); refine blk_far ?_ NB127_136.out _; (with_reducible repeat (first | refine bN ?_ _ | refine bD ?_ | refine bA ?_ _)); exact BK127.out) hb); have n3_ := ak (blk_below (g := gb136) (o := .cells #[.int .i64 ((rd_T24 l0 (rd x7_3 (ji27))).f0), .int .i64 ((rd_T24 l0 (rd x7_3 (ji27))).f1)] 24 (0, 0)) (by (with_reducible repeat (first | refine bN ?_ _ | refine bD ?_ | refine bA ?_ _)); refine blk_put (cs := #[.int .i64 ((rd_T24 l0 (rd x7_3 (ji27))).f0), .int .i64 0]) ?_ 1 _ rfl; (with_reducible repeat (first | refine bN ?_ _ | refine bD ?_ | refine bA ?_ _)); refine blk_put (cs := #[.int .i64 0, .int .i64 0]) ?_ 0 _ rfl; (with_reducible repeat (first | refine bN ?_ _ | refine bD ?_ | refine bA ?_ _)); exact BK136.out) hb); have n4_ := ak (below_step (by repeat (first | (with_reducible first | exact HB.out | apply wA | apply wN | apply wD | refine below_set ?_ GE127.out | refine below_set ?_ GE136.out) | exact HB.out)) hb); clear HO_2; clear HO_7; clear BK127; clear BK136; clear HB; have HO_2 := n0_; have HO_7 := n1_; have BK127 := n2_; have BK136 := n3_; have HB := n4_; clear n0_ n1_ n2_ n3_ n4_; (try clear hb); (try clear hb2); (try clear hk); (try clear hi); have hcz41_0 : w40.cell? ⟨gb127, 0, none⟩ = some (.int .i64 ((rd_T24 l0 x31_2).f0)) := (blk_cell BK127.out 0).trans rfl; have hcz41_1 : w40.cell? ⟨gb127, 1, none⟩ = some (.int .i64 ((rd_T24 l0 x31_2).f1)) := (blk_cell BK127.out 1).trans rfl; have hfz41_0 := blk_frozen BK127.out 0; have hfz41_1 := blk_frozen BK127.out 1))
                                      (first | refine ngr ?_ | skip)
                                      go_ret3
                                      exact ⟨_, by first | rfl | (simp [errW_none, errW_some] <;> rfl) | (simp only [← hji27]; first | rfl | (simp [errW_none, errW_some] <;> rfl)) | (simp [*, errW_none, errW_some] <;> rfl), by first | exact Kd.R_nil _ _ _ _ _ | exact Kd.N_nil _ _ _ _ _ | exact Kd.V_nil _ _ _ _ _ | exact Kd.Q_nil _ _ _ _ _ | exact Kd.S_nil _ _ _ _ _, by repeat (first | (with_reducible first | exact HB.out | apply wA | apply wN | apply wD | refine below_set ?_ GE127.out | refine below_set ?_ GE136.out) | exact HB.out)⟩
                                    · rw [if_neg c34] at H
                                      have c34b0 : decide (((rd_T24 l0 x31_2).f0) < x8_3) = false := decide_eq_false c34
                                      clear c34
                                      by_cases c42 : x2_3.length < 17592186044416
                                      · rw [if_pos c42] at H
                                        have LMc42 := ak c42
                                        clear c42
                                        obtain ⟨y139, hy139⟩ : ∃ y_ : List Int, y_ = (x2_3 ++ [rd x7_3 (ji27)]) := ⟨_, rfl⟩
                                        replace H : (if x7_3.length < 17592186044416 then (spans_Nest.l1 k3 l0 y139 (x7_3 ++ [x31_2]) x8_3 l0 (l0.length : Int) (wrap64 (x31_2 + 1))) else (none)) = some (r1, r2, r3) := by first | (rw [hy139]; with_reducible exact H) | (have H2_ := (Option.bind_some _ _).symm.trans H; rw [hy139]; with_reducible exact H2_) | (have H2_ := (Option.bind_some _ _).symm.trans H; with_reducible exact H2_) | with_reducible exact H | (rw [hy139]; exact H) | exact H
                                        have Ny139 := ak hy139
                                        clear hy139
                                        by_cases c43 : x7_3.length < 17592186044416
                                        · rw [if_pos c43] at H
                                          have LMc43 := ak c43
                                          clear c43
                                          obtain ⟨y142, hy142⟩ : ∃ y_ : List Int, y_ = (x7_3 ++ [x31_2]) := ⟨_, rfl⟩
                                          replace H : (spans_Nest.l1 k3 l0 y139 y142 x8_3 l0 (l0.length : Int) (wrap64 (x31_2 + 1))) = some (r1, r2, r3) := by first | (rw [hy142]; with_reducible exact H) | (have H2_ := (Option.bind_some _ _).symm.trans H; rw [hy142]; with_reducible exact H2_) | (have H2_ := (Option.bind_some _ _).symm.trans H; with_reducible exact H2_) | with_reducible exact H | (rw [hy142]; exact H) | exact H
                                          have Ny142 := ak hy142
                                          clear hy142
                                          have H' := ak H
                                          clear H
                                          obtain ⟨Ao44, co44, eo44⟩ := Kd.R_slice HO_7.out
                                          subst eo44
                                          have p134 : 0 ≤ ((ji27) : Int) := of_decide_eq_true (by first | (with_reducible assumption) | assumption)
                                          have q134 : (ji27) < (x7_3.length : Int) := of_decide_eq_true (by first | (with_reducible assumption) | assumption)
                                          obtain ⟨ad134, e134, hx134_0⟩ := Kd.at_int (Kd.R_reads' HO_7.out).2.2 (ji27) p134 q134
                                          cases e134
                                          replace p134 := eq_true p134
                                          replace q134 := eq_true q134
                                          have p135 : 0 ≤ ((rd x7_3 (ji27)) : Int) := of_decide_eq_true (by first | (with_reducible assumption) | assumption)
                                          have q135 : (rd x7_3 (ji27)) < (l0.length : Int) := of_decide_eq_true (by first | (with_reducible assumption) | assumption)
                                          obtain ⟨ad135, e135, hx135_0, hx135_1⟩ := at_T24 HR0.out (rd x7_3 (ji27)) p135 q135
                                          obtain rfl : ad126 = ad135 := (by injection e135)
                                          replace hx135_0 := (HB.out.cell (World.block_lt_of_cell? w _ hx135_0)).trans hx135_0
                                          replace hx135_1 := (HB.out.cell (World.block_lt_of_cell? w _ hx135_1)).trans hx135_1
                                          replace p135 := eq_true p135
                                          replace q135 := eq_true q135
                                          go_wp2_with (first | ((with_reducible refine gate_dst (N := 12) rfl ?_); refine box_event ?hg (N := 12) ?hd (cs := #[.int .i64 0, .int .i64 0]) (t := 24) ?hr ?_; (case hd => rfl); (case hg => rfl); (case hr => first | (go_simp; done) | (go_simp; rfl)); intro gb136 hg w45 hbox hb; have n0_ := ak (Kd.R_below (by (with_reducible repeat (first | apply Kd.R_alloc | apply Kd.R_drewN | apply Kd.R_drew)); exact HO_2.out) hb); have n1_ := ak (Kd.R_below (by (with_reducible repeat (first | apply Kd.R_alloc | apply Kd.R_drewN | apply Kd.R_drew)); exact HO_7.out) hb); have n2_ := ak (blk_below (g := gb127) (o := .cells #[.int .i64 ((rd_T24 l0 x31_2).f0), .int .i64 ((rd_T24 l0 x31_2).f1)] 24 (0, 0)) (by (with_reducible repeat (first | refine bN ?_ _ | refine bD ?_ | refine bA ?_ _)); exact BK127.out) hb); have n3_ := ak (below_step (by repeat (first | (with_reducible first | exact HB.out | apply wA | apply wN | apply wD | refine below_set ?_ GE127.out) | exact HB.out)) hb); have n4_ := ak (hbox); have n5_ := ak ((by rw [hg]; exact (below_size (by repeat (first | (with_reducible first | exact HB.out | apply wA | apply wN | apply wD | refine below_set ?_ GE127.out) | exact HB.out))) : w.heap.size ≤ gb136)); have n6_ := ak ((by rw [hg]; exact (below_size (by repeat (first | (with_reducible first | exact HB.out | apply wA | apply wN | apply wD | refine below_set ?_ GE127.out) | exact HB.out))) : w.heap.size ≤ gb136)); have n7_ := ak ((by rw [hg]; exact Nat.ne_of_lt (blk_lt (g := gb127) (o := .cells #[.int .i64 ((rd_T24 l0 x31_2).f0), .int .i64 ((rd_T24 l0 x31_2).f1)] 24 (0, 0)) (by (with_reducible repeat (first | refine bN ?_ _ | refine bD ?_ | refine bA ?_ _)); exact BK127.out)) : gb127 ≠ gb136)); have n8_ := ak ((by rw [hg]; exact Nat.ne_of_gt (blk_lt (g := gb127) (o := .cells #[.int .i64 ((rd_T24 l0 x31_2).f0), .int .i64 ((rd_T24 l0 x31_2).f1)] 24 (0, 0)) (by (with_reducible repeat (first | refine bN ?_ _ | refine bD ?_ | refine bA ?_ _)); exact BK127.out)) : gb136 ≠ gb127)); clear HO_2; clear HO_7; clear BK127; clear HB; have HO_2 := n0_; have HO_7 := n1_; have BK127 := n2_; have HB := n3_; have BK136 := n4_; have GW136 := n5_; have GE136 := n6_; have NB127_136 := n7_; have NB136_127 := n8_; clear n0_ n1_ n2_ n3_ n4_ n5_ n6_ n7_ n8_; clear hb hbox hg; have hnb46 := NB136_127.out; have hnc46 := NB127_136.out; have hcz47_0 : w45.cell? ⟨gb136, 0, none⟩ = some (.int .i64 0) := (blk_cell BK136.out 0).trans rfl; have hcz47_1 : w45.cell? ⟨gb136, 1, none⟩ = some (.int .i64 0) := (blk_cell BK136.out 1).trans rfl; have hfz47_0 := blk_frozen BK136.out 0; have hfz47_1 := blk_frozen BK136.out 1; have hcz48_0 : w45.cell? ⟨gb127, 0, none⟩ = some (.int .i64 ((rd_T24 l0 x31_2).f0)) := (blk_cell BK127.out 0).trans rfl; have hcz48_1 : w45.cell? ⟨gb127, 1, none⟩ = some (.int .i64 ((rd_T24 l0 x31_2).f1)) := (blk_cell BK127.out 1).trans rfl; have hfz48_0 := blk_frozen BK127.out 0; have hfz48_1 := blk_frozen BK127.out 1) | ((with_reducible refine gate_callee (f := 41) rfl ?_); refine goesL_ (some 54) rfl rfl Tryd.func41 (by kernel_rfl) rfl #[.agg #[.int .i64 ((rd_T24 l0 x31_2).f0), .int .i64 ((rd_T24 l0 x31_2).f1)], .agg #[.int .i64 ((rd_T24 l0 (rd x7_3 (ji27))).f0), .int .i64 ((rd_T24 l0 (rd x7_3 (ji27))).f1)]] rfl (by (try simp only [List.map_toArray, List.map_cons, List.map_nil]); first | done | (simp only [hji27]; rfl) | rfl | (simp only [List.length_drop, List.length_take]; rfl)) ?_; (with_reducible refine (spans_within.calls ((rd_T24 l0 x31_2).f0) ((rd_T24 l0 x31_2).f1) ((rd_T24 l0 (rd x7_3 (ji27))).f0) ((rd_T24 l0 (rd x7_3 (ji27))).f1) true _ A32.out).mono ?_); rintro e w49 ⟨rfl, hb⟩; refine ⟨_, rfl, ?_⟩; have n0_ := ak (Kd.R_below (by (with_reducible repeat (first | apply Kd.R_alloc | apply Kd.R_drewN | apply Kd.R_drew)); exact (Kd.R_mono (Kd.R_far (p := ⟨gb136, 1, none⟩) (Kd.R_far (p := ⟨gb136, 0, none⟩) (Kd.R_types HO_2.out BK136.out (by decide)) (fun _ hk => hk.2) (.int .i64 ((rd_T24 l0 (rd x7_3 (ji27))).f0))) (fun _ hk => hk.2) (.int .i64 ((rd_T24 l0 (rd x7_3 (ji27))).f1))) (fun _ h_ => h_.1))) hb); have n1_ := ak (Kd.R_below (by (with_reducible repeat (first | apply Kd.R_alloc | apply Kd.R_drewN | apply Kd.R_drew)); exact (Kd.R_mono (Kd.R_far (p := ⟨gb136, 1, none⟩) (Kd.R_far (p := ⟨gb136, 0, none⟩) (Kd.R_types HO_7.out BK136.out (by decide)) (fun _ hk => hk.2) (.int .i64 ((rd_T24 l0 (rd x7_3 (ji27))).f0))) (fun _ hk => hk.2) (.int .i64 ((rd_T24 l0 (rd x7_3 (ji27))).f1))) (fun _ h_ => h_.1))) hb); have n2_ := ak (blk_below (g := gb127) (o := .cells #[.int .i64 ((rd_T24 l0 x31_2).f0), .int .i64 ((rd_T24 l0 x31_2).f1)] 24 (0, 0)) (by (with_reducible repeat (first | refine bN ?_ _ | refine bD ?_ | refine bA ?_ _)); refine blk_far ?_ NB127_136.out _; (with_reducible repeat (first | refine bN ?_ _ | refine bD ?_ | refine bA ?_ _)); refine blk_far ?_ NB127_136.out _; (with_reducible repeat (first | refine bN ?_ _ | refine bD ?_ | refine bA ?_ _)); exact BK127.out) hb); have n3_ := ak (blk_below (g := gb136) (o := .cells #[.int .i64 ((rd_T24 l0 (rd x7_3 (ji27))).f0), .int .i64 ((rd_T24 l0 (rd x7_3 (ji27))).f1)] 24 (0, 0)) (by (with_reducible repeat (first | refine bN ?_ _ | refine bD ?_ | refine bA ?_ _)); refine blk_put (cs := #[.int .i64 ((rd_T24 l0 (rd x7_3 (ji27))).f0), .int .i64 0]) ?_ 1 _ rfl; (with_reducible repeat (first | refine bN ?_ _ | refine bD ?_ | refine bA ?_ _)); refine blk_put (cs := #[.int .i64 0, .int .i64 0]) ?_ 0 _ rfl; (with_reducible repeat (first | refine bN ?_ _ | refine bD ?_ | refine bA ?_ _)); exact BK136.out) hb); have n4_ := ak (below_step (by repeat (first | (with_reducible first | exact HB.out | apply wA | apply wN | apply wD | refine below_set ?_ GE127.out | refine below_set ?_ GE136.out) | exact HB.out)) hb); clear HO_2; clear HO_7; clear BK127; clear BK136; clear HB; have HO_2 := n0_; have HO_7 := n1_; have BK127 := n2_; have BK136 := n3_; have HB := n4_; clear n0_ n1_ n2_ n3_ n4_; (try clear hb); (try clear hb2); (try clear hk); (try clear hi); have hcz50_0 : w49.cell? ⟨gb127, 0, none⟩ = some (.int .i64 ((rd_T24 l0 x31_2).f0)) := (blk_cell BK127.out 0).trans rfl; have hcz50_1 : w49.cell? ⟨gb127, 1, none⟩ = some (.int .i64 ((rd_T24 l0 x31_2).f1)) := (blk_cell BK127.out 1).trans rfl; have hfz50_0 := blk_frozen BK127.out 0; have hfz50_1 := blk_frozen BK127.out 1; have p138 : 0 ≤ ((ji27) : Int) := of_decide_eq_true (by first | (with_reducible assumption) | assumption); have q138 : (ji27) < (x7_3.length : Int) := of_decide_eq_true (by first | (with_reducible assumption) | assumption); obtain ⟨ad138, e138, hx138_0⟩ := Kd.at_int (Kd.R_reads' HO_7.out).2.2 (ji27) p138 q138; obtain rfl : ad134 = ad138 := (by injection e138); replace p138 := eq_true p138; replace q138 := eq_true q138) | ((with_reducible refine gate_builtin (b := .append) (xs := #[.tmp 72, .tmp 78]) rfl ?_); at_builtin; refine Kd.R_append (Kd.int .i64) (w0 := w) w.heap.size rfl (.tmp 72) (.tmp 78) 31 3 (.int .i64 0) 8 rfl Tryd.underlying31 info3 rfl (by decide) (by omega) u2 x2_3 (rd x7_3 (ji27)) [.int .i64 (rd x7_3 (ji27))] (fun k_ => some k_ ≠ (.slice (some ad134) x7_3.length co44 : Value).ownBlock) (fun _ => False) rfl rfl ?aP (fun _ hk => hk.elim) ?aF ?aO ?aB ?aS ?aL ?_; (case aP => exact rfl); (case aB => exact (by repeat (first | (with_reducible first | exact HB.out | apply wA | apply wN | apply wD | refine below_set ?_ GE127.out | refine below_set ?_ GE136.out) | exact HB.out))); (case aF => exact (fun k_ hk => Kd.fresh' (Kd.R_lt (by (with_reducible repeat (first | apply Kd.R_alloc | apply Kd.R_drewN | apply Kd.R_drew)); exact HO_7.out)) k_ hk)); (case aO => exact (by (with_reducible repeat (first | apply Kd.R_alloc | apply Kd.R_drewN | apply Kd.R_drew)); exact HO_2.out)); (case aS => exact (below_size (by repeat (first | (with_reducible first | exact HB.out | apply wA | apply wN | apply wD | refine below_set ?_ GE127.out | refine below_set ?_ GE136.out) | exact HB.out)))); (case aL => have := LMc42.out; omega); intro v140 w51 ho hb hg hat; rw [← Ny139.out] at ho; have n0_ := ak (Kd.R_after (ok := (fun _ => True)) (by (with_reducible repeat (first | apply Kd.R_alloc | apply Kd.R_drewN | apply Kd.R_drew)); exact Kd.R_mono HO_7.out (fun _ hk => ⟨trivial, hk⟩)) hg hat); have n1_ := ak (blk_grown (g := gb127) (o := .cells #[.int .i64 ((rd_T24 l0 x31_2).f0), .int .i64 ((rd_T24 l0 x31_2).f1)] 24 (0, 0)) (by (with_reducible repeat (first | refine bN ?_ _ | refine bD ?_ | refine bA ?_ _)); exact BK127.out) hg (Kd.R_ne HO_2.out BK127.out (by decide))); have n2_ := ak (blk_grown (g := gb136) (o := .cells #[.int .i64 ((rd_T24 l0 (rd x7_3 (ji27))).f0), .int .i64 ((rd_T24 l0 (rd x7_3 (ji27))).f1)] 24 (0, 0)) (by (with_reducible repeat (first | refine bN ?_ _ | refine bD ?_ | refine bA ?_ _)); exact BK136.out) hg (Kd.R_ne HO_2.out BK136.out (by decide))); have n3_ := ak (hb); have n4_ := ak (ho); clear HO_7; clear BK127; clear BK136; clear HB; clear HO_2; have HO_7 := n0_; have BK127 := n1_; have BK136 := n2_; have HB := n3_; have HO141 := n4_; clear n0_ n1_ n2_ n3_ n4_; clear ho hb hg hat) | ((with_reducible refine gate_builtin (b := .append) (xs := #[.tmp 80, .tmp 82]) rfl ?_); at_builtin; refine Kd.R_append (Kd.int .i64) (w0 := w) w.heap.size rfl (.tmp 80) (.tmp 82) 31 3 (.int .i64 0) 8 rfl Tryd.underlying31 info3 rfl (by decide) (by omega) (.slice (some ad134) x7_3.length co44) x7_3 x31_2 [.int .i64 x31_2] (fun k_ => some k_ ≠ (v140 : Value).ownBlock) (fun _ => False) rfl rfl ?aP (fun _ hk => hk.elim) ?aF ?aO ?aB ?aS ?aL ?_; (case aP => exact rfl); (case aB => exact (by repeat (first | (with_reducible first | exact HB.out | apply wA | apply wN | apply wD | refine below_set ?_ GE127.out | refine below_set ?_ GE136.out) | exact HB.out))); (case aF => exact (fun k_ hk => Kd.fresh' (Kd.R_lt (by (with_reducible repeat (first | apply Kd.R_alloc | apply Kd.R_drewN | apply Kd.R_drew)); exact HO141.out)) k_ hk)); (case aO => exact (by (with_reducible repeat (first | apply Kd.R_alloc | apply Kd.R_drewN | apply Kd.R_drew)); exact Kd.R_mono HO_7.out (fun _ hk => hk.2))); (case aS => exact (below_size (by repeat (first | (with_reducible first | exact HB.out | apply wA | apply wN | apply wD | refine below_set ?_ GE127.out | refine below_set ?_ GE136.out) | exact HB.out)))); (case aL => have := LMc43.out; omega); intro v143 w52 ho hb hg hat; rw [← Ny142.out] at ho; have n0_ := ak (blk_grown (g := gb127) (o := .cells #[.int .i64 ((rd_T24 l0 x31_2).f0), .int .i64 ((rd_T24 l0 x31_2).f1)] 24 (0, 0)) (by (with_reducible repeat (first | refine bN ?_ _ | refine bD ?_ | refine bA ?_ _)); exact BK127.out) hg (Kd.R_ne HO_7.out BK127.out (by decide))); have n1_ := ak (blk_grown (g := gb136) (o := .cells #[.int .i64 ((rd_T24 l0 (rd x7_3 (ji27))).f0), .int .i64 ((rd_T24 l0 (rd x7_3 (ji27))).f1)] 24 (0, 0)) (by (with_reducible repeat (first | refine bN ?_ _ | refine bD ?_ | refine bA ?_ _)); exact BK136.out) hg (Kd.R_ne HO_7.out BK136.out (by decide))); have n2_ := ak (Kd.R_after (ok := (fun _ => True)) (by (with_reducible repeat (first | apply Kd.R_alloc | apply Kd.R_drewN | apply Kd.R_drew)); exact Kd.R_mono HO141.out (fun _ hk => ⟨trivial, hk⟩)) hg hat); have n3_ := ak (hb); have n4_ := ak (ho); clear BK127; clear BK136; clear HO141; clear HB; clear HO_7; have BK127 := n0_; have BK136 := n1_; have HO141 := n2_; have HB := n3_; have HO144 := n4_; clear n0_ n1_ n2_ n3_ n4_; clear ho hb hg hat))
                                          go_roundg k3
                                          case measure => have := HK1.out; have := HK2.out; have := HK3.out; omega
                                          case rel => exact ⟨(y139), (y142), (x8_3), (wrap64 (x31_2 + 1)), (by first | rfl | (simp; done) | (simp [*]; done)), (by first | rfl | (simp; done) | (simp [*]; done)), H', ⟨by have := HK1.out; have := HK2.out; have := HK3.out; omega⟩, ⟨by (with_reducible repeat (first | apply Kd.R_alloc | apply Kd.R_drewN | apply Kd.R_drew)); exact Kd.R_mono HO141.out (fun _ hk => hk.2)⟩, ⟨by (with_reducible repeat (first | apply Kd.R_alloc | apply Kd.R_drewN | apply Kd.R_drew)); exact HO144.out⟩, ⟨by repeat (first | (with_reducible first | exact HB.out | apply wA | apply wN | apply wD | refine below_set ?_ GE127.out | refine below_set ?_ GE136.out) | exact HB.out)⟩⟩
                                        · rw [if_neg c43] at H
                                          exact absurd H (by simp)
                                      · rw [if_neg c42] at H
                                        exact absurd H (by simp)
                                  · replace c33 := Bool.eq_false_iff.mpr c33
                                    subst c33
                                    have H1 : ((spans_before.f ((rd_T24 l0 (rd x7_3 (ji27))).f0) ((rd_T24 l0 (rd x7_3 (ji27))).f1) ((rd_T24 l0 x31_2).f0) ((rd_T24 l0 x31_2).f1)).bind fun t145 => (if t145 = true then (if (ji27) ≤ (x7_3.length : Int) then (spans_Nest.l2 k3 l0 x2_3 (x7_3.take ((ji27) : Int).toNat) (mx x8_3 ((rd_T24 l0 (rd x7_3 (ji27))).f1)) x31_2 ji27 l0 (l0.length : Int) x31_2 ((rd_T24 l0 x31_2).f0) ((rd_T24 l0 x31_2).f1)) else (none)) else (some (([] : List Int), x31_2, 6)))) = some (r1, r2, r3) := by rw [if_neg (show ¬ (false = true) by decide)] at H; exact H
                                    clear H
                                    have H := H1
                                    clear H1
                                    replace H := Option.bind_eq_some_iff.mp H
                                    obtain ⟨t145, A530, H⟩ := H
                                    replace H : (if t145 = true then (if (ji27) ≤ (x7_3.length : Int) then (spans_Nest.l2 k3 l0 x2_3 (x7_3.take ((ji27) : Int).toNat) (mx x8_3 ((rd_T24 l0 (rd x7_3 (ji27))).f1)) x31_2 ji27 l0 (l0.length : Int) x31_2 ((rd_T24 l0 x31_2).f0) ((rd_T24 l0 x31_2).f1)) else (none)) else (some (([] : List Int), x31_2, 6))) = some (r1, r2, r3) := H
                                    have A53 := ak A530
                                    clear A530
                                    by_cases c54 : t145 = true
                                    · subst c54
                                      have H1 : (if (ji27) ≤ (x7_3.length : Int) then (spans_Nest.l2 k3 l0 x2_3 (x7_3.take ((ji27) : Int).toNat) (mx x8_3 ((rd_T24 l0 (rd x7_3 (ji27))).f1)) x31_2 ji27 l0 (l0.length : Int) x31_2 ((rd_T24 l0 x31_2).f0) ((rd_T24 l0 x31_2).f1)) else (none)) = some (r1, r2, r3) := by rw [if_pos rfl] at H; exact H
                                      clear H
                                      have H := H1
                                      clear H1
                                      obtain ⟨ji55, hji55⟩ : ∃ j_ : Int, (mx x8_3 ((rd_T24 l0 (rd x7_3 (ji27))).f1)) = j_ := ⟨_, rfl⟩
                                      replace H : (if (ji27) ≤ (x7_3.length : Int) then (spans_Nest.l2 k3 l0 x2_3 (x7_3.take ((ji27) : Int).toNat) ji55 x31_2 ji27 l0 (l0.length : Int) x31_2 ((rd_T24 l0 x31_2).f0) ((rd_T24 l0 x31_2).f1)) else (none)) = some (r1, r2, r3) := by first | (rw [hji55] at H; exact H) | (simp only [hji55] at H ⊢; exact H)
                                      (try rw [hji55] at A32)
                                      (try rw [hji55] at A53)
                                      have hji55_ : (if x8_3 < ((rd_T24 l0 (rd x7_3 (ji27))).f1) then ((rd_T24 l0 (rd x7_3 (ji27))).f1) else x8_3) = ji55 := hji55
                                      by_cases c56 : (ji27) ≤ (x7_3.length : Int)
                                      · rw [if_pos c56] at H
                                        have c56b0 := eq_true c56
                                        have c56b1 : decide ((ji27) ≤ (x7_3.length : Int)) = true := decide_eq_true c56
                                        clear c56
                                        obtain ⟨y146, hy146⟩ : ∃ y_ : List Int, y_ = (x7_3.take ((ji27) : Int).toNat) := ⟨_, rfl⟩
                                        replace H : (spans_Nest.l2 k3 l0 x2_3 y146 ji55 x31_2 ji27 l0 (l0.length : Int) x31_2 ((rd_T24 l0 x31_2).f0) ((rd_T24 l0 x31_2).f1)) = some (r1, r2, r3) := by first | (rw [hy146]; with_reducible exact H) | (have H2_ := (Option.bind_some _ _).symm.trans H; rw [hy146]; with_reducible exact H2_) | (have H2_ := (Option.bind_some _ _).symm.trans H; with_reducible exact H2_) | with_reducible exact H | (rw [hy146]; exact H) | exact H
                                        have Ny146 := ak hy146
                                        clear hy146
                                        have H' := ak H
                                        clear H
                                        obtain ⟨Ao57, co57, eo57⟩ := Kd.R_slice HO_7.out
                                        subst eo57
                                        have p134 : 0 ≤ ((ji27) : Int) := of_decide_eq_true (by first | (with_reducible assumption) | assumption)
                                        have q134 : (ji27) < (x7_3.length : Int) := of_decide_eq_true (by first | (with_reducible assumption) | assumption)
                                        obtain ⟨ad134, e134, hx134_0⟩ := Kd.at_int (Kd.R_reads' HO_7.out).2.2 (ji27) p134 q134
                                        cases e134
                                        replace p134 := eq_true p134
                                        replace q134 := eq_true q134
                                        have p135 : 0 ≤ ((rd x7_3 (ji27)) : Int) := of_decide_eq_true (by first | (with_reducible assumption) | assumption)
                                        have q135 : (rd x7_3 (ji27)) < (l0.length : Int) := of_decide_eq_true (by first | (with_reducible assumption) | assumption)
                                        obtain ⟨ad135, e135, hx135_0, hx135_1⟩ := at_T24 HR0.out (rd x7_3 (ji27)) p135 q135
                                        obtain rfl : ad126 = ad135 := (by injection e135)
                                        replace hx135_0 := (HB.out.cell (World.block_lt_of_cell? w _ hx135_0)).trans hx135_0
                                        replace hx135_1 := (HB.out.cell (World.block_lt_of_cell? w _ hx135_1)).trans hx135_1
                                        replace p135 := eq_true p135
                                        replace q135 := eq_true q135
                                        go_wp2_with (first | ((with_reducible refine gate_dst (N := 12) rfl ?_); refine box_event ?hg (N := 12) ?hd (cs := #[.int .i64 0, .int .i64 0]) (t := 24) ?hr ?_; (case hd => rfl); (case hg => rfl); (case hr => first | (go_simp; done) | (go_simp; rfl)); intro gb136 hg w58 hbox hb; have n0_ := ak (Kd.R_below (by (with_reducible repeat (first | apply Kd.R_alloc | apply Kd.R_drewN | apply Kd.R_drew)); exact HO_2.out) hb); have n1_ := ak (Kd.R_below (by (with_reducible repeat (first | apply Kd.R_alloc | apply Kd.R_drewN | apply Kd.R_drew)); exact HO_7.out) hb); have n2_ := ak (blk_below (g := gb127) (o := .cells #[.int .i64 ((rd_T24 l0 x31_2).f0), .int .i64 ((rd_T24 l0 x31_2).f1)] 24 (0, 0)) (by (with_reducible repeat (first | refine bN ?_ _ | refine bD ?_ | refine bA ?_ _)); exact BK127.out) hb); have n3_ := ak (below_step (by repeat (first | (with_reducible first | exact HB.out | apply wA | apply wN | apply wD | refine below_set ?_ GE127.out) | exact HB.out)) hb); have n4_ := ak (hbox); have n5_ := ak ((by rw [hg]; exact (below_size (by repeat (first | (with_reducible first | exact HB.out | apply wA | apply wN | apply wD | refine below_set ?_ GE127.out) | exact HB.out))) : w.heap.size ≤ gb136)); have n6_ := ak ((by rw [hg]; exact (below_size (by repeat (first | (with_reducible first | exact HB.out | apply wA | apply wN | apply wD | refine below_set ?_ GE127.out) | exact HB.out))) : w.heap.size ≤ gb136)); have n7_ := ak ((by rw [hg]; exact Nat.ne_of_lt (blk_lt (g := gb127) (o := .cells #[.int .i64 ((rd_T24 l0 x31_2).f0), .int .i64 ((rd_T24 l0 x31_2).f1)] 24 (0, 0)) (by (with_reducible repeat (first | refine bN ?_ _ | refine bD ?_ | refine bA ?_ _)); exact BK127.out)) : gb127 ≠ gb136)); have n8_ := ak ((by rw [hg]; exact Nat.ne_of_gt (blk_lt (g := gb127) (o := .cells #[.int .i64 ((rd_T24 l0 x31_2).f0), .int .i64 ((rd_T24 l0 x31_2).f1)] 24 (0, 0)) (by (with_reducible repeat (first | refine bN ?_ _ | refine bD ?_ | refine bA ?_ _)); exact BK127.out)) : gb136 ≠ gb127)); clear HO_2; clear HO_7; clear BK127; clear HB; have HO_2 := n0_; have HO_7 := n1_; have BK127 := n2_; have HB := n3_; have BK136 := n4_; have GW136 := n5_; have GE136 := n6_; have NB127_136 := n7_; have NB136_127 := n8_; clear n0_ n1_ n2_ n3_ n4_ n5_ n6_ n7_ n8_; clear hb hbox hg; have hnb59 := NB136_127.out; have hnc59 := NB127_136.out; have hcz60_0 : w58.cell? ⟨gb136, 0, none⟩ = some (.int .i64 0) := (blk_cell BK136.out 0).trans rfl; have hcz60_1 : w58.cell? ⟨gb136, 1, none⟩ = some (.int .i64 0) := (blk_cell BK136.out 1).trans rfl; have hfz60_0 := blk_frozen BK136.out 0; have hfz60_1 := blk_frozen BK136.out 1; have hcz61_0 : w58.cell? ⟨gb127, 0, none⟩ = some (.int .i64 ((rd_T24 l0 x31_2).f0)) := (blk_cell BK127.out 0).trans rfl; have hcz61_1 : w58.cell? ⟨gb127, 1, none⟩ = some (.int .i64 ((rd_T24 l0 x31_2).f1)) := (blk_cell BK127.out 1).trans rfl; have hfz61_0 := blk_frozen BK127.out 0; have hfz61_1 := blk_frozen BK127.out 1) | ((with_reducible refine gate_callee (f := 41) rfl ?_); refine goesL_ (some 54) rfl rfl Tryd.func41 (by kernel_rfl) rfl #[.agg #[.int .i64 ((rd_T24 l0 x31_2).f0), .int .i64 ((rd_T24 l0 x31_2).f1)], .agg #[.int .i64 ((rd_T24 l0 (rd x7_3 (ji27))).f0), .int .i64 ((rd_T24 l0 (rd x7_3 (ji27))).f1)]] rfl (by (try simp only [List.map_toArray, List.map_cons, List.map_nil]); first | done | (simp only [hji27]; rfl) | rfl | (simp only [List.length_drop, List.length_take]; rfl)) ?_; (with_reducible refine (spans_within.calls ((rd_T24 l0 x31_2).f0) ((rd_T24 l0 x31_2).f1) ((rd_T24 l0 (rd x7_3 (ji27))).f0) ((rd_T24 l0 (rd x7_3 (ji27))).f1) false _ A32.out).mono ?_); rintro e w62 ⟨rfl, hb⟩; refine ⟨_, rfl, ?_⟩; have n0_ := ak (Kd.R_below (by (with_reducible repeat (first | apply Kd.R_alloc | apply Kd.R_drewN | apply Kd.R_drew)); exact (Kd.R_mono (Kd.R_far (p := ⟨gb136, 1, none⟩) (Kd.R_far (p := ⟨gb136, 0, none⟩) (Kd.R_types HO_2.out BK136.out (by decide)) (fun _ hk => hk.2) (.int .i64 ((rd_T24 l0 (rd x7_3 (ji27))).f0))) (fun _ hk => hk.2) (.int .i64 ((rd_T24 l0 (rd x7_3 (ji27))).f1))) (fun _ h_ => h_.1))) hb); have n1_ := ak (Kd.R_below (by (with_reducible repeat (first | apply Kd.R_alloc | apply Kd.R_drewN | apply Kd.R_drew)); exact (Kd.R_mono (Kd.R_far (p := ⟨gb136, 1, none⟩) (Kd.R_far (p := ⟨gb136, 0, none⟩) (Kd.R_types HO_7.out BK136.out (by decide)) (fun _ hk => hk.2) (.int .i64 ((rd_T24 l0 (rd x7_3 (ji27))).f0))) (fun _ hk => hk.2) (.int .i64 ((rd_T24 l0 (rd x7_3 (ji27))).f1))) (fun _ h_ => h_.1))) hb); have n2_ := ak (blk_below (g := gb127) (o := .cells #[.int .i64 ((rd_T24 l0 x31_2).f0), .int .i64 ((rd_T24 l0 x31_2).f1)] 24 (0, 0)) (by (with_reducible repeat (first | refine bN ?_ _ | refine bD ?_ | refine bA ?_ _)); refine blk_far ?_ NB127_136.out _; (with_reducible repeat (first | refine bN ?_ _ | refine bD ?_ | refine bA ?_ _)); refine blk_far ?_ NB127_136.out _; (with_reducible repeat (first | refine bN ?_ _ | refine bD ?_ | refine bA ?_ _)); exact BK127.out) hb); have n3_ := ak (blk_below (g := gb136) (o := .cells #[.int .i64 ((rd_T24 l0 (rd x7_3 (ji27))).f0), .int .i64 ((rd_T24 l0 (rd x7_3 (ji27))).f1)] 24 (0, 0)) (by (with_reducible repeat (first | refine bN ?_ _ | refine bD ?_ | refine bA ?_ _)); refine blk_put (cs := #[.int .i64 ((rd_T24 l0 (rd x7_3 (ji27))).f0), .int .i64 0]) ?_ 1 _ rfl; (with_reducible repeat (first | refine bN ?_ _ | refine bD ?_ | refine bA ?_ _)); refine blk_put (cs := #[.int .i64 0, .int .i64 0]) ?_ 0 _ rfl; (with_reducible repeat (first | refine bN ?_ _ | refine bD ?_ | refine bA ?_ _)); exact BK136.out) hb); have n4_ := ak (below_step (by repeat (first | (with_reducible first | exact HB.out | apply wA | apply wN | apply wD | refine below_set ?_ GE127.out | refine below_set ?_ GE136.out) | exact HB.out)) hb); clear HO_2; clear HO_7; clear BK127; clear BK136; clear HB; have HO_2 := n0_; have HO_7 := n1_; have BK127 := n2_; have BK136 := n3_; have HB := n4_; clear n0_ n1_ n2_ n3_ n4_; (try clear hb); (try clear hb2); (try clear hk); (try clear hi); have hcz63_0 : w62.cell? ⟨gb136, 0, none⟩ = some (.int .i64 ((rd_T24 l0 (rd x7_3 (ji27))).f0)) := (blk_cell BK136.out 0).trans rfl; have hcz63_1 : w62.cell? ⟨gb136, 1, none⟩ = some (.int .i64 ((rd_T24 l0 (rd x7_3 (ji27))).f1)) := (blk_cell BK136.out 1).trans rfl; have hfz63_0 := blk_frozen BK136.out 0; have hfz63_1 := blk_frozen BK136.out 1; have hcz64_0 : w62.cell? ⟨gb127, 0, none⟩ = some (.int .i64 ((rd_T24 l0 x31_2).f0)) := (blk_cell BK127.out 0).trans rfl; have hcz64_1 : w62.cell? ⟨gb127, 1, none⟩ = some (.int .i64 ((rd_T24 l0 x31_2).f1)) := (blk_cell BK127.out 1).trans rfl; have hfz64_0 := blk_frozen BK127.out 0; have hfz64_1 := blk_frozen BK127.out 1) | ((with_reducible refine gate_callee (f := 42) rfl ?_); refine goesL_ (some 58) rfl rfl Tryd.func42 (by kernel_rfl) rfl #[.agg #[.int .i64 ((rd_T24 l0 (rd x7_3 (ji27))).f0), .int .i64 ((rd_T24 l0 (rd x7_3 (ji27))).f1)], .agg #[.int .i64 ((rd_T24 l0 x31_2).f0), .int .i64 ((rd_T24 l0 x31_2).f1)]] rfl (by (try simp only [List.map_toArray, List.map_cons, List.map_nil]); first | done | (simp only [hji27]; rfl) | rfl | (simp only [List.length_drop, List.length_take]; rfl)) ?_; (with_reducible refine (spans_before.calls ((rd_T24 l0 (rd x7_3 (ji27))).f0) ((rd_T24 l0 (rd x7_3 (ji27))).f1) ((rd_T24 l0 x31_2).f0) ((rd_T24 l0 x31_2).f1) true _ A53.out).mono ?_); rintro e w65 ⟨rfl, hb⟩; refine ⟨_, rfl, ?_⟩; have n0_ := ak (Kd.R_below (by (with_reducible repeat (first | apply Kd.R_alloc | apply Kd.R_drewN | apply Kd.R_drew)); exact HO_2.out) hb); have n1_ := ak (Kd.R_below (by (with_reducible repeat (first | apply Kd.R_alloc | apply Kd.R_drewN | apply Kd.R_drew)); exact HO_7.out) hb); have n2_ := ak (blk_below (g := gb127) (o := .cells #[.int .i64 ((rd_T24 l0 x31_2).f0), .int .i64 ((rd_T24 l0 x31_2).f1)] 24 (0, 0)) (by (with_reducible repeat (first | refine bN ?_ _ | refine bD ?_ | refine bA ?_ _)); exact BK127.out) hb); have n3_ := ak (blk_below (g := gb136) (o := .cells #[.int .i64 ((rd_T24 l0 (rd x7_3 (ji27))).f0), .int .i64 ((rd_T24 l0 (rd x7_3 (ji27))).f1)] 24 (0, 0)) (by (with_reducible repeat (first | refine bN ?_ _ | refine bD ?_ | refine bA ?_ _)); exact BK136.out) hb); have n4_ := ak (below_step (by repeat (first | (with_reducible first | exact HB.out | apply wA | apply wN | apply wD | refine below_set ?_ GE127.out | refine below_set ?_ GE136.out) | exact HB.out)) hb); clear HO_2; clear HO_7; clear BK127; clear BK136; clear HB; have HO_2 := n0_; have HO_7 := n1_; have BK127 := n2_; have BK136 := n3_; have HB := n4_; clear n0_ n1_ n2_ n3_ n4_; (try clear hb); (try clear hb2); (try clear hk); (try clear hi); have hcz66_0 : w65.cell? ⟨gb136, 0, none⟩ = some (.int .i64 ((rd_T24 l0 (rd x7_3 (ji27))).f0)) := (blk_cell BK136.out 0).trans rfl; have hcz66_1 : w65.cell? ⟨gb136, 1, none⟩ = some (.int .i64 ((rd_T24 l0 (rd x7_3 (ji27))).f1)) := (blk_cell BK136.out 1).trans rfl; have hfz66_0 := blk_frozen BK136.out 0; have hfz66_1 := blk_frozen BK136.out 1; have q67 : ((ji27) : Int) ≤ ((x7_3.length : Int) : Int) := of_decide_eq_true (by first | (with_reducible assumption) | assumption); obtain ⟨i067, hi067, _, hsz67, _⟩ := info_parts info3; have hcut67 := cut_to (P := Tryd.prog) 31 3 .i64 Tryd.underlying31 hi067 (some ad134) x7_3.length co57 (ji27) (of_decide_eq_true (by first | (with_reducible assumption) | assumption)) q67 (Kd.R_reads' HO_7.out).2.1; have hr67 := Kd.R_take (m := ((ji27) : Int).toNat) HO_7.out (by omega); have hy67 : y146.length = ((ji27) : Int).toNat := (by rw [Ny146.out, List.length_take]; omega); rw [← Ny146.out] at hr67; rw [← hy67] at hr67 hcut67; clear hy67 hi067 hsz67 HO_7; have HO148 := ak hr67; clear hr67; replace q67 := eq_true q67))
                                        go_roundg k3
                                        case measure => have := HK1.out; have := HK2.out; have := HK3.out; omega
                                        case rel => exact ⟨(x2_3), (y146), (ji55), (ji27), (by first | rfl | (simp; done) | (simp only [← hji55] <;> (first | rfl | simp)) | (simp [*]; done)), (by first | rfl | (simp; done) | (simp only [← hji27] <;> (first | rfl | simp)) | (simp [*]; done)), H', ⟨by have := HK1.out; have := HK2.out; have := HK3.out; omega⟩, ⟨by (with_reducible repeat (first | apply Kd.R_alloc | apply Kd.R_drewN | apply Kd.R_drew)); exact HO_2.out⟩, ⟨by (with_reducible repeat (first | apply Kd.R_alloc | apply Kd.R_drewN | apply Kd.R_drew)); exact HO148.out⟩, ⟨by (with_reducible repeat (first | refine bN ?_ _ | refine bD ?_ | refine bA ?_ _)); exact BK127.out⟩, ⟨by repeat (first | (with_reducible first | exact HB.out | apply wA | apply wN | apply wD | refine below_set ?_ GE127.out | refine below_set ?_ GE136.out) | exact HB.out)⟩⟩
                                      · rw [if_neg c56] at H
                                        exact absurd H (by simp)
                                    · replace c54 := Bool.eq_false_iff.mpr c54
                                      subst c54
                                      have H1 : (some (([] : List Int), x31_2, 6)) = some (r1, r2, r3) := by rw [if_neg (show ¬ (false = true) by decide)] at H; exact H
                                      clear H
                                      have H := H1
                                      clear H1
                                      simp only [Option.some.injEq, Prod.mk.injEq] at H
                                      obtain ⟨rfl, rfl, rfl⟩ := H
                                      obtain ⟨Ao68, co68, eo68⟩ := Kd.R_slice HO_7.out
                                      subst eo68
                                      have p134 : 0 ≤ ((ji27) : Int) := of_decide_eq_true (by first | (with_reducible assumption) | assumption)
                                      have q134 : (ji27) < (x7_3.length : Int) := of_decide_eq_true (by first | (with_reducible assumption) | assumption)
                                      obtain ⟨ad134, e134, hx134_0⟩ := Kd.at_int (Kd.R_reads' HO_7.out).2.2 (ji27) p134 q134
                                      cases e134
                                      replace p134 := eq_true p134
                                      replace q134 := eq_true q134
                                      have p135 : 0 ≤ ((rd x7_3 (ji27)) : Int) := of_decide_eq_true (by first | (with_reducible assumption) | assumption)
                                      have q135 : (rd x7_3 (ji27)) < (l0.length : Int) := of_decide_eq_true (by first | (with_reducible assumption) | assumption)
                                      obtain ⟨ad135, e135, hx135_0, hx135_1⟩ := at_T24 HR0.out (rd x7_3 (ji27)) p135 q135
                                      obtain rfl : ad126 = ad135 := (by injection e135)
                                      replace hx135_0 := (HB.out.cell (World.block_lt_of_cell? w _ hx135_0)).trans hx135_0
                                      replace hx135_1 := (HB.out.cell (World.block_lt_of_cell? w _ hx135_1)).trans hx135_1
                                      replace p135 := eq_true p135
                                      replace q135 := eq_true q135
                                      go_wp2_with (first | ((with_reducible refine gate_dst (N := 12) rfl ?_); refine box_event ?hg (N := 12) ?hd (cs := #[.int .i64 0, .int .i64 0]) (t := 24) ?hr ?_; (case hd => rfl); (case hg => rfl); (case hr => first | (go_simp; done) | (go_simp; rfl)); intro gb136 hg w69 hbox hb; have n0_ := ak (Kd.R_below (by (with_reducible repeat (first | apply Kd.R_alloc | apply Kd.R_drewN | apply Kd.R_drew)); exact HO_2.out) hb); have n1_ := ak (Kd.R_below (by (with_reducible repeat (first | apply Kd.R_alloc | apply Kd.R_drewN | apply Kd.R_drew)); exact HO_7.out) hb); have n2_ := ak (blk_below (g := gb127) (o := .cells #[.int .i64 ((rd_T24 l0 x31_2).f0), .int .i64 ((rd_T24 l0 x31_2).f1)] 24 (0, 0)) (by (with_reducible repeat (first | refine bN ?_ _ | refine bD ?_ | refine bA ?_ _)); exact BK127.out) hb); have n3_ := ak (below_step (by repeat (first | (with_reducible first | exact HB.out | apply wA | apply wN | apply wD | refine below_set ?_ GE127.out) | exact HB.out)) hb); have n4_ := ak (hbox); have n5_ := ak ((by rw [hg]; exact (below_size (by repeat (first | (with_reducible first | exact HB.out | apply wA | apply wN | apply wD | refine below_set ?_ GE127.out) | exact HB.out))) : w.heap.size ≤ gb136)); have n6_ := ak ((by rw [hg]; exact (below_size (by repeat (first | (with_reducible first | exact HB.out | apply wA | apply wN | apply wD | refine below_set ?_ GE127.out) | exact HB.out))) : w.heap.size ≤ gb136)); have n7_ := ak ((by rw [hg]; exact Nat.ne_of_lt (blk_lt (g := gb127) (o := .cells #[.int .i64 ((rd_T24 l0 x31_2).f0), .int .i64 ((rd_T24 l0 x31_2).f1)] 24 (0, 0)) (by (with_reducible repeat (first | refine bN ?_ _ | refine bD ?_ | refine bA ?_ _)); exact BK127.out)) : gb127 ≠ gb136)); have n8_ := ak ((by rw [hg]; exact Nat.ne_of_gt (blk_lt (g := gb127) (o := .cells #[.int .i64 ((rd_T24 l0 x31_2).f0), .int .i64 ((rd_T24 l0 x31_2).f1)] 24 (0, 0)) (by (with_reducible repeat (first | refine bN ?_ _ | refine bD ?_ | refine bA ?_ _)); exact BK127.out)) : gb136 ≠ gb127)); clear HO_2; clear HO_7; clear BK127; clear HB; have HO_2 := n0_; have HO_7 := n1_; have BK127 := n2_; have HB := n3_; have BK136 := n4_; have GW136 := n5_; have GE136 := n6_; have NB127_136 := n7_; have NB136_127 := n8_; clear n0_ n1_ n2_ n3_ n4_ n5_ n6_ n7_ n8_; clear hb hbox hg; have hnb70 := NB136_127.out; have hnc70 := NB127_136.out; have hcz71_0 : w69.cell? ⟨gb136, 0, none⟩ = some (.int .i64 0) := (blk_cell BK136.out 0).trans rfl; have hcz71_1 : w69.cell? ⟨gb136, 1, none⟩ = some (.int .i64 0) := (blk_cell BK136.out 1).trans rfl; have hfz71_0 := blk_frozen BK136.out 0; have hfz71_1 := blk_frozen BK136.out 1; have hcz72_0 : w69.cell? ⟨gb127, 0, none⟩ = some (.int .i64 ((rd_T24 l0 x31_2).f0)) := (blk_cell BK127.out 0).trans rfl; have hcz72_1 : w69.cell? ⟨gb127, 1, none⟩ = some (.int .i64 ((rd_T24 l0 x31_2).f1)) := (blk_cell BK127.out 1).trans rfl; have hfz72_0 := blk_frozen BK127.out 0; have hfz72_1 := blk_frozen BK127.out 1) | ((with_reducible refine gate_callee (f := 41) rfl ?_); refine goesL_ (some 54) rfl rfl Tryd.func41 (by kernel_rfl) rfl #[.agg #[.int .i64 ((rd_T24 l0 x31_2).f0), .int .i64 ((rd_T24 l0 x31_2).f1)], .agg #[.int .i64 ((rd_T24 l0 (rd x7_3 (ji27))).f0), .int .i64 ((rd_T24 l0 (rd x7_3 (ji27))).f1)]] rfl (by (try simp only [List.map_toArray, List.map_cons, List.map_nil]); first | done | (simp only [hji27]; rfl) | rfl | (simp only [List.length_drop, List.length_take]; rfl)) ?_; (with_reducible refine (spans_within.calls ((rd_T24 l0 x31_2).f0) ((rd_T24 l0 x31_2).f1) ((rd_T24 l0 (rd x7_3 (ji27))).f0) ((rd_T24 l0 (rd x7_3 (ji27))).f1) false _ A32.out).mono ?_); rintro e w73 ⟨rfl, hb⟩; refine ⟨_, rfl, ?_⟩; have n0_ := ak (Kd.R_below (by (with_reducible repeat (first | apply Kd.R_alloc | apply Kd.R_drewN | apply Kd.R_drew)); exact (Kd.R_mono (Kd.R_far (p := ⟨gb136, 1, none⟩) (Kd.R_far (p := ⟨gb136, 0, none⟩) (Kd.R_types HO_2.out BK136.out (by decide)) (fun _ hk => hk.2) (.int .i64 ((rd_T24 l0 (rd x7_3 (ji27))).f0))) (fun _ hk => hk.2) (.int .i64 ((rd_T24 l0 (rd x7_3 (ji27))).f1))) (fun _ h_ => h_.1))) hb); have n1_ := ak (Kd.R_below (by (with_reducible repeat (first | apply Kd.R_alloc | apply Kd.R_drewN | apply Kd.R_drew)); exact (Kd.R_mono (Kd.R_far (p := ⟨gb136, 1, none⟩) (Kd.R_far (p := ⟨gb136, 0, none⟩) (Kd.R_types HO_7.out BK136.out (by decide)) (fun _ hk => hk.2) (.int .i64 ((rd_T24 l0 (rd x7_3 (ji27))).f0))) (fun _ hk => hk.2) (.int .i64 ((rd_T24 l0 (rd x7_3 (ji27))).f1))) (fun _ h_ => h_.1))) hb); have n2_ := ak (blk_below (g := gb127) (o := .cells #[.int .i64 ((rd_T24 l0 x31_2).f0), .int .i64 ((rd_T24 l0 x31_2).f1)] 24 (0, 0)) (by (with_reducible repeat (first | refine bN ?_ _ | refine bD ?_ | refine bA ?_ _)); refine blk_far ?_ NB127_136.out _; (with_reducible repeat (first | refine bN ?_ _ | refine bD ?_ | refine bA ?_ _)); refine blk_far ?_ NB127_136.out _; (with_reducible repeat (first | refine bN ?_ _ | refine bD ?_ | refine bA ?_ _)); exact BK127.out) hb); have n3_ := ak (blk_below (g := gb136) (o := .cells #[.int .i64 ((rd_T24 l0 (rd x7_3 (ji27))).f0), .int .i64 ((rd_T24 l0 (rd x7_3 (ji27))).f1)] 24 (0, 0)) (by (with_reducible repeat (first | refine bN ?_ _ | refine bD ?_ | refine bA ?_ _)); refine blk_put (cs := #[.int .i64 ((rd_T24 l0 (rd x7_3 (ji27))).f0), .int .i64 0]) ?_ 1 _ rfl; (with_reducible repeat (first | refine bN ?_ _ | refine bD ?_ | refine bA ?_ _)); refine blk_put (cs := #[.int .i64 0, .int .i64 0]) ?_ 0 _ rfl; (with_reducible repeat (first | refine bN ?_ _ | refine bD ?_ | refine bA ?_ _)); exact BK136.out) hb); have n4_ := ak (below_step (by repeat (first | (with_reducible first | exact HB.out | apply wA | apply wN | apply wD | refine below_set ?_ GE127.out | refine below_set ?_ GE136.out) | exact HB.out)) hb); clear HO_2; clear HO_7; clear BK127; clear BK136; clear HB; have HO_2 := n0_; have HO_7 := n1_; have BK127 := n2_; have BK136 := n3_; have HB := n4_; clear n0_ n1_ n2_ n3_ n4_; (try clear hb); (try clear hb2); (try clear hk); (try clear hi); have hcz74_0 : w73.cell? ⟨gb136, 0, none⟩ = some (.int .i64 ((rd_T24 l0 (rd x7_3 (ji27))).f0)) := (blk_cell BK136.out 0).trans rfl; have hcz74_1 : w73.cell? ⟨gb136, 1, none⟩ = some (.int .i64 ((rd_T24 l0 (rd x7_3 (ji27))).f1)) := (blk_cell BK136.out 1).trans rfl; have hfz74_0 := blk_frozen BK136.out 0; have hfz74_1 := blk_frozen BK136.out 1; have hcz75_0 : w73.cell? ⟨gb127, 0, none⟩ = some (.int .i64 ((rd_T24 l0 x31_2).f0)) := (blk_cell BK127.out 0).trans rfl; have hcz75_1 : w73.cell? ⟨gb127, 1, none⟩ = some (.int .i64 ((rd_T24 l0 x31_2).f1)) := (blk_cell BK127.out 1).trans rfl; have hfz75_0 := blk_frozen BK127.out 0; have hfz75_1 := blk_frozen BK127.out 1) | ((with_reducible refine gate_callee (f := 42) rfl ?_); refine goesL_ (some 58) rfl rfl Tryd.func42 (by kernel_rfl) rfl #[.agg #[.int .i64 ((rd_T24 l0 (rd x7_3 (ji27))).f0), .int .i64 ((rd_T24 l0 (rd x7_3 (ji27))).f1)], .agg #[.int .i64 ((rd_T24 l0 x31_2).f0), .int .i64 ((rd_T24 l0 x31_2).f1)]] rfl (by (try simp only [List.map_toArray, List.map_cons, List.map_nil]); first | done | (simp only [hji27]; rfl) | rfl | (simp only [List.length_drop, List.length_take]; rfl)) ?_; (with_reducible refine (spans_before.calls ((rd_T24 l0 (rd x7_3 (ji27))).f0) ((rd_T24 l0 (rd x7_3 (ji27))).f1) ((rd_T24 l0 x31_2).f0) ((rd_T24 l0 x31_2).f1) false _ A53.out).mono ?_); rintro e w76 ⟨rfl, hb⟩; refine ⟨_, rfl, ?_⟩; have n0_ := ak (Kd.R_below (by (with_reducible repeat (first | apply Kd.R_alloc | apply Kd.R_drewN | apply Kd.R_drew)); exact HO_2.out) hb); have n1_ := ak (Kd.R_below (by (with_reducible repeat (first | apply Kd.R_alloc | apply Kd.R_drewN | apply Kd.R_drew)); exact HO_7.out) hb); have n2_ := ak (blk_below (g := gb127) (o := .cells #[.int .i64 ((rd_T24 l0 x31_2).f0), .int .i64 ((rd_T24 l0 x31_2).f1)] 24 (0, 0)) (by (with_reducible repeat (first | refine bN ?_ _ | refine bD ?_ | refine bA ?_ _)); exact BK127.out) hb); have n3_ := ak (blk_below (g := gb136) (o := .cells #[.int .i64 ((rd_T24 l0 (rd x7_3 (ji27))).f0), .int .i64 ((rd_T24 l0 (rd x7_3 (ji27))).f1)] 24 (0, 0)) (by (with_reducible repeat (first | refine bN ?_ _ | refine bD ?_ | refine bA ?_ _)); exact BK136.out) hb); have n4_ := ak (below_step (by repeat (first | (with_reducible first | exact HB.out | apply wA | apply wN | apply wD | refine below_set ?_ GE127.out | refine below_set ?_ GE136.out) | exact HB.out)) hb); clear HO_2; clear HO_7; clear BK127; clear BK136; clear HB; have HO_2 := n0_; have HO_7 := n1_; have BK127 := n2_; have BK136 := n3_; have HB := n4_; clear n0_ n1_ n2_ n3_ n4_; (try clear hb); (try clear hb2); (try clear hk); (try clear hi)))
                                      (first | refine ngr ?_ | skip)
                                      go_ret3
                                      exact ⟨_, by first | rfl | (simp [errW_none, errW_some] <;> rfl) | (simp only [← hji27]; first | rfl | (simp [errW_none, errW_some] <;> rfl)) | (simp [*, errW_none, errW_some] <;> rfl), by first | exact Kd.R_nil _ _ _ _ _ | exact Kd.N_nil _ _ _ _ _ | exact Kd.V_nil _ _ _ _ _ | exact Kd.Q_nil _ _ _ _ _ | exact Kd.S_nil _ _ _ _ _, by repeat (first | (with_reducible first | exact HB.out | apply wA | apply wN | apply wD | refine below_set ?_ GE127.out | refine below_set ?_ GE136.out) | exact HB.out)⟩
                                · rw [if_neg c31] at H
                                  exact absurd H (by simp)
                              · rw [if_neg c30] at H
                                exact absurd H (by simp)
                            · rw [if_neg c29] at H
                              exact absurd H (by simp)
                          · rw [if_neg c28] at H
                            exact absurd H (by simp)
                        · rw [if_neg c26] at H
                          have c26b0 : decide (0 < x11_3) = false := decide_eq_false c26
                          clear c26
                          by_cases c77 : ((rd_T24 l0 x31_2).f0) < x8_3
                          · rw [if_pos c77] at H
                            have c77b0 : decide (((rd_T24 l0 x31_2).f0) < x8_3) = true := decide_eq_true c77
                            clear c77
                            simp only [Option.some.injEq, Prod.mk.injEq] at H
                            obtain ⟨rfl, rfl, rfl⟩ := H
                            have hcz78_0 : wr.cell? ⟨gb127, 0, none⟩ = some (.int .i64 ((rd_T24 l0 x31_2).f0)) := (blk_cell BK127.out 0).trans rfl
                            have hcz78_1 : wr.cell? ⟨gb127, 1, none⟩ = some (.int .i64 ((rd_T24 l0 x31_2).f1)) := (blk_cell BK127.out 1).trans rfl
                            have hfz78_0 := blk_frozen BK127.out 0
                            have hfz78_1 := blk_frozen BK127.out 1
                            go_wp2
                            (first | refine ngr ?_ | skip)
                            go_ret3
                            exact ⟨_, by first | rfl | (simp [errW_none, errW_some] <;> rfl) | (simp [*, errW_none, errW_some] <;> rfl), by first | exact Kd.R_nil _ _ _ _ _ | exact Kd.N_nil _ _ _ _ _ | exact Kd.V_nil _ _ _ _ _ | exact Kd.Q_nil _ _ _ _ _ | exact Kd.S_nil _ _ _ _ _, by repeat (first | (with_reducible first | exact HB.out | apply wA | apply wN | apply wD | refine below_set ?_ GE127.out) | exact HB.out)⟩
                          · rw [if_neg c77] at H
                            have c77b0 : decide (((rd_T24 l0 x31_2).f0) < x8_3) = false := decide_eq_false c77
                            clear c77
                            by_cases c79 : x2_3.length < 17592186044416
                            · rw [if_pos c79] at H
                              have LMc79 := ak c79
                              clear c79
                              obtain ⟨y128, hy128⟩ : ∃ y_ : List Int, y_ = (x2_3 ++ [(-1)]) := ⟨_, rfl⟩
                              replace H : (if x7_3.length < 17592186044416 then (spans_Nest.l1 k3 l0 y128 (x7_3 ++ [x31_2]) x8_3 l0 (l0.length : Int) (wrap64 (x31_2 + 1))) else (none)) = some (r1, r2, r3) := by first | (rw [hy128]; with_reducible exact H) | (have H2_ := (Option.bind_some _ _).symm.trans H; rw [hy128]; with_reducible exact H2_) | (have H2_ := (Option.bind_some _ _).symm.trans H; with_reducible exact H2_) | with_reducible exact H | (rw [hy128]; exact H) | exact H
                              have Ny128 := ak hy128
                              clear hy128
                              by_cases c80 : x7_3.length < 17592186044416
                              · rw [if_pos c80] at H
                                have LMc80 := ak c80
                                clear c80
                                obtain ⟨y131, hy131⟩ : ∃ y_ : List Int, y_ = (x7_3 ++ [x31_2]) := ⟨_, rfl⟩
                                replace H : (spans_Nest.l1 k3 l0 y128 y131 x8_3 l0 (l0.length : Int) (wrap64 (x31_2 + 1))) = some (r1, r2, r3) := by first | (rw [hy131]; with_reducible exact H) | (have H2_ := (Option.bind_some _ _).symm.trans H; rw [hy131]; with_reducible exact H2_) | (have H2_ := (Option.bind_some _ _).symm.trans H; with_reducible exact H2_) | with_reducible exact H | (rw [hy131]; exact H) | exact H
                                have Ny131 := ak hy131
                                clear hy131
                                have H' := ak H
                                clear H
                                have hcz81_0 : wr.cell? ⟨gb127, 0, none⟩ = some (.int .i64 ((rd_T24 l0 x31_2).f0)) := (blk_cell BK127.out 0).trans rfl
                                have hcz81_1 : wr.cell? ⟨gb127, 1, none⟩ = some (.int .i64 ((rd_T24 l0 x31_2).f1)) := (blk_cell BK127.out 1).trans rfl
                                have hfz81_0 := blk_frozen BK127.out 0
                                have hfz81_1 := blk_frozen BK127.out 1
                                go_wp2_with (first | ((with_reducible refine gate_builtin (b := .append) (xs := #[.tmp 89, .tmp 90]) rfl ?_); at_builtin; refine Kd.R_append (Kd.int .i64) (w0 := w) w.heap.size rfl (.tmp 89) (.tmp 90) 31 3 (.int .i64 0) 8 rfl Tryd.underlying31 info3 rfl (by decide) (by omega) u2 x2_3 (-1) [.int .i64 (-1)] (fun k_ => some k_ ≠ (u7 : Value).ownBlock) (fun _ => False) rfl rfl ?aP (fun _ hk => hk.elim) ?aF ?aO ?aB ?aS ?aL ?_; (case aP => exact rfl); (case aB => exact (by repeat (first | (with_reducible first | exact HB.out | apply wA | apply wN | apply wD | refine below_set ?_ GE127.out) | exact HB.out))); (case aF => exact (fun k_ hk => Kd.fresh' (Kd.R_lt (by (with_reducible repeat (first | apply Kd.R_alloc | apply Kd.R_drewN | apply Kd.R_drew)); exact HO_7.out)) k_ hk)); (case aO => exact (by (with_reducible repeat (first | apply Kd.R_alloc | apply Kd.R_drewN | apply Kd.R_drew)); exact HO_2.out)); (case aS => exact (below_size (by repeat (first | (with_reducible first | exact HB.out | apply wA | apply wN | apply wD | refine below_set ?_ GE127.out) | exact HB.out)))); (case aL => have := LMc79.out; omega); intro v129 w82 ho hb hg hat; rw [← Ny128.out] at ho; have n0_ := ak (Kd.R_after (ok := (fun _ => True)) (by (with_reducible repeat (first | apply Kd.R_alloc | apply Kd.R_drewN | apply Kd.R_drew)); exact Kd.R_mono HO_7.out (fun _ hk => ⟨trivial, hk⟩)) hg hat); have n1_ := ak (blk_grown (g := gb127) (o := .cells #[.int .i64 ((rd_T24 l0 x31_2).f0), .int .i64 ((rd_T24 l0 x31_2).f1)] 24 (0, 0)) (by (with_reducible repeat (first | refine bN ?_ _ | refine bD ?_ | refine bA ?_ _)); exact BK127.out) hg (Kd.R_ne HO_2.out BK127.out (by decide))); have n2_ := ak (hb); have n3_ := ak (ho); clear HO_7; clear BK127; clear HB; clear HO_2; have HO_7 := n0_; have BK127 := n1_; have HB := n2_; have HO130 := n3_; clear n0_ n1_ n2_ n3_; clear ho hb hg hat) | ((with_reducible refine gate_builtin (b := .append) (xs := #[.tmp 92, .tmp 94]) rfl ?_); at_builtin; refine Kd.R_append (Kd.int .i64) (w0 := w) w.heap.size rfl (.tmp 92) (.tmp 94) 31 3 (.int .i64 0) 8 rfl Tryd.underlying31 info3 rfl (by decide) (by omega) u7 x7_3 x31_2 [.int .i64 x31_2] (fun k_ => some k_ ≠ (v129 : Value).ownBlock) (fun _ => False) rfl rfl ?aP (fun _ hk => hk.elim) ?aF ?aO ?aB ?aS ?aL ?_; (case aP => exact rfl); (case aB => exact (by repeat (first | (with_reducible first | exact HB.out | apply wA | apply wN | apply wD | refine below_set ?_ GE127.out) | exact HB.out))); (case aF => exact (fun k_ hk => Kd.fresh' (Kd.R_lt (by (with_reducible repeat (first | apply Kd.R_alloc | apply Kd.R_drewN | apply Kd.R_drew)); exact HO130.out)) k_ hk)); (case aO => exact (by (with_reducible repeat (first | apply Kd.R_alloc | apply Kd.R_drewN | apply Kd.R_drew)); exact Kd.R_mono HO_7.out (fun _ hk => hk.2))); (case aS => exact (below_size (by repeat (first | (with_reducible first | exact HB.out | apply wA | apply wN | apply wD | refine below_set ?_ GE127.out) | exact HB.out)))); (case aL => have := LMc80.out; omega); intro v132 w83 ho hb hg hat; rw [← Ny131.out] at ho; have n0_ := ak (blk_grown (g := gb127) (o := .cells #[.int .i64 ((rd_T24 l0 x31_2).f0), .int .i64 ((rd_T24 l0 x31_2).f1)] 24 (0, 0)) (by (with_reducible repeat (first | refine bN ?_ _ | refine bD ?_ | refine bA ?_ _)); exact BK127.out) hg (Kd.R_ne HO_7.out BK127.out (by decide))); have n1_ := ak (Kd.R_after (ok := (fun _ => True)) (by (with_reducible repeat (first | apply Kd.R_alloc | apply Kd.R_drewN | apply Kd.R_drew)); exact Kd.R_mono HO130.out (fun _ hk => ⟨trivial, hk⟩)) hg hat); have n2_ := ak (hb); have n3_ := ak (ho); clear BK127; clear HO130; clear HB; clear HO_7; have BK127 := n0_; have HO130 := n1_; have HB := n2_; have HO133 := n3_; clear n0_ n1_ n2_ n3_; clear ho hb hg hat))
                                go_roundg k3
                                case measure => have := HK1.out; have := HK2.out; have := HK3.out; omega
                                case rel => exact ⟨(y128), (y131), (x8_3), (wrap64 (x31_2 + 1)), (by first | rfl | (simp; done) | (simp [*]; done)), (by first | rfl | (simp; done) | (simp [*]; done)), H', ⟨by have := HK1.out; have := HK2.out; have := HK3.out; omega⟩, ⟨by (with_reducible repeat (first | apply Kd.R_alloc | apply Kd.R_drewN | apply Kd.R_drew)); exact Kd.R_mono HO130.out (fun _ hk => hk.2)⟩, ⟨by (with_reducible repeat (first | apply Kd.R_alloc | apply Kd.R_drewN | apply Kd.R_drew)); exact HO133.out⟩, ⟨by repeat (first | (with_reducible first | exact HB.out | apply wA | apply wN | apply wD | refine below_set ?_ GE127.out) | exact HB.out)⟩⟩
                              · rw [if_neg c80] at H
                                exact absurd H (by simp)
                            · rw [if_neg c79] at H
                              exact absurd H (by simp)
                  · rw [if_neg c22] at H
                    exact absurd H (by simp)
                · rw [if_neg c21] at H
                  exact absurd H (by simp)
              · rw [if_neg c20] at H
                have c20b0 : decide (x31_2 < (l0.length : Int)) = false := decide_eq_false c20
                clear c20
                simp only [Option.some.injEq, Prod.mk.injEq] at H
                obtain ⟨rfl, rfl, rfl⟩ := H
                go_wp2
                (first | refine ngr ?_ | skip)
                go_ret3
                exact ⟨_, by first | rfl | (simp [errW_none, errW_some] <;> rfl) | (simp [*, errW_none, errW_some] <;> rfl), by (with_reducible repeat (first | apply Kd.R_alloc | apply Kd.R_drewN | apply Kd.R_drew)); exact Kd.R_mono HO_2.out (fun _ hk => trivial), by repeat (first | (with_reducible first | exact HB.out | apply wA | apply wN | apply wD) | exact HB.out)⟩

end Go.Proofs.YtnkfdobcmfdhfaaDoor.P
