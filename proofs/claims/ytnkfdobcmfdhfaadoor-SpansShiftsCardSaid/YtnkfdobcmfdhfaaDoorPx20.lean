-- Written by wip/tools/myprint.py of this session over the kit's print; Lean checks it.
import Derived.Test.YtnkfdobcmfdhfaaDoorPx0
import Derived.Test.YtnkfdobcmfdhfaaDoorPx1
import Derived.Test.YtnkfdobcmfdhfaaDoorPx4
import Derived.Test.YtnkfdobcmfdhfaaDoorPx5
import Derived.Test.YtnkfdobcmfdhfaaDoorPx6
import Derived.Test.YtnkfdobcmfdhfaaDoorPx15
import Derived.Test.YtnkfdobcmfdhfaaDoorPx18
import Derived.Test.YtnkfdobcmfdhfaaDoorPx19
namespace Go.Proofs.YtnkfdobcmfdhfaaDoor.P
open Go.RowKit Go.Proofs.YtnkfdobcmfdhfaaDoorW.PrintWords Go.Proofs.YtnkfdobcmfdhfaaDoorW.PrintLast Go.Proofs.YtnkfdobcmfdhfaaDoorW.PrintMore
attribute [local go_sem] max2_int min2_int max_two min_two max_three min_three max_four min_four   -- for this text's walks alone
set_option linter.unusedVariables false
set_option linter.unusedSimpArgs false

attribute [local go_sem high] eqA24
/-! ### mummerlaw03_SpansShifts: function 3 -/
mutual
def mummerlaw03_SpansShifts.j0 : Nat → List (S24) → Bool → Int → Int → Int → Option (Bool)
  | 0, _, _, _, _, _ => none
  | k + 1, x0, x28, x265000, x265001, x265002 => if x28 = true then ((mummerlaw03_awake.f k).bind fun t265 => (some t265)) else (mummerlaw03_SpansShifts.l0 k x0 0 x265000 x265001 x265002)
def mummerlaw03_SpansShifts.j3 : Nat → List (S24) → Option (Bool)
  | 0, _ => none
  | k + 1, x0 => (spans_Nest.f k x0).bind fun bt276 => ((mummerref03_Nest.f k x0).bind fun bt281 => ((mummerref02_SameInts.f k bt276.1 bt281.1).bind fun t286 => (if t286 = true then (if bt276.2.1 = bt281.2.1 then (if bt276.2.2 = bt281.2.2 then ((mummerlaw03_awake.f k).bind fun t287 => (some t287)) else (some false)) else (some false)) else (some false))))
def mummerlaw03_SpansShifts.l0 : Nat → List (S24) → Int → Int → Int → Int → Option (Bool)
  | 0, _, _, _, _, _ => none
  | k + 1, x0, x5, x265000, x265001, x265002 => if x5 < (x0.length : Int) then (mummerlaw03_SpansShifts.j2 k x0 x5 (decide (x5 < 60)) x265000 x265001 x265002) else (mummerlaw03_SpansShifts.j2 k x0 x5 false x265000 x265001 x265002)
def mummerlaw03_SpansShifts.j2 : Nat → List (S24) → Int → Bool → Int → Int → Int → Option (Bool)
  | 0, _, _, _, _, _, _ => none
  | k + 1, x0, x5, x37, x265000, x265001, x265002 => if x37 = true then (if 0 ≤ x5 then (if x5 < (x0.length : Int) then ((spans_Shift.f k ((rd_T24 x0 x5).f0) ((rd_T24 x0 x5).f1) x265000 x265001 x265002).bind fun bt267 => ((mummerref03_Shift.f k ((rd_T24 x0 x5).f0) ((rd_T24 x0 x5).f1) x265000 x265001 x265002).bind fun bt272 => (if (!(bt267.1 == bt272.1) || (!(bt267.2.1 == bt272.2.1))) = true then (some false) else (if bt267.2.2 = bt272.2.2 then (mummerlaw03_SpansShifts.l0 k x0 (wrap64 (x5 + 1)) x265000 x265001 x265002) else (some false))))) else (none)) else (none)) else (mummerlaw03_SpansShifts.j3 k x0)
end
def mummerlaw03_SpansShifts.f (k : Nat) (l0 : List (S24)) (a1_0 : Int) (a1_1 : Int) (a1_2 : Int) : Option (Bool) := if (l0.length : Int) > 60 then (if (l0.length : Int) ≤ 2000 then (mummerlaw03_SpansShifts.j0 k l0 true a1_0 a1_1 a1_2) else (mummerlaw03_SpansShifts.j0 k l0 (decide ((l0.length : Int) > 2010)) a1_0 a1_1 a1_2)) else (mummerlaw03_SpansShifts.j0 k l0 (decide ((l0.length : Int) > 2010)) a1_0 a1_1 a1_2)
theorem mummerlaw03_SpansShifts.mono_l : ∀ k, (∀ y0 y1 y2 y3 y4, LeO (mummerlaw03_SpansShifts.j0 k y0 y1 y2 y3 y4) (mummerlaw03_SpansShifts.j0 (k + 1) y0 y1 y2 y3 y4)) ∧ (∀ y0, LeO (mummerlaw03_SpansShifts.j3 k y0) (mummerlaw03_SpansShifts.j3 (k + 1) y0)) ∧ (∀ y0 y1 y2 y3 y4, LeO (mummerlaw03_SpansShifts.l0 k y0 y1 y2 y3 y4) (mummerlaw03_SpansShifts.l0 (k + 1) y0 y1 y2 y3 y4)) ∧ (∀ y0 y1 y2 y3 y4 y5, LeO (mummerlaw03_SpansShifts.j2 k y0 y1 y2 y3 y4 y5) (mummerlaw03_SpansShifts.j2 (k + 1) y0 y1 y2 y3 y4 y5))
  | 0 => ⟨fun _ _ _ _ _ r h => by simp [mummerlaw03_SpansShifts.j0] at h, fun _ r h => by simp [mummerlaw03_SpansShifts.j3] at h, fun _ _ _ _ _ r h => by simp [mummerlaw03_SpansShifts.l0] at h, fun _ _ _ _ _ _ r h => by simp [mummerlaw03_SpansShifts.j2] at h⟩
  | k + 1 => by
    obtain ⟨ih0, ih1, ih2, ih3⟩ := mummerlaw03_SpansShifts.mono_l k
    refine ⟨?_, ?_, ?_, ?_⟩
    · intro y0 y1 y2 y3 y4
      unfold mummerlaw03_SpansShifts.j0
      repeat' first
      | (with_reducible exact ih0 _ _ _ _ _)
      | (with_reducible exact ih1 _)
      | (with_reducible exact ih2 _ _ _ _ _)
      | (with_reducible exact ih3 _ _ _ _ _ _)
      | (with_reducible exact mummerlaw03_awake.mono _)
      | (with_reducible exact mummerref02_SameInts.mono _ _ _)
      | (with_reducible exact mummerref03_Nest.mono _ _)
      | (with_reducible exact mummerref03_Shift.mono _ _ _ _ _ _)
      | (with_reducible exact spans_Nest.mono _ _)
      | (with_reducible exact spans_Shift.mono _ _ _ _ _ _)
      | (with_reducible exact LeO.refl _)
      | (with_reducible exact LeO.none _)
      | (with_reducible refine LeO.ite ?_ ?_)
      | (with_reducible refine LeO.bind ?_ (fun _ => ?_))
      | exact ih0 _ _ _ _ _
      | exact ih1 _
      | exact ih2 _ _ _ _ _
      | exact ih3 _ _ _ _ _ _
      | exact mummerlaw03_awake.mono _
      | exact mummerref02_SameInts.mono _ _ _
      | exact mummerref03_Nest.mono _ _
      | exact mummerref03_Shift.mono _ _ _ _ _ _
      | exact spans_Nest.mono _ _
      | exact spans_Shift.mono _ _ _ _ _ _
      | exact LeO.none _
      | refine LeO.ite ?_ ?_
      | refine LeO.bind ?_ (fun _ => ?_)
    · intro y0
      unfold mummerlaw03_SpansShifts.j3
      repeat' first
      | (with_reducible exact ih0 _ _ _ _ _)
      | (with_reducible exact ih1 _)
      | (with_reducible exact ih2 _ _ _ _ _)
      | (with_reducible exact ih3 _ _ _ _ _ _)
      | (with_reducible exact mummerlaw03_awake.mono _)
      | (with_reducible exact mummerref02_SameInts.mono _ _ _)
      | (with_reducible exact mummerref03_Nest.mono _ _)
      | (with_reducible exact mummerref03_Shift.mono _ _ _ _ _ _)
      | (with_reducible exact spans_Nest.mono _ _)
      | (with_reducible exact spans_Shift.mono _ _ _ _ _ _)
      | (with_reducible exact LeO.refl _)
      | (with_reducible exact LeO.none _)
      | (with_reducible refine LeO.ite ?_ ?_)
      | (with_reducible refine LeO.bind ?_ (fun _ => ?_))
      | exact ih0 _ _ _ _ _
      | exact ih1 _
      | exact ih2 _ _ _ _ _
      | exact ih3 _ _ _ _ _ _
      | exact mummerlaw03_awake.mono _
      | exact mummerref02_SameInts.mono _ _ _
      | exact mummerref03_Nest.mono _ _
      | exact mummerref03_Shift.mono _ _ _ _ _ _
      | exact spans_Nest.mono _ _
      | exact spans_Shift.mono _ _ _ _ _ _
      | exact LeO.none _
      | refine LeO.ite ?_ ?_
      | refine LeO.bind ?_ (fun _ => ?_)
    · intro y0 y1 y2 y3 y4
      unfold mummerlaw03_SpansShifts.l0
      repeat' first
      | (with_reducible exact ih0 _ _ _ _ _)
      | (with_reducible exact ih1 _)
      | (with_reducible exact ih2 _ _ _ _ _)
      | (with_reducible exact ih3 _ _ _ _ _ _)
      | (with_reducible exact mummerlaw03_awake.mono _)
      | (with_reducible exact mummerref02_SameInts.mono _ _ _)
      | (with_reducible exact mummerref03_Nest.mono _ _)
      | (with_reducible exact mummerref03_Shift.mono _ _ _ _ _ _)
      | (with_reducible exact spans_Nest.mono _ _)
      | (with_reducible exact spans_Shift.mono _ _ _ _ _ _)
      | (with_reducible exact LeO.refl _)
      | (with_reducible exact LeO.none _)
      | (with_reducible refine LeO.ite ?_ ?_)
      | (with_reducible refine LeO.bind ?_ (fun _ => ?_))
      | exact ih0 _ _ _ _ _
      | exact ih1 _
      | exact ih2 _ _ _ _ _
      | exact ih3 _ _ _ _ _ _
      | exact mummerlaw03_awake.mono _
      | exact mummerref02_SameInts.mono _ _ _
      | exact mummerref03_Nest.mono _ _
      | exact mummerref03_Shift.mono _ _ _ _ _ _
      | exact spans_Nest.mono _ _
      | exact spans_Shift.mono _ _ _ _ _ _
      | exact LeO.none _
      | refine LeO.ite ?_ ?_
      | refine LeO.bind ?_ (fun _ => ?_)
    · intro y0 y1 y2 y3 y4 y5
      unfold mummerlaw03_SpansShifts.j2
      repeat' first
      | (with_reducible exact ih0 _ _ _ _ _)
      | (with_reducible exact ih1 _)
      | (with_reducible exact ih2 _ _ _ _ _)
      | (with_reducible exact ih3 _ _ _ _ _ _)
      | (with_reducible exact mummerlaw03_awake.mono _)
      | (with_reducible exact mummerref02_SameInts.mono _ _ _)
      | (with_reducible exact mummerref03_Nest.mono _ _)
      | (with_reducible exact mummerref03_Shift.mono _ _ _ _ _ _)
      | (with_reducible exact spans_Nest.mono _ _)
      | (with_reducible exact spans_Shift.mono _ _ _ _ _ _)
      | (with_reducible exact LeO.refl _)
      | (with_reducible exact LeO.none _)
      | (with_reducible refine LeO.ite ?_ ?_)
      | (with_reducible refine LeO.bind ?_ (fun _ => ?_))
      | exact ih0 _ _ _ _ _
      | exact ih1 _
      | exact ih2 _ _ _ _ _
      | exact ih3 _ _ _ _ _ _
      | exact mummerlaw03_awake.mono _
      | exact mummerref02_SameInts.mono _ _ _
      | exact mummerref03_Nest.mono _ _
      | exact mummerref03_Shift.mono _ _ _ _ _ _
      | exact spans_Nest.mono _ _
      | exact spans_Shift.mono _ _ _ _ _ _
      | exact LeO.none _
      | refine LeO.ite ?_ ?_
      | refine LeO.bind ?_ (fun _ => ?_)
theorem mummerlaw03_SpansShifts.mono : ∀ a0 a1 a2 a3 k, LeO (mummerlaw03_SpansShifts.f k a0 a1 a2 a3) (mummerlaw03_SpansShifts.f (k + 1) a0 a1 a2 a3) := by
  intro a0 a1 a2 a3 k
  obtain ⟨ih0, ih1, ih2, ih3⟩ := mummerlaw03_SpansShifts.mono_l k
  unfold mummerlaw03_SpansShifts.f
  repeat' first
      | (with_reducible exact ih0 _ _ _ _ _)
      | (with_reducible exact ih1 _)
      | (with_reducible exact ih2 _ _ _ _ _)
      | (with_reducible exact ih3 _ _ _ _ _ _)
      | (with_reducible exact mummerlaw03_awake.mono _)
      | (with_reducible exact mummerref02_SameInts.mono _ _ _)
      | (with_reducible exact mummerref03_Nest.mono _ _)
      | (with_reducible exact mummerref03_Shift.mono _ _ _ _ _ _)
      | (with_reducible exact spans_Nest.mono _ _)
      | (with_reducible exact spans_Shift.mono _ _ _ _ _ _)
      | (with_reducible exact LeO.refl _)
      | (with_reducible exact LeO.none _)
      | (with_reducible refine LeO.ite ?_ ?_)
      | (with_reducible refine LeO.bind ?_ (fun _ => ?_))
      | exact ih0 _ _ _ _ _
      | exact ih1 _
      | exact ih2 _ _ _ _ _
      | exact ih3 _ _ _ _ _ _
      | exact mummerlaw03_awake.mono _
      | exact mummerref02_SameInts.mono _ _ _
      | exact mummerref03_Nest.mono _ _
      | exact mummerref03_Shift.mono _ _ _ _ _ _
      | exact spans_Nest.mono _ _
      | exact spans_Shift.mono _ _ _ _ _ _
      | exact LeO.none _
      | refine LeO.ite ?_ ?_
      | refine LeO.bind ?_ (fun _ => ?_)
def mummerlaw03_SpansShifts.T6 : Bool × List (List Nat × List Nat) := (true, [([], []), ([], []), ([0, 1], [0, 1]), ([2], [2]), ([], []), ([4], [4]), ([], []), ([6], [6]), ([3, 5, 7], [3, 5, 7]), ([8], [8]), ([9], [9]), ([9], [9]), ([], []), ([12, 10, 8, 0, 1, 2, 3, 4, 5, 6, 7, 8, 9, 10, 12], [10, 12]), ([11, 13, 0, 1, 2, 3, 4, 5, 6, 7, 8, 9, 10, 11, 12, 13], [11])])
def mummerlaw03_SpansShifts.B6 : List Nat := [0, 0, 3, 7, 0, 16, 0, 64, 255, 511, 1023, 1023, 0, 6143, 16383]
theorem mummerlaw03_SpansShifts.tab6 : rtab .any (opsOf Tryd.f3 6) = mummerlaw03_SpansShifts.T6 := by kernel_rfl
theorem mummerlaw03_SpansShifts.bits6 : waitsOk mummerlaw03_SpansShifts.T6.2 mummerlaw03_SpansShifts.B6 = true := by kernel_rfl
def mummerlaw03_SpansShifts.T7 : Bool × List (List Nat × List Nat) := (true, [([], []), ([], []), ([0, 1], [0, 1]), ([2], [2]), ([], []), ([4], [4]), ([], []), ([6], [6]), ([3, 5, 7], [3, 5, 7]), ([8], [8]), ([9], [9]), ([9], [9]), ([], []), ([12, 10, 8, 0, 1, 2, 3, 4, 5, 6, 7, 8, 9, 10, 12], [10, 12]), ([11, 13, 0, 1, 2, 3, 4, 5, 6, 7, 8, 9, 10, 11, 12, 13], [11])])
def mummerlaw03_SpansShifts.B7 : List Nat := [0, 0, 3, 7, 0, 16, 0, 64, 255, 511, 1023, 1023, 0, 6143, 16383]
theorem mummerlaw03_SpansShifts.tab7 : rtab .any (opsOf Tryd.f3 7) = mummerlaw03_SpansShifts.T7 := by kernel_rfl
theorem mummerlaw03_SpansShifts.bits7 : waitsOk mummerlaw03_SpansShifts.T7.2 mummerlaw03_SpansShifts.B7 = true := by kernel_rfl
set_option maxHeartbeats 8000000 in
set_option maxRecDepth 100000 in
theorem mummerlaw03_SpansShifts.calls (k : Nat) (A0 : Option Addr) (c0 : Nat) (l0 : List (S24)) (a1_0 : Int) (a1_1 : Int) (a1_2 : Int) (r : Bool) (w : World) (hr0 : Kd.C k24 w A0 l0.length l0) (hc0 : l0.length ≤ c0) (hrt : Aside0 (r = true)) (h : mummerlaw03_SpansShifts.f k l0 a1_0 a1_1 a1_2 = some r) (HT : Aside0 (Sc.Tab w)) :
    Calls Tryd.prog 3 #[.slice A0 l0.length c0, .agg #[.int .i64 a1_0, .int .i64 a1_1, .int .i64 a1_2]] w fun e w' => e = .returned (.bool r) ∧ Below w.heap.size w w' := by
  have hu26 := Tryd.underlying26
  have hu24 := Tryd.underlying24
  have HR0 := ak hr0
  have HC0 := ak hc0
  clear hr0 hc0
  have HB := ak (Below.refl w.heap.size w)
  have H : (if (l0.length : Int) > 60 then (if (l0.length : Int) ≤ 2000 then (mummerlaw03_SpansShifts.j0 k l0 true a1_0 a1_1 a1_2) else (mummerlaw03_SpansShifts.j0 k l0 (decide ((l0.length : Int) > 2010)) a1_0 a1_1 a1_2)) else (mummerlaw03_SpansShifts.j0 k l0 (decide ((l0.length : Int) > 2010)) a1_0 a1_1 a1_2)) = some r := h
  clear h
  have HC3 := ak H
  clear H
  go_enter Tryd.func3, Tryd.ntmps3
  go_upto_region 1 with (first | ((with_reducible refine gate_dst (N := 3) rfl ?_); (try (refine gate_guard (by rfl) ?_; dsimp only)); refine box_event ?hg (N := 3) ?hd (cs := #[.int .i64 a1_0, .int .i64 a1_1, .int .i64 a1_2]) (t := 26) ?hr ?_; (case hd => rfl); (case hg => rfl); (case hr => first | (go_simp; done) | (go_simp; rfl)); intro gb264 hg w4 hbox hb; have n0_ := ak (below_step (by repeat (first | (with_reducible first | exact HB.out | apply wA | apply wN | apply wD) | exact HB.out)) hb); have n1_ := ak (hbox); have n2_ := ak ((by rw [hg]; exact (below_size (by repeat (first | (with_reducible first | exact HB.out | apply wA | apply wN | apply wD) | exact HB.out))) : w.heap.size ≤ gb264)); have n3_ := ak ((by rw [hg]; exact (below_size (by repeat (first | (with_reducible first | exact HB.out | apply wA | apply wN | apply wD) | exact HB.out))) : w.heap.size ≤ gb264)); clear HB; have HB := n0_; have BK264 := n1_; have GW264 := n2_; have GE264 := n3_; clear n0_ n1_ n2_ n3_; clear hb hbox hg))
  (try simp only [Act.put, List.setIfInBounds_toArray, List.set_cons_zero, List.set_cons_succ])
  go_cut [28] (fun v28 wc => ∃ (kq : Nat) (x28_2 : Bool), v28 = .bool x28_2 ∧ Aside0 (mummerlaw03_SpansShifts.j0 kq l0 x28_2 a1_0 a1_1 a1_2 = some r) ∧ Aside0 (kq ≤ k) ∧ Aside0 (wc.heap[gb264]? = some (.cells #[.int .i64 a1_0, .int .i64 a1_1, .int .i64 a1_2] 26 (0, 0))) ∧ Aside0 (Below w.heap.size w wc))
  case first =>
    have H := HC3.out
    clear HC3
    by_cases c5 : (l0.length : Int) > 60
    · rw [if_pos c5] at H
      have c5b0 : decide (60 < (l0.length : Int)) = true := decide_eq_true c5
      have c5b1 : decide (60 < l0.length) = true := decide_eq_true (by omega)
      clear c5
      (first | rw [c5b0] | (simp only [i64_w, i32_w]; rw [c5b0]) | skip)
      by_cases c6 : (l0.length : Int) ≤ 2000
      · rw [if_pos c6] at H
        have c6b0 : decide ((l0.length : Int) ≤ 2000) = true := decide_eq_true c6
        have c6b1 : decide (l0.length ≤ 2000) = true := decide_eq_true (by omega)
        clear c6
        have H' := ak H
        clear H
        go_wp2
        go_meet
        case rel => exact ⟨_, (true), (by first | rfl | (simp; done) | (simp [*]; done)), H', ⟨by first | omega | exact Nat.le_refl _⟩, ⟨by (with_reducible repeat (first | refine bN ?_ _ | refine bD ?_ | refine bA ?_ _)); exact BK264.out⟩, ⟨by repeat (first | (with_reducible first | exact HB.out | apply wA | apply wN | apply wD | refine below_set ?_ GE264.out) | exact HB.out)⟩⟩
      · rw [if_neg c6] at H
        have c6b0 : decide ((l0.length : Int) ≤ 2000) = false := decide_eq_false c6
        have c6b1 : decide (l0.length ≤ 2000) = false := decide_eq_false (by omega)
        clear c6
        have H' := ak H
        clear H
        go_wp2
        go_meet
        case rel => exact ⟨_, (decide ((l0.length : Int) > 2010)), (by first | rfl | (simp; done) | (simp [*]; done)), H', ⟨by first | omega | exact Nat.le_refl _⟩, ⟨by (with_reducible repeat (first | refine bN ?_ _ | refine bD ?_ | refine bA ?_ _)); exact BK264.out⟩, ⟨by repeat (first | (with_reducible first | exact HB.out | apply wA | apply wN | apply wD | refine below_set ?_ GE264.out) | exact HB.out)⟩⟩
    · rw [if_neg c5] at H
      have c5b0 : decide (60 < (l0.length : Int)) = false := decide_eq_false c5
      have c5b1 : decide (60 < l0.length) = false := decide_eq_false (by omega)
      clear c5
      (first | rw [c5b0] | (simp only [i64_w, i32_w]; rw [c5b0]) | skip)
      have H' := ak H
      clear H
      go_wp2
      go_meet
      case rel => exact ⟨_, (decide ((l0.length : Int) > 2010)), (by first | rfl | (simp; done) | (simp [*]; done)), H', ⟨by first | omega | exact Nat.le_refl _⟩, ⟨by (with_reducible repeat (first | refine bN ?_ _ | refine bD ?_ | refine bA ?_ _)); exact BK264.out⟩, ⟨by repeat (first | (with_reducible first | exact HB.out | apply wA | apply wN | apply wD | refine below_set ?_ GE264.out) | exact HB.out)⟩⟩
  case rest =>
    clear HC3
    try clear p2
    try clear c3
    try clear c5
    try clear c5b0
    try clear c5b1
    try clear c6
    try clear c6b0
    try clear c6b1
    obtain ⟨kq, x28_2, rfl, HA, HJ2, BK264, HB⟩ := hcut
    cases kq with
    | zero => exact absurd HA.out (by simp [mummerlaw03_SpansShifts.j0])
    | succ kj2 =>
      have H := HA.out
      clear HA
      simp only [mummerlaw03_SpansShifts.j0] at H
      by_cases c7 : x28_2 = true
      · subst c7
        have H1 : ((mummerlaw03_awake.f kj2).bind fun t265 => (some t265)) = some r := by rw [if_pos rfl] at H; exact H
        clear H
        have H := H1
        clear H1
        replace H := Option.bind_eq_some_iff.mp H
        obtain ⟨t265, A80, H⟩ := H
        replace H : (some t265) = some r := H
        have A8 := ak A80
        clear A80
        obtain rfl := Option.some.inj H
        go_wp2_with (first | ((with_reducible refine gate_callee (f := 12) rfl ?_); refine goesL_ (some 29) rfl rfl Tryd.func12 (by kernel_rfl) rfl #[] rfl (by (try simp only [List.map_toArray, List.map_cons, List.map_nil]); first | done | rfl | (simp only [List.length_drop, List.length_take]; rfl)) ?_; (with_reducible refine (mummerlaw03_awake.calls kj2  t265 _ hrt A8.out ⟨Sc.Tab.stay HT.out (by repeat (first | (with_reducible first | exact HB.out | apply wA | apply wN | apply wD) | exact HB.out | (refine below_set ?_ (by assumption))))⟩).mono ?_); rintro e w9 ⟨rfl, hb⟩; refine ⟨_, rfl, ?_⟩; have n0_ := ak (blk_below (g := gb264) (o := .cells #[.int .i64 a1_0, .int .i64 a1_1, .int .i64 a1_2] 26 (0, 0)) (by (with_reducible repeat (first | refine bN ?_ _ | refine bD ?_ | refine bA ?_ _)); exact BK264.out) hb); have n1_ := ak (below_step (by repeat (first | (with_reducible first | exact HB.out | apply wA | apply wN | apply wD | refine below_set ?_ GE264.out) | exact HB.out)) hb); clear BK264; clear HB; have BK264 := n0_; have HB := n1_; clear n0_ n1_; (try clear hb); (try clear hb2); (try clear hk); (try clear hi)))
        go_ret
        exact ⟨by first | rfl | (simp [errW_none, errW_some] <;> rfl) | (simp [*, errW_none, errW_some] <;> rfl), by repeat (first | (with_reducible first | exact HB.out | apply wA | apply wN | apply wD | refine below_set ?_ GE264.out) | exact HB.out)⟩
      · replace c7 := Bool.eq_false_iff.mpr c7
        subst c7
        have H1 : (mummerlaw03_SpansShifts.l0 kj2 l0 0 a1_0 a1_1 a1_2) = some r := by rw [if_neg (show ¬ (false = true) by decide)] at H; exact H
        clear H
        have H := H1
        clear H1
        have HC10 := ak H
        clear H
        go_upto_block 0 with (fail)
        go_cut [] (fun wc => ∃ (kq : Nat), Aside0 (mummerlaw03_SpansShifts.j3 kq l0 = some r) ∧ Aside0 (kq ≤ kj2) ∧ Aside0 (wc.heap[gb264]? = some (.cells #[.int .i64 a1_0, .int .i64 a1_1, .int .i64 a1_2] 26 (0, 0))) ∧ Aside0 (Below w.heap.size w wc))
        case first =>
          have H := HC10.out
          clear HC10
          have H' := ak H
          clear H
          go_wp2
          go_loopg [5] kj2 (fun kq v5 w' => ∃ (x5_2 : Int), v5 = .int .i64 x5_2 ∧ Aside0 (mummerlaw03_SpansShifts.l0 kq l0 x5_2 a1_0 a1_1 a1_2 = some r) ∧ Aside0 (kq ≤ kj2) ∧ Aside0 (w'.heap[gb264]? = some (.cells #[.int .i64 a1_0, .int .i64 a1_1, .int .i64 a1_2] 26 (0, 0))) ∧ Aside0 (Below w.heap.size w w'))
          case atStart => exact ⟨(0), (by first | rfl | (simp; done) | (simp [*]; done)), H', ⟨Nat.le_refl _⟩, ⟨by (with_reducible repeat (first | refine bN ?_ _ | refine bD ?_ | refine bA ?_ _)); exact BK264.out⟩, ⟨by repeat (first | (with_reducible first | exact HB.out | apply wA | apply wN | apply wD | refine below_set ?_ GE264.out) | exact HB.out)⟩⟩
          case round =>
            clear H'
            try clear c1
            try clear p2
            try clear c3
            try clear c5
            try clear c5b0
            try clear c5b1
            try clear c6
            try clear c6b0
            try clear c6b1
            try clear c7
            try clear p2
            obtain ⟨x5_2, rfl, HA, HK2, BK264, HB⟩ := hrel
            cases gk with
            | zero => exact absurd HA.out (by simp [mummerlaw03_SpansShifts.l0])
            | succ k2 =>
              have H := HA.out
              clear HA
              simp only [mummerlaw03_SpansShifts.l0] at H
              have HC11 := ak H
              clear H
              go_upto_region 4 with (fail)
              go_cut [37] (fun v37 wc => ∃ (kq : Nat) (x37_10 : Bool), v37 = .bool x37_10 ∧ Aside0 (mummerlaw03_SpansShifts.j2 kq l0 x5_2 x37_10 a1_0 a1_1 a1_2 = some r) ∧ Aside0 (kq ≤ k2) ∧ Aside0 (wc.heap[gb264]? = some (.cells #[.int .i64 a1_0, .int .i64 a1_1, .int .i64 a1_2] 26 (0, 0))) ∧ Aside0 (Below w.heap.size w wc))
              case first =>
                have H := HC11.out
                clear HC11
                by_cases c12 : x5_2 < (l0.length : Int)
                · rw [if_pos c12] at H
                  have c12b0 : decide (x5_2 < (l0.length : Int)) = true := decide_eq_true c12
                  clear c12
                  (first | rw [c12b0] | (simp only [i64_w, i32_w]; rw [c12b0]) | skip)
                  have H' := ak H
                  clear H
                  go_wp2
                  go_meet
                  case rel => exact ⟨_, (decide (x5_2 < 60)), (by first | rfl | (simp; done) | (simp [*]; done)), H', ⟨by have := HJ2.out; have := HK2.out; first | omega | exact Nat.le_refl _⟩, ⟨by (with_reducible repeat (first | refine bN ?_ _ | refine bD ?_ | refine bA ?_ _)); exact BK264.out⟩, ⟨by repeat (first | (with_reducible first | exact HB.out | apply wA | apply wN | apply wD | refine below_set ?_ GE264.out) | exact HB.out)⟩⟩
                · rw [if_neg c12] at H
                  have c12b0 : decide (x5_2 < (l0.length : Int)) = false := decide_eq_false c12
                  clear c12
                  (first | rw [c12b0] | (simp only [i64_w, i32_w]; rw [c12b0]) | skip)
                  have H' := ak H
                  clear H
                  go_wp2
                  go_meet
                  case rel => exact ⟨_, (false), (by first | rfl | (simp; done) | (simp [*]; done)), H', ⟨by have := HJ2.out; have := HK2.out; first | omega | exact Nat.le_refl _⟩, ⟨by (with_reducible repeat (first | refine bN ?_ _ | refine bD ?_ | refine bA ?_ _)); exact BK264.out⟩, ⟨by repeat (first | (with_reducible first | exact HB.out | apply wA | apply wN | apply wD | refine below_set ?_ GE264.out) | exact HB.out)⟩⟩
              case rest =>
                clear HC11
                try clear c1
                try clear p2
                try clear c3
                try clear c5
                try clear c5b0
                try clear c5b1
                try clear c6
                try clear c6b0
                try clear c6b1
                try clear c7
                try clear c12
                try clear c12b0
                try clear p2
                obtain ⟨kq, x37_10, rfl, HA, HJ10, BK264, HB⟩ := hcut
                cases kq with
                | zero => exact absurd HA.out (by simp [mummerlaw03_SpansShifts.j2])
                | succ kj10 =>
                  have H := HA.out
                  clear HA
                  simp only [mummerlaw03_SpansShifts.j2] at H
                  by_cases c13 : x37_10 = true
                  · subst c13
                    have H1 : (if 0 ≤ x5_2 then (if x5_2 < (l0.length : Int) then ((spans_Shift.f kj10 ((rd_T24 l0 x5_2).f0) ((rd_T24 l0 x5_2).f1) a1_0 a1_1 a1_2).bind fun bt267 => ((mummerref03_Shift.f kj10 ((rd_T24 l0 x5_2).f0) ((rd_T24 l0 x5_2).f1) a1_0 a1_1 a1_2).bind fun bt272 => (if (!(bt267.1 == bt272.1) || (!(bt267.2.1 == bt272.2.1))) = true then (some false) else (if bt267.2.2 = bt272.2.2 then (mummerlaw03_SpansShifts.l0 kj10 l0 (wrap64 (x5_2 + 1)) a1_0 a1_1 a1_2) else (some false))))) else (none)) else (none)) = some r := by rw [if_pos rfl] at H; exact H
                    clear H
                    have H := H1
                    clear H1
                    by_cases c14 : 0 ≤ x5_2
                    · rw [if_pos c14] at H
                      have c14b0 : decide (0 ≤ x5_2) = true := decide_eq_true c14
                      clear c14
                      by_cases c15 : x5_2 < (l0.length : Int)
                      · rw [if_pos c15] at H
                        have c15b0 : decide (x5_2 < (l0.length : Int)) = true := decide_eq_true c15
                        clear c15
                        replace H := Option.bind_eq_some_iff.mp H
                        obtain ⟨⟨t267, t268, t269⟩, A160, H⟩ := H
                        replace H : ((mummerref03_Shift.f kj10 ((rd_T24 l0 x5_2).f0) ((rd_T24 l0 x5_2).f1) a1_0 a1_1 a1_2).bind fun bt272 => (if (!(t267 == bt272.1) || (!(t268 == bt272.2.1))) = true then (some false) else (if t269 = bt272.2.2 then (mummerlaw03_SpansShifts.l0 kj10 l0 (wrap64 (x5_2 + 1)) a1_0 a1_1 a1_2) else (some false)))) = some r := H
                        have A16 := ak A160
                        clear A160
                        replace H := Option.bind_eq_some_iff.mp H
                        obtain ⟨⟨t272, t273, t274⟩, A170, H⟩ := H
                        replace H : (if (!(t267 == t272) || (!(t268 == t273))) = true then (some false) else (if t269 = t274 then (mummerlaw03_SpansShifts.l0 kj10 l0 (wrap64 (x5_2 + 1)) a1_0 a1_1 a1_2) else (some false))) = some r := H
                        have A17 := ak A170
                        clear A170
                        by_cases c18 : (!(t267 == t272) || (!(t268 == t273))) = true
                        · rw [if_pos c18] at H
                          have c18b0 : (!(t267 == t272) || (!(t268 == t273))) = true := c18
                          clear c18
                          exact absurd ((Option.some.inj H).trans hrt.out) (by decide)
                        · rw [if_neg c18] at H
                          have c18b0 : (!(t267 == t272) || (!(t268 == t273))) = false := by simpa using c18
                          clear c18
                          by_cases c19 : t269 = t274
                          · rw [if_pos c19] at H
                            have c19b0 : (t269 == t274) = true := beq_iff_eq.mpr c19
                            have c19b1 : (t269 != t274) = false := bne_eq_false_iff_eq.mpr c19
                            clear c19
                            have H' := ak H
                            clear H
                            try go_wp2
                            have n0_ := ak (bD BK264.out)
                            have n1_ := ak (wD HB.out)
                            clear BK264 HB
                            have BK264 := n0_
                            have HB := n1_
                            clear n0_ n1_
                            have p266 : 0 ≤ (x5_2 : Int) := of_decide_eq_true (by first | (with_reducible assumption) | assumption)
                            have q266 : x5_2 < (l0.length : Int) := of_decide_eq_true (by first | (with_reducible assumption) | assumption)
                            obtain ⟨ad266, e266, hx266_0, hx266_1⟩ := at_T24 HR0.out x5_2 p266 q266
                            have hw266_1 := hx266_1
                            have hw266_0 := hx266_0
                            cases e266
                            replace hx266_0 := (HB.out.cell (World.block_lt_of_cell? w _ hx266_0)).trans hx266_0
                            replace hx266_1 := (HB.out.cell (World.block_lt_of_cell? w _ hx266_1)).trans hx266_1
                            replace p266 := eq_true p266
                            replace q266 := eq_true q266
                            refine start_ (n := 15) (S := fun w' => w'.cell? ⟨gb264, 0, none⟩ = some (.int .i64 a1_0) ∧ w'.cell? ⟨gb264, 1, none⟩ = some (.int .i64 a1_1) ∧ w'.cell? ⟨gb264, 2, none⟩ = some (.int .i64 a1_2) ∧ w'.cell? (ad266.add ((x5_2).toNat * 2)) = some (.int .i64 ((rd_T24 l0 x5_2).f0)) ∧ w'.cell? ⟨(ad266.add ((x5_2).toNat * 2)).block, (ad266.add ((x5_2).toNat * 2)).off + 1, none⟩ = some (.int .i64 ((rd_T24 l0 x5_2).f1))) (ds := []) #[false, false, false, false, false, false, false, false, false, false, false, false, false, false, false] (by kernel_rfl) rfl rfl ⟨(blk_cell BK264.out 0).trans rfl, (blk_cell BK264.out 1).trans rfl, (blk_cell BK264.out 2).trans rfl, ((HB.out.cell (World.block_lt_of_cell? w _ hw266_0)).trans hw266_0), ((HB.out.cell (World.block_lt_of_cell? w _ hw266_1)).trans hw266_1)⟩ (fun hHeld => ?_); refine with_tabW mummerlaw03_SpansShifts.tab6 mummerlaw03_SpansShifts.bits6 (fun HT_ HW_ => ?_)
                            generalize wc.drew = w20 at BK264 HB hx266_0 hx266_1 hHeld ⊢
                            refine pure_ (i := 0) (N := some 41) (v := ?_) (a' := ?_) #[true, false, false, false, false, false, false, false, false, false, false, false, false, false, false] rfl rfl (any_of HT_.out (by kernel_rfl)) (fun _ _ _ h => h) (Or.inl ⟨by rfl, ?_⟩) ?_ ?_
                            rotate_left
                            · intro w'
                              go_simp
                              with_reducible rfl
                            rotate_left
                            · simp only [Act.put, List.setIfInBounds_toArray, List.set_cons_zero, List.set_cons_succ, i64_w, i32_w]
                              rfl
                            refine pure_ (i := 1) (N := some 42) (v := ?_) (a' := ?_) #[true, true, false, false, false, false, false, false, false, false, false, false, false, false, false] rfl rfl (any_of HT_.out (by kernel_rfl)) (fun _ _ _ h => h) (Or.inl ⟨by rfl, ?_⟩) ?_ ?_
                            rotate_left
                            · intro w'
                              go_simp
                              with_reducible rfl
                            rotate_left
                            · simp only [Act.put, List.setIfInBounds_toArray, List.set_cons_zero, List.set_cons_succ, i64_w, i32_w]
                              rfl
                            refine pure_ (i := 2) (N := some 43) (v := ?_) (a' := ?_) #[true, true, true, false, false, false, false, false, false, false, false, false, false, false, false] rfl rfl (any_of HT_.out (by kernel_rfl)) (fun _ _ _ h => h) (Or.inl ⟨by rfl, ?_⟩) ?_ ?_
                            rotate_left
                            · intro w'
                              go_simp
                              with_reducible rfl
                            rotate_left
                            · simp only [Act.put, List.setIfInBounds_toArray, List.set_cons_zero, List.set_cons_succ, i64_w, i32_w]
                              rfl
                            refine pure_ (i := 4) (N := some 45) (v := ?_) (a' := ?_) #[true, true, true, false, true, false, false, false, false, false, false, false, false, false, false] rfl rfl (any_of HT_.out (by kernel_rfl)) (fun _ _ _ h => h) (Or.inl ⟨by rfl, ?_⟩) ?_ ?_
                            rotate_left
                            · intro w'
                              go_simp
                              with_reducible rfl
                            rotate_left
                            · simp only [Act.put, List.setIfInBounds_toArray, List.set_cons_zero, List.set_cons_succ, i64_w, i32_w]
                              rfl
                            refine pure_ (i := 6) (N := some 47) (v := ?_) (a' := ?_) #[true, true, true, false, true, false, true, false, false, false, false, false, false, false, false] rfl rfl (any_of HT_.out (by kernel_rfl)) (fun _ _ _ h => h) (Or.inl ⟨by rfl, ?_⟩) ?_ ?_
                            rotate_left
                            · intro w'
                              go_simp
                              with_reducible rfl
                            rotate_left
                            · simp only [Act.put, List.setIfInBounds_toArray, List.set_cons_zero, List.set_cons_succ, i64_w, i32_w]
                              rfl
                            refine take_ (i := 3) (N := some 44) (v := ?_) (a' := ?_) #[true, true, true, true, true, false, true, false, false, false, false, false, false, false, false] rfl rfl (take_ofW HT_.out HW_.out (by kernel_rfl)) (fun _ _ _ h => h) (Or.inl ⟨by rfl, ?_⟩) hHeld ?_ ?_
                            rotate_left
                            · rintro w' ⟨s0, s1, s2, s3, s4⟩
                              go_simp
                              with_reducible rfl
                            rotate_left
                            · simp only [Act.put, List.setIfInBounds_toArray, List.set_cons_zero, List.set_cons_succ, i64_w, i32_w]
                              rfl
                            refine take_ (i := 5) (N := some 46) (v := ?_) (a' := ?_) #[true, true, true, true, true, true, true, false, false, false, false, false, false, false, false] rfl rfl (take_ofW HT_.out HW_.out (by kernel_rfl)) (fun _ _ _ h => h) (Or.inl ⟨by rfl, ?_⟩) hHeld ?_ ?_
                            rotate_left
                            · rintro w' ⟨s0, s1, s2, s3, s4⟩
                              go_simp
                              with_reducible rfl
                            rotate_left
                            · simp only [Act.put, List.setIfInBounds_toArray, List.set_cons_zero, List.set_cons_succ, i64_w, i32_w]
                              rfl
                            refine take_ (i := 7) (N := some 48) (v := ?_) (a' := ?_) #[true, true, true, true, true, true, true, true, false, false, false, false, false, false, false] rfl rfl (take_ofW HT_.out HW_.out (by kernel_rfl)) (fun _ _ _ h => h) (Or.inl ⟨by rfl, ?_⟩) hHeld ?_ ?_
                            rotate_left
                            · rintro w' ⟨s0, s1, s2, s3, s4⟩
                              go_simp
                              with_reducible rfl
                            rotate_left
                            · simp only [Act.put, List.setIfInBounds_toArray, List.set_cons_zero, List.set_cons_succ, i64_w, i32_w]
                              rfl
                            refine join_ (σ := Nat) 2 #[true, true, true, true, true, true, true, true, true, true, true, true, true, false, false] (fun s_ => [(49, .tuple #[.agg #[.int .i64 t267, .int .i64 t268], .int .i64 t269]), (6, .pointer (some ⟨s_, 0, none⟩)), (40, .tuple #[.agg #[.int .i64 t267, .int .i64 t268], .int .i64 t269]), (50, .agg #[.int .i64 t267, .int .i64 t268]), (51, .int .i64 t269)]) (fun s_ w' => (w'.cell? ⟨gb264, 0, none⟩ = some (.int .i64 a1_0) ∧ w'.cell? ⟨gb264, 1, none⟩ = some (.int .i64 a1_1) ∧ w'.cell? ⟨gb264, 2, none⟩ = some (.int .i64 a1_2) ∧ w'.cell? (ad266.add ((x5_2).toNat * 2)) = some (.int .i64 ((rd_T24 l0 x5_2).f0)) ∧ w'.cell? ⟨(ad266.add ((x5_2).toNat * 2)).block, (ad266.add ((x5_2).toNat * 2)).off + 1, none⟩ = some (.int .i64 ((rd_T24 l0 x5_2).f1))) ∧ (w'.heap[gb264]? = some (.cells #[.int .i64 a1_0, .int .i64 a1_1, .int .i64 a1_2] 26 (0, 0))) ∧ (w'.heap[s_]? = some (.cells #[.int .i64 0, .int .i64 0] 24 (0, 0))) ∧ (w.heap.size ≤ s_) ∧ (w.heap.size ≤ s_) ∧ (gb264 ≠ s_) ∧ (s_ ≠ gb264) ∧ (Below w.heap.size w w')) ?_ ?_
                            rotate_left
                            · intro hCont
                              refine two_ (i := 8) (j := 12) (Ni := some 49) (Nj := some 6) #[true, true, true, true, true, true, true, true, true, false, false, false, false, false, false] #[true, true, true, true, true, true, true, true, false, false, false, false, true, false, false] rfl rfl rfl rfl (two_of HT_.out (by kernel_rfl)) (by decide) (by decide) (fun K hK => ?_) (fun K hK => ?_)
                              · skip
                                refine goes_ Tryd.func13 (by kernel_rfl) rfl #[.agg #[.int .i64 ((rd_T24 l0 x5_2).f0), .int .i64 ((rd_T24 l0 x5_2).f1)], .agg #[.int .i64 a1_0, .int .i64 a1_1], .int .i64 a1_2] (by rfl) rfl rfl (by (try simp only [List.map_toArray, List.map_cons, List.map_nil]); first | done | rfl | (simp only [List.length_drop, List.length_take]; rfl)) ?_
                                with_reducible refine (spans_Shift.calls kj10 ((rd_T24 l0 x5_2).f0) ((rd_T24 l0 x5_2).f1) a1_0 a1_1 a1_2 t267 t268 t269 _ A16.out).mono ?_
                                rintro e w21 ⟨rfl, hb⟩
                                refine ⟨_, rfl, ?_⟩
                                have n0_ := ak (blk_below (g := gb264) (o := .cells #[.int .i64 a1_0, .int .i64 a1_1, .int .i64 a1_2] 26 (0, 0)) (by (with_reducible repeat (first | refine bN ?_ _ | refine bD ?_ | refine bA ?_ _)); exact BK264.out) hb)
                                have n1_ := ak (below_step (by repeat (first | (with_reducible first | exact HB.out | apply wA | apply wN | apply wD | refine below_set ?_ GE264.out) | exact HB.out)) hb)
                                clear BK264 HB
                                have BK264 := n0_
                                have HB := n1_
                                clear n0_ n1_
                                (try clear hb)
                                (try clear hb2)
                                (try clear hk)
                                (try clear hi)
                                refine hK.out _ _ ⟨(blk_cell BK264.out 0).trans rfl, (blk_cell BK264.out 1).trans rfl, (blk_cell BK264.out 2).trans rfl, ((HB.out.cell (World.block_lt_of_cell? w _ hw266_0)).trans hw266_0), ((HB.out.cell (World.block_lt_of_cell? w _ hw266_1)).trans hw266_1)⟩ (fun hHeld => ?_)
                                clear hK K
                                refine norm_ (a' := ?_) ?_ ?_
                                rotate_left
                                · show Act.put _ (some 49) _ = _
                                  simp only [Act.put, List.setIfInBounds_toArray, List.set_cons_zero, List.set_cons_succ, i64_w, i32_w]
                                  rfl
                                refine pure_ (i := 9) (N := some 40) (v := ?_) (a' := ?_) #[true, true, true, true, true, true, true, true, true, true, false, false, false, false, false] rfl rfl (any_of HT_.out (by kernel_rfl)) (fun _ _ _ h => h) (Or.inl ⟨by rfl, ?_⟩) ?_ ?_
                                rotate_left
                                · intro w'
                                  go_simp
                                  with_reducible rfl
                                rotate_left
                                · simp only [Act.put, List.setIfInBounds_toArray, List.set_cons_zero, List.set_cons_succ, i64_w, i32_w]
                                  rfl
                                refine pure_ (i := 10) (N := some 50) (v := ?_) (a' := ?_) #[true, true, true, true, true, true, true, true, true, true, true, false, false, false, false] rfl rfl (any_of HT_.out (by kernel_rfl)) (fun _ _ _ h => h) (Or.inl ⟨by rfl, ?_⟩) ?_ ?_
                                rotate_left
                                · intro w'
                                  go_simp
                                  with_reducible rfl
                                rotate_left
                                · simp only [Act.put, List.setIfInBounds_toArray, List.set_cons_zero, List.set_cons_succ, i64_w, i32_w]
                                  rfl
                                refine pure_ (i := 11) (N := some 51) (v := ?_) (a' := ?_) #[true, true, true, true, true, true, true, true, true, true, true, true, false, false, false] rfl rfl (any_of HT_.out (by kernel_rfl)) (fun _ _ _ h => h) (Or.inl ⟨by rfl, ?_⟩) ?_ ?_
                                rotate_left
                                · intro w'
                                  go_simp
                                  with_reducible rfl
                                rotate_left
                                · simp only [Act.put, List.setIfInBounds_toArray, List.set_cons_zero, List.set_cons_succ, i64_w, i32_w]
                                  rfl
                                refine one_ (i := 12) (N := some 6) #[true, true, true, true, true, true, true, true, true, true, true, true, true, false, false] rfl rfl (one_of HT_.out (by kernel_rfl)) (by decide) (fun K hK => ?_)
                                refine box_step ?hg (N := 6) ?hd (cs := #[.int .i64 0, .int .i64 0]) (t := 24) ?hr ?_; (case hd => rfl); (case hg => rfl); (case hr => first | (go_simp; done) | (go_simp; rfl))
                                intro gb270 hg w22 hbox hb
                                have n0_ := ak (blk_below (g := gb264) (o := .cells #[.int .i64 a1_0, .int .i64 a1_1, .int .i64 a1_2] 26 (0, 0)) (by (with_reducible repeat (first | refine bN ?_ _ | refine bD ?_ | refine bA ?_ _)); exact BK264.out) hb)
                                have n1_ := ak (below_step (by repeat (first | (with_reducible first | exact HB.out | apply wA | apply wN | apply wD | refine below_set ?_ GE264.out) | exact HB.out)) hb)
                                have n2_ := ak (hbox)
                                have n3_ := ak ((by rw [hg]; exact (below_size (by repeat (first | (with_reducible first | exact HB.out | apply wA | apply wN | apply wD | refine below_set ?_ GE264.out) | exact HB.out))) : w.heap.size ≤ gb270))
                                have n4_ := ak ((by rw [hg]; exact (below_size (by repeat (first | (with_reducible first | exact HB.out | apply wA | apply wN | apply wD | refine below_set ?_ GE264.out) | exact HB.out))) : w.heap.size ≤ gb270))
                                have n5_ := ak ((by rw [hg]; exact Nat.ne_of_lt (blk_lt (g := gb264) (o := .cells #[.int .i64 a1_0, .int .i64 a1_1, .int .i64 a1_2] 26 (0, 0)) (by (with_reducible repeat (first | refine bN ?_ _ | refine bD ?_ | refine bA ?_ _)); exact BK264.out)) : gb264 ≠ gb270))
                                have n6_ := ak ((by rw [hg]; exact Nat.ne_of_gt (blk_lt (g := gb264) (o := .cells #[.int .i64 a1_0, .int .i64 a1_1, .int .i64 a1_2] 26 (0, 0)) (by (with_reducible repeat (first | refine bN ?_ _ | refine bD ?_ | refine bA ?_ _)); exact BK264.out)) : gb270 ≠ gb264))
                                clear BK264 HB
                                have BK264 := n0_
                                have HB := n1_
                                have BK270 := n2_
                                have GW270 := n3_
                                have GE270 := n4_
                                have NB264_270 := n5_
                                have NB270_264 := n6_
                                clear n0_ n1_ n2_ n3_ n4_ n5_ n6_ hb hbox hg
                                refine hK.out _ _ ⟨(blk_cell BK264.out 0).trans rfl, (blk_cell BK264.out 1).trans rfl, (blk_cell BK264.out 2).trans rfl, ((HB.out.cell (World.block_lt_of_cell? w _ hw266_0)).trans hw266_0), ((HB.out.cell (World.block_lt_of_cell? w _ hw266_1)).trans hw266_1)⟩ (fun hHeld => ?_)
                                clear hK K
                                refine norm_ (a' := ?_) ?_ ?_
                                rotate_left
                                · show Act.put _ (some 6) _ = _
                                  simp only [Act.put, List.setIfInBounds_toArray, List.set_cons_zero, List.set_cons_succ, i64_w, i32_w]
                                  rfl
                                exact norm_ (by simp only [putAll, Act.put, List.setIfInBounds_toArray, List.set_cons_zero, List.set_cons_succ]) (hCont (gb270) _ ⟨hHeld, (by (with_reducible repeat (first | refine bN ?_ _ | refine bD ?_ | refine bA ?_ _)); exact BK264.out), (by (with_reducible repeat (first | refine bN ?_ _ | refine bD ?_ | refine bA ?_ _)); exact BK270.out), GW270.out, GE270.out, NB264_270.out, NB270_264.out, (by repeat (first | (with_reducible first | exact HB.out | apply wA | apply wN | apply wD | refine below_set ?_ GE264.out | refine below_set ?_ GE270.out) | exact HB.out))⟩)
                              · skip
                                refine box_step ?hg (N := 6) ?hd (cs := #[.int .i64 0, .int .i64 0]) (t := 24) ?hr ?_; (case hd => rfl); (case hg => rfl); (case hr => first | (go_simp; done) | (go_simp; rfl))
                                intro gb270 hg w21 hbox hb
                                have n0_ := ak (blk_below (g := gb264) (o := .cells #[.int .i64 a1_0, .int .i64 a1_1, .int .i64 a1_2] 26 (0, 0)) (by (with_reducible repeat (first | refine bN ?_ _ | refine bD ?_ | refine bA ?_ _)); exact BK264.out) hb)
                                have n1_ := ak (below_step (by repeat (first | (with_reducible first | exact HB.out | apply wA | apply wN | apply wD | refine below_set ?_ GE264.out) | exact HB.out)) hb)
                                have n2_ := ak (hbox)
                                have n3_ := ak ((by rw [hg]; exact (below_size (by repeat (first | (with_reducible first | exact HB.out | apply wA | apply wN | apply wD | refine below_set ?_ GE264.out) | exact HB.out))) : w.heap.size ≤ gb270))
                                have n4_ := ak ((by rw [hg]; exact (below_size (by repeat (first | (with_reducible first | exact HB.out | apply wA | apply wN | apply wD | refine below_set ?_ GE264.out) | exact HB.out))) : w.heap.size ≤ gb270))
                                have n5_ := ak ((by rw [hg]; exact Nat.ne_of_lt (blk_lt (g := gb264) (o := .cells #[.int .i64 a1_0, .int .i64 a1_1, .int .i64 a1_2] 26 (0, 0)) (by (with_reducible repeat (first | refine bN ?_ _ | refine bD ?_ | refine bA ?_ _)); exact BK264.out)) : gb264 ≠ gb270))
                                have n6_ := ak ((by rw [hg]; exact Nat.ne_of_gt (blk_lt (g := gb264) (o := .cells #[.int .i64 a1_0, .int .i64 a1_1, .int .i64 a1_2] 26 (0, 0)) (by (with_reducible repeat (first | refine bN ?_ _ | refine bD ?_ | refine bA ?_ _)); exact BK264.out)) : gb270 ≠ gb264))
                                clear BK264 HB
                                have BK264 := n0_
                                have HB := n1_
                                have BK270 := n2_
                                have GW270 := n3_
                                have GE270 := n4_
                                have NB264_270 := n5_
                                have NB270_264 := n6_
                                clear n0_ n1_ n2_ n3_ n4_ n5_ n6_ hb hbox hg
                                refine hK.out _ _ ⟨(blk_cell BK264.out 0).trans rfl, (blk_cell BK264.out 1).trans rfl, (blk_cell BK264.out 2).trans rfl, ((HB.out.cell (World.block_lt_of_cell? w _ hw266_0)).trans hw266_0), ((HB.out.cell (World.block_lt_of_cell? w _ hw266_1)).trans hw266_1)⟩ (fun hHeld => ?_)
                                clear hK K
                                refine norm_ (a' := ?_) ?_ ?_
                                rotate_left
                                · show Act.put _ (some 6) _ = _
                                  simp only [Act.put, List.setIfInBounds_toArray, List.set_cons_zero, List.set_cons_succ, i64_w, i32_w]
                                  rfl
                                refine one_ (i := 8) (N := some 49) #[true, true, true, true, true, true, true, true, true, false, false, false, true, false, false] rfl rfl (one_of HT_.out (by kernel_rfl)) (by decide) (fun K hK => ?_)
                                refine goes_ Tryd.func13 (by kernel_rfl) rfl #[.agg #[.int .i64 ((rd_T24 l0 x5_2).f0), .int .i64 ((rd_T24 l0 x5_2).f1)], .agg #[.int .i64 a1_0, .int .i64 a1_1], .int .i64 a1_2] (by rfl) rfl rfl (by (try simp only [List.map_toArray, List.map_cons, List.map_nil]); first | done | rfl | (simp only [List.length_drop, List.length_take]; rfl)) ?_
                                with_reducible refine (spans_Shift.calls kj10 ((rd_T24 l0 x5_2).f0) ((rd_T24 l0 x5_2).f1) a1_0 a1_1 a1_2 t267 t268 t269 _ A16.out).mono ?_
                                rintro e w22 ⟨rfl, hb⟩
                                refine ⟨_, rfl, ?_⟩
                                have n0_ := ak (blk_below (g := gb264) (o := .cells #[.int .i64 a1_0, .int .i64 a1_1, .int .i64 a1_2] 26 (0, 0)) (by (with_reducible repeat (first | refine bN ?_ _ | refine bD ?_ | refine bA ?_ _)); exact BK264.out) hb)
                                have n1_ := ak (blk_below (g := gb270) (o := .cells #[.int .i64 0, .int .i64 0] 24 (0, 0)) (by (with_reducible repeat (first | refine bN ?_ _ | refine bD ?_ | refine bA ?_ _)); exact BK270.out) hb)
                                have n2_ := ak (below_step (by repeat (first | (with_reducible first | exact HB.out | apply wA | apply wN | apply wD | refine below_set ?_ GE264.out | refine below_set ?_ GE270.out) | exact HB.out)) hb)
                                clear BK264 BK270 HB
                                have BK264 := n0_
                                have BK270 := n1_
                                have HB := n2_
                                clear n0_ n1_ n2_
                                (try clear hb)
                                (try clear hb2)
                                (try clear hk)
                                (try clear hi)
                                refine hK.out _ _ ⟨(blk_cell BK264.out 0).trans rfl, (blk_cell BK264.out 1).trans rfl, (blk_cell BK264.out 2).trans rfl, ((HB.out.cell (World.block_lt_of_cell? w _ hw266_0)).trans hw266_0), ((HB.out.cell (World.block_lt_of_cell? w _ hw266_1)).trans hw266_1)⟩ (fun hHeld => ?_)
                                clear hK K
                                refine norm_ (a' := ?_) ?_ ?_
                                rotate_left
                                · show Act.put _ (some 49) _ = _
                                  simp only [Act.put, List.setIfInBounds_toArray, List.set_cons_zero, List.set_cons_succ, i64_w, i32_w]
                                  rfl
                                refine pure_ (i := 9) (N := some 40) (v := ?_) (a' := ?_) #[true, true, true, true, true, true, true, true, true, true, false, false, true, false, false] rfl rfl (any_of HT_.out (by kernel_rfl)) (fun _ _ _ h => h) (Or.inl ⟨by rfl, ?_⟩) ?_ ?_
                                rotate_left
                                · intro w'
                                  go_simp
                                  with_reducible rfl
                                rotate_left
                                · simp only [Act.put, List.setIfInBounds_toArray, List.set_cons_zero, List.set_cons_succ, i64_w, i32_w]
                                  rfl
                                refine pure_ (i := 10) (N := some 50) (v := ?_) (a' := ?_) #[true, true, true, true, true, true, true, true, true, true, true, false, true, false, false] rfl rfl (any_of HT_.out (by kernel_rfl)) (fun _ _ _ h => h) (Or.inl ⟨by rfl, ?_⟩) ?_ ?_
                                rotate_left
                                · intro w'
                                  go_simp
                                  with_reducible rfl
                                rotate_left
                                · simp only [Act.put, List.setIfInBounds_toArray, List.set_cons_zero, List.set_cons_succ, i64_w, i32_w]
                                  rfl
                                refine pure_ (i := 11) (N := some 51) (v := ?_) (a' := ?_) #[true, true, true, true, true, true, true, true, true, true, true, true, true, false, false] rfl rfl (any_of HT_.out (by kernel_rfl)) (fun _ _ _ h => h) (Or.inl ⟨by rfl, ?_⟩) ?_ ?_
                                rotate_left
                                · intro w'
                                  go_simp
                                  with_reducible rfl
                                rotate_left
                                · simp only [Act.put, List.setIfInBounds_toArray, List.set_cons_zero, List.set_cons_succ, i64_w, i32_w]
                                  rfl
                                exact norm_ (by simp only [putAll, Act.put, List.setIfInBounds_toArray, List.set_cons_zero, List.set_cons_succ]) (hCont (gb270) _ ⟨hHeld, (by (with_reducible repeat (first | refine bN ?_ _ | refine bD ?_ | refine bA ?_ _)); exact BK264.out), (by (with_reducible repeat (first | refine bN ?_ _ | refine bD ?_ | refine bA ?_ _)); exact BK270.out), GW270.out, GE270.out, NB264_270.out, NB270_264.out, (by repeat (first | (with_reducible first | exact HB.out | apply wA | apply wN | apply wD | refine below_set ?_ GE264.out | refine below_set ?_ GE270.out) | exact HB.out))⟩)
                            rintro gb270 w23 ⟨hS_, h0_, h1_, h2_, h3_, h4_, h5_, h6_⟩
                            have n0_ : Aside0 (w23.heap[gb264]? = some (.cells #[.int .i64 a1_0, .int .i64 a1_1, .int .i64 a1_2] 26 (0, 0))) := ⟨h0_⟩
                            have n1_ : Aside0 (w23.heap[gb270]? = some (.cells #[.int .i64 0, .int .i64 0] 24 (0, 0))) := ⟨h1_⟩
                            have n2_ : Aside0 (w.heap.size ≤ gb270) := ⟨h2_⟩
                            have n3_ : Aside0 (w.heap.size ≤ gb270) := ⟨h3_⟩
                            have n4_ : Aside0 (gb264 ≠ gb270) := ⟨h4_⟩
                            have n5_ : Aside0 (gb270 ≠ gb264) := ⟨h5_⟩
                            have n6_ : Aside0 (Below w.heap.size w w23) := ⟨h6_⟩
                            clear BK264 HB h0_ h1_ h2_ h3_ h4_ h5_ h6_
                            have BK264 := n0_
                            have BK270 := n1_
                            have GW270 := n2_
                            have GE270 := n3_
                            have NB264_270 := n4_
                            have NB270_264 := n5_
                            have HB := n6_
                            clear n0_ n1_ n2_ n3_ n4_ n5_ n6_
                            have hHeld : w23.cell? ⟨gb264, 0, none⟩ = some (.int .i64 a1_0) ∧ w23.cell? ⟨gb264, 1, none⟩ = some (.int .i64 a1_1) ∧ w23.cell? ⟨gb264, 2, none⟩ = some (.int .i64 a1_2) ∧ w23.cell? (ad266.add ((x5_2).toNat * 2)) = some (.int .i64 ((rd_T24 l0 x5_2).f0)) ∧ w23.cell? ⟨(ad266.add ((x5_2).toNat * 2)).block, (ad266.add ((x5_2).toNat * 2)).off + 1, none⟩ = some (.int .i64 ((rd_T24 l0 x5_2).f1)) := hS_
                            refine norm_ (a' := ?_) ?_ ?_
                            rotate_left
                            · simp only [putAll, Act.put, List.setIfInBounds_toArray, List.set_cons_zero, List.set_cons_succ]
                              rfl
                            refine one_ (i := 13) (N := none) #[true, true, true, true, true, true, true, true, true, true, true, true, true, true, false] rfl rfl (one_of HT_.out (by kernel_rfl)) (by decide) (fun K hK => ?_)
                            have hs24 : w23.cell? ⟨gb270, 0, none⟩ = some (.int .i64 0) := (blk_cell BK270.out 0).trans rfl
                            have hfs24 := blk_frozen BK270.out 0
                            have hns24_0 := NB264_270.out
                            have hms24_0 := NB270_264.out
                            have hs25 : w23.cell? ⟨gb270, 1, none⟩ = some (.int .i64 0) := (blk_cell BK270.out 1).trans rfl
                            have hfs25 := blk_frozen BK270.out 1
                            have hns25_0 := NB264_270.out
                            have hms25_0 := NB270_264.out
                            refine skip_ (w1 := ?_) (by rfl) rfl ?_ ?_
                            rotate_left
                            · go_simp
                              rfl
                            refine hK.out _ _ ⟨((cell_far (p := ⟨gb270, _, none⟩) NB264_270.out _).trans (((cell_far (p := ⟨gb270, _, none⟩) NB264_270.out _).trans (hHeld.1)))), ((cell_far (p := ⟨gb270, _, none⟩) NB264_270.out _).trans (((cell_far (p := ⟨gb270, _, none⟩) NB264_270.out _).trans (hHeld.2.1)))), ((cell_far (p := ⟨gb270, _, none⟩) NB264_270.out _).trans (((cell_far (p := ⟨gb270, _, none⟩) NB264_270.out _).trans (hHeld.2.2.1)))), ((cell_far (p := ⟨gb270, _, none⟩) (by first | exact Nat.ne_of_lt (Nat.lt_of_lt_of_le (by have := World.block_lt_of_cell? _ _ hw266_0; first | rwa [add_block] at this | exact this) GW270.out) | (rw [add_block]; exact Nat.ne_of_lt (Nat.lt_of_lt_of_le (by have := World.block_lt_of_cell? _ _ hw266_0; first | rwa [add_block] at this | exact this) GW270.out)) | (show (Addr.add _ _).block ≠ _; rw [add_block]; exact Nat.ne_of_lt (Nat.lt_of_lt_of_le (by have := World.block_lt_of_cell? _ _ hw266_0; first | rwa [add_block] at this | exact this) GW270.out)) | (dsimp only; exact Nat.ne_of_lt (Nat.lt_of_lt_of_le (by have := World.block_lt_of_cell? _ _ hw266_0; first | rwa [add_block] at this | exact this) GW270.out))) _).trans (((cell_far (p := ⟨gb270, _, none⟩) (by first | exact Nat.ne_of_lt (Nat.lt_of_lt_of_le (by have := World.block_lt_of_cell? _ _ hw266_0; first | rwa [add_block] at this | exact this) GW270.out) | (rw [add_block]; exact Nat.ne_of_lt (Nat.lt_of_lt_of_le (by have := World.block_lt_of_cell? _ _ hw266_0; first | rwa [add_block] at this | exact this) GW270.out)) | (show (Addr.add _ _).block ≠ _; rw [add_block]; exact Nat.ne_of_lt (Nat.lt_of_lt_of_le (by have := World.block_lt_of_cell? _ _ hw266_0; first | rwa [add_block] at this | exact this) GW270.out)) | (dsimp only; exact Nat.ne_of_lt (Nat.lt_of_lt_of_le (by have := World.block_lt_of_cell? _ _ hw266_0; first | rwa [add_block] at this | exact this) GW270.out))) _).trans (hHeld.2.2.2.1)))), ((cell_far (p := ⟨gb270, _, none⟩) (by first | exact Nat.ne_of_lt (Nat.lt_of_lt_of_le (by have := World.block_lt_of_cell? _ _ hw266_1; first | rwa [add_block] at this | exact this) GW270.out) | (rw [add_block]; exact Nat.ne_of_lt (Nat.lt_of_lt_of_le (by have := World.block_lt_of_cell? _ _ hw266_1; first | rwa [add_block] at this | exact this) GW270.out)) | (show (Addr.add _ _).block ≠ _; rw [add_block]; exact Nat.ne_of_lt (Nat.lt_of_lt_of_le (by have := World.block_lt_of_cell? _ _ hw266_1; first | rwa [add_block] at this | exact this) GW270.out)) | (dsimp only; exact Nat.ne_of_lt (Nat.lt_of_lt_of_le (by have := World.block_lt_of_cell? _ _ hw266_1; first | rwa [add_block] at this | exact this) GW270.out))) _).trans (((cell_far (p := ⟨gb270, _, none⟩) (by first | exact Nat.ne_of_lt (Nat.lt_of_lt_of_le (by have := World.block_lt_of_cell? _ _ hw266_1; first | rwa [add_block] at this | exact this) GW270.out) | (rw [add_block]; exact Nat.ne_of_lt (Nat.lt_of_lt_of_le (by have := World.block_lt_of_cell? _ _ hw266_1; first | rwa [add_block] at this | exact this) GW270.out)) | (show (Addr.add _ _).block ≠ _; rw [add_block]; exact Nat.ne_of_lt (Nat.lt_of_lt_of_le (by have := World.block_lt_of_cell? _ _ hw266_1; first | rwa [add_block] at this | exact this) GW270.out)) | (dsimp only; exact Nat.ne_of_lt (Nat.lt_of_lt_of_le (by have := World.block_lt_of_cell? _ _ hw266_1; first | rwa [add_block] at this | exact this) GW270.out))) _).trans (hHeld.2.2.2.2))))⟩ (fun hHeld => ?_)
                            clear hK K
                            refine pure_ (i := 14) (N := some 7) (v := ?_) (a' := ?_) #[true, true, true, true, true, true, true, true, true, true, true, true, true, true, true] rfl rfl (any_of HT_.out (by kernel_rfl)) (fun _ _ _ h => h) (Or.inl ⟨by rfl, ?_⟩) ?_ ?_
                            rotate_left
                            · intro w'
                              go_simp
                              with_reducible rfl
                            rotate_left
                            · simp only [Act.put, List.setIfInBounds_toArray, List.set_cons_zero, List.set_cons_succ, i64_w, i32_w]
                              rfl
                            refine done_ (done_of HT_.out (by kernel_rfl)) ?_
                            try go_wp2
                            have n0_ : Aside0 (((w23.setCell ⟨gb270, 0, none⟩ (.int .i64 t267)).setCell ⟨gb270, 1, none⟩ (.int .i64 t268)).heap[gb264]? = some (.cells #[.int .i64 a1_0, .int .i64 a1_1, .int .i64 a1_2] 26 (0, 0))) := ⟨by (with_reducible repeat (first | refine bN ?_ _ | refine bD ?_ | refine bA ?_ _)); refine blk_far ?_ NB264_270.out _; (with_reducible repeat (first | refine bN ?_ _ | refine bD ?_ | refine bA ?_ _)); refine blk_far ?_ NB264_270.out _; (with_reducible repeat (first | refine bN ?_ _ | refine bD ?_ | refine bA ?_ _)); exact BK264.out⟩
                            have n1_ : Aside0 (((w23.setCell ⟨gb270, 0, none⟩ (.int .i64 t267)).setCell ⟨gb270, 1, none⟩ (.int .i64 t268)).heap[gb270]? = some (.cells #[.int .i64 t267, .int .i64 t268] 24 (0, 0))) := ⟨by (with_reducible repeat (first | refine bN ?_ _ | refine bD ?_ | refine bA ?_ _)); refine blk_put (cs := #[.int .i64 t267, .int .i64 0]) ?_ 1 _ rfl; (with_reducible repeat (first | refine bN ?_ _ | refine bD ?_ | refine bA ?_ _)); refine blk_put (cs := #[.int .i64 0, .int .i64 0]) ?_ 0 _ rfl; (with_reducible repeat (first | refine bN ?_ _ | refine bD ?_ | refine bA ?_ _)); exact BK270.out⟩
                            have n2_ : Aside0 (Below w.heap.size w ((w23.setCell ⟨gb270, 0, none⟩ (.int .i64 t267)).setCell ⟨gb270, 1, none⟩ (.int .i64 t268))) := ⟨by repeat (first | (with_reducible first | exact HB.out | apply wA | apply wN | apply wD | refine below_set ?_ GE264.out | refine below_set ?_ GE270.out) | exact HB.out)⟩
                            (try clear BK264)
                            (try clear BK270)
                            (try clear HB)
                            generalize ((w23.setCell ⟨gb270, 0, none⟩ (.int .i64 t267)).setCell ⟨gb270, 1, none⟩ (.int .i64 t268)) = w26 at n0_ n1_ n2_ ⊢
                            have BK264 := n0_
                            have BK270 := n1_
                            have HB := n2_
                            clear n0_ n1_ n2_
                            have n0_ := ak (bD BK264.out)
                            have n1_ := ak (bD BK270.out)
                            have n2_ := ak (wD HB.out)
                            clear BK264 BK270 HB
                            have BK264 := n0_
                            have BK270 := n1_
                            have HB := n2_
                            clear n0_ n1_ n2_
                            have p271 : 0 ≤ (x5_2 : Int) := of_decide_eq_true (by first | (with_reducible assumption) | assumption)
                            have q271 : x5_2 < (l0.length : Int) := of_decide_eq_true (by first | (with_reducible assumption) | assumption)
                            obtain ⟨ad271, e271, hx271_0, hx271_1⟩ := at_T24 HR0.out x5_2 p271 q271
                            have hw271_1 := hx271_1
                            have hw271_0 := hx271_0
                            obtain rfl : ad266 = ad271 := (by injection e271)
                            replace hx271_0 := (HB.out.cell (World.block_lt_of_cell? w _ hx271_0)).trans hx271_0
                            replace hx271_1 := (HB.out.cell (World.block_lt_of_cell? w _ hx271_1)).trans hx271_1
                            replace p271 := eq_true p271
                            replace q271 := eq_true q271
                            refine start_ (n := 15) (S := fun w' => w'.cell? ⟨gb264, 0, none⟩ = some (.int .i64 a1_0) ∧ w'.cell? ⟨gb264, 1, none⟩ = some (.int .i64 a1_1) ∧ w'.cell? ⟨gb264, 2, none⟩ = some (.int .i64 a1_2) ∧ w'.cell? (ad266.add ((x5_2).toNat * 2)) = some (.int .i64 ((rd_T24 l0 x5_2).f0)) ∧ w'.cell? ⟨(ad266.add ((x5_2).toNat * 2)).block, (ad266.add ((x5_2).toNat * 2)).off + 1, none⟩ = some (.int .i64 ((rd_T24 l0 x5_2).f1))) (ds := []) #[false, false, false, false, false, false, false, false, false, false, false, false, false, false, false] (by kernel_rfl) rfl rfl ⟨(blk_cell BK264.out 0).trans rfl, (blk_cell BK264.out 1).trans rfl, (blk_cell BK264.out 2).trans rfl, ((HB.out.cell (World.block_lt_of_cell? w _ hw271_0)).trans hw271_0), ((HB.out.cell (World.block_lt_of_cell? w _ hw271_1)).trans hw271_1)⟩ (fun hHeld => ?_); refine with_tabW mummerlaw03_SpansShifts.tab7 mummerlaw03_SpansShifts.bits7 (fun HT_ HW_ => ?_)
                            generalize w26.drew = w27 at BK264 BK270 HB hx271_0 hx271_1 hHeld ⊢
                            refine pure_ (i := 0) (N := some 53) (v := ?_) (a' := ?_) #[true, false, false, false, false, false, false, false, false, false, false, false, false, false, false] rfl rfl (any_of HT_.out (by kernel_rfl)) (fun _ _ _ h => h) (Or.inl ⟨by rfl, ?_⟩) ?_ ?_
                            rotate_left
                            · intro w'
                              go_simp
                              with_reducible rfl
                            rotate_left
                            · simp only [Act.put, List.setIfInBounds_toArray, List.set_cons_zero, List.set_cons_succ, i64_w, i32_w]
                              rfl
                            refine pure_ (i := 1) (N := some 54) (v := ?_) (a' := ?_) #[true, true, false, false, false, false, false, false, false, false, false, false, false, false, false] rfl rfl (any_of HT_.out (by kernel_rfl)) (fun _ _ _ h => h) (Or.inl ⟨by rfl, ?_⟩) ?_ ?_
                            rotate_left
                            · intro w'
                              go_simp
                              with_reducible rfl
                            rotate_left
                            · simp only [Act.put, List.setIfInBounds_toArray, List.set_cons_zero, List.set_cons_succ, i64_w, i32_w]
                              rfl
                            refine pure_ (i := 2) (N := some 55) (v := ?_) (a' := ?_) #[true, true, true, false, false, false, false, false, false, false, false, false, false, false, false] rfl rfl (any_of HT_.out (by kernel_rfl)) (fun _ _ _ h => h) (Or.inl ⟨by rfl, ?_⟩) ?_ ?_
                            rotate_left
                            · intro w'
                              go_simp
                              with_reducible rfl
                            rotate_left
                            · simp only [Act.put, List.setIfInBounds_toArray, List.set_cons_zero, List.set_cons_succ, i64_w, i32_w]
                              rfl
                            refine pure_ (i := 4) (N := some 57) (v := ?_) (a' := ?_) #[true, true, true, false, true, false, false, false, false, false, false, false, false, false, false] rfl rfl (any_of HT_.out (by kernel_rfl)) (fun _ _ _ h => h) (Or.inl ⟨by rfl, ?_⟩) ?_ ?_
                            rotate_left
                            · intro w'
                              go_simp
                              with_reducible rfl
                            rotate_left
                            · simp only [Act.put, List.setIfInBounds_toArray, List.set_cons_zero, List.set_cons_succ, i64_w, i32_w]
                              rfl
                            refine pure_ (i := 6) (N := some 59) (v := ?_) (a' := ?_) #[true, true, true, false, true, false, true, false, false, false, false, false, false, false, false] rfl rfl (any_of HT_.out (by kernel_rfl)) (fun _ _ _ h => h) (Or.inl ⟨by rfl, ?_⟩) ?_ ?_
                            rotate_left
                            · intro w'
                              go_simp
                              with_reducible rfl
                            rotate_left
                            · simp only [Act.put, List.setIfInBounds_toArray, List.set_cons_zero, List.set_cons_succ, i64_w, i32_w]
                              rfl
                            refine take_ (i := 3) (N := some 56) (v := ?_) (a' := ?_) #[true, true, true, true, true, false, true, false, false, false, false, false, false, false, false] rfl rfl (take_ofW HT_.out HW_.out (by kernel_rfl)) (fun _ _ _ h => h) (Or.inl ⟨by rfl, ?_⟩) hHeld ?_ ?_
                            rotate_left
                            · rintro w' ⟨s0, s1, s2, s3, s4⟩
                              go_simp
                              with_reducible rfl
                            rotate_left
                            · simp only [Act.put, List.setIfInBounds_toArray, List.set_cons_zero, List.set_cons_succ, i64_w, i32_w]
                              rfl
                            refine take_ (i := 5) (N := some 58) (v := ?_) (a' := ?_) #[true, true, true, true, true, true, true, false, false, false, false, false, false, false, false] rfl rfl (take_ofW HT_.out HW_.out (by kernel_rfl)) (fun _ _ _ h => h) (Or.inl ⟨by rfl, ?_⟩) hHeld ?_ ?_
                            rotate_left
                            · rintro w' ⟨s0, s1, s2, s3, s4⟩
                              go_simp
                              with_reducible rfl
                            rotate_left
                            · simp only [Act.put, List.setIfInBounds_toArray, List.set_cons_zero, List.set_cons_succ, i64_w, i32_w]
                              rfl
                            refine take_ (i := 7) (N := some 60) (v := ?_) (a' := ?_) #[true, true, true, true, true, true, true, true, false, false, false, false, false, false, false] rfl rfl (take_ofW HT_.out HW_.out (by kernel_rfl)) (fun _ _ _ h => h) (Or.inl ⟨by rfl, ?_⟩) hHeld ?_ ?_
                            rotate_left
                            · rintro w' ⟨s0, s1, s2, s3, s4⟩
                              go_simp
                              with_reducible rfl
                            rotate_left
                            · simp only [Act.put, List.setIfInBounds_toArray, List.set_cons_zero, List.set_cons_succ, i64_w, i32_w]
                              rfl
                            refine join_ (σ := Nat) 2 #[true, true, true, true, true, true, true, true, true, true, true, true, true, false, false] (fun s_ => [(61, .tuple #[.agg #[.int .i64 t272, .int .i64 t273], .int .i64 t274]), (8, .pointer (some ⟨s_, 0, none⟩)), (52, .tuple #[.agg #[.int .i64 t272, .int .i64 t273], .int .i64 t274]), (62, .agg #[.int .i64 t272, .int .i64 t273]), (63, .int .i64 t274)]) (fun s_ w' => (w'.cell? ⟨gb264, 0, none⟩ = some (.int .i64 a1_0) ∧ w'.cell? ⟨gb264, 1, none⟩ = some (.int .i64 a1_1) ∧ w'.cell? ⟨gb264, 2, none⟩ = some (.int .i64 a1_2) ∧ w'.cell? (ad266.add ((x5_2).toNat * 2)) = some (.int .i64 ((rd_T24 l0 x5_2).f0)) ∧ w'.cell? ⟨(ad266.add ((x5_2).toNat * 2)).block, (ad266.add ((x5_2).toNat * 2)).off + 1, none⟩ = some (.int .i64 ((rd_T24 l0 x5_2).f1))) ∧ (w'.heap[gb264]? = some (.cells #[.int .i64 a1_0, .int .i64 a1_1, .int .i64 a1_2] 26 (0, 0))) ∧ (w'.heap[gb270]? = some (.cells #[.int .i64 t267, .int .i64 t268] 24 (0, 0))) ∧ (w'.heap[s_]? = some (.cells #[.int .i64 0, .int .i64 0] 24 (0, 0))) ∧ (w.heap.size ≤ s_) ∧ (w.heap.size ≤ s_) ∧ (gb264 ≠ s_) ∧ (s_ ≠ gb264) ∧ (gb270 ≠ s_) ∧ (s_ ≠ gb270) ∧ (Below w.heap.size w w')) ?_ ?_
                            rotate_left
                            · intro hCont
                              refine two_ (i := 8) (j := 12) (Ni := some 61) (Nj := some 8) #[true, true, true, true, true, true, true, true, true, false, false, false, false, false, false] #[true, true, true, true, true, true, true, true, false, false, false, false, true, false, false] rfl rfl rfl rfl (two_of HT_.out (by kernel_rfl)) (by decide) (by decide) (fun K hK => ?_) (fun K hK => ?_)
                              · skip
                                refine goes_ Tryd.func14 (by kernel_rfl) rfl #[.agg #[.int .i64 ((rd_T24 l0 x5_2).f0), .int .i64 ((rd_T24 l0 x5_2).f1)], .agg #[.int .i64 a1_0, .int .i64 a1_1], .int .i64 a1_2] (by rfl) rfl rfl (by (try simp only [List.map_toArray, List.map_cons, List.map_nil]); first | done | rfl | (simp only [List.length_drop, List.length_take]; rfl)) ?_
                                with_reducible refine (mummerref03_Shift.calls kj10 ((rd_T24 l0 x5_2).f0) ((rd_T24 l0 x5_2).f1) a1_0 a1_1 a1_2 t272 t273 t274 _ A17.out).mono ?_
                                rintro e w28 ⟨rfl, hb⟩
                                refine ⟨_, rfl, ?_⟩
                                have n0_ := ak (blk_below (g := gb264) (o := .cells #[.int .i64 a1_0, .int .i64 a1_1, .int .i64 a1_2] 26 (0, 0)) (by (with_reducible repeat (first | refine bN ?_ _ | refine bD ?_ | refine bA ?_ _)); exact BK264.out) hb)
                                have n1_ := ak (blk_below (g := gb270) (o := .cells #[.int .i64 t267, .int .i64 t268] 24 (0, 0)) (by (with_reducible repeat (first | refine bN ?_ _ | refine bD ?_ | refine bA ?_ _)); exact BK270.out) hb)
                                have n2_ := ak (below_step (by repeat (first | (with_reducible first | exact HB.out | apply wA | apply wN | apply wD | refine below_set ?_ GE264.out | refine below_set ?_ GE270.out) | exact HB.out)) hb)
                                clear BK264 BK270 HB
                                have BK264 := n0_
                                have BK270 := n1_
                                have HB := n2_
                                clear n0_ n1_ n2_
                                (try clear hb)
                                (try clear hb2)
                                (try clear hk)
                                (try clear hi)
                                refine hK.out _ _ ⟨(blk_cell BK264.out 0).trans rfl, (blk_cell BK264.out 1).trans rfl, (blk_cell BK264.out 2).trans rfl, ((HB.out.cell (World.block_lt_of_cell? w _ hw271_0)).trans hw271_0), ((HB.out.cell (World.block_lt_of_cell? w _ hw271_1)).trans hw271_1)⟩ (fun hHeld => ?_)
                                clear hK K
                                refine norm_ (a' := ?_) ?_ ?_
                                rotate_left
                                · show Act.put _ (some 61) _ = _
                                  simp only [Act.put, List.setIfInBounds_toArray, List.set_cons_zero, List.set_cons_succ, i64_w, i32_w]
                                  rfl
                                refine pure_ (i := 9) (N := some 52) (v := ?_) (a' := ?_) #[true, true, true, true, true, true, true, true, true, true, false, false, false, false, false] rfl rfl (any_of HT_.out (by kernel_rfl)) (fun _ _ _ h => h) (Or.inl ⟨by rfl, ?_⟩) ?_ ?_
                                rotate_left
                                · intro w'
                                  go_simp
                                  with_reducible rfl
                                rotate_left
                                · simp only [Act.put, List.setIfInBounds_toArray, List.set_cons_zero, List.set_cons_succ, i64_w, i32_w]
                                  rfl
                                refine pure_ (i := 10) (N := some 62) (v := ?_) (a' := ?_) #[true, true, true, true, true, true, true, true, true, true, true, false, false, false, false] rfl rfl (any_of HT_.out (by kernel_rfl)) (fun _ _ _ h => h) (Or.inl ⟨by rfl, ?_⟩) ?_ ?_
                                rotate_left
                                · intro w'
                                  go_simp
                                  with_reducible rfl
                                rotate_left
                                · simp only [Act.put, List.setIfInBounds_toArray, List.set_cons_zero, List.set_cons_succ, i64_w, i32_w]
                                  rfl
                                refine pure_ (i := 11) (N := some 63) (v := ?_) (a' := ?_) #[true, true, true, true, true, true, true, true, true, true, true, true, false, false, false] rfl rfl (any_of HT_.out (by kernel_rfl)) (fun _ _ _ h => h) (Or.inl ⟨by rfl, ?_⟩) ?_ ?_
                                rotate_left
                                · intro w'
                                  go_simp
                                  with_reducible rfl
                                rotate_left
                                · simp only [Act.put, List.setIfInBounds_toArray, List.set_cons_zero, List.set_cons_succ, i64_w, i32_w]
                                  rfl
                                refine one_ (i := 12) (N := some 8) #[true, true, true, true, true, true, true, true, true, true, true, true, true, false, false] rfl rfl (one_of HT_.out (by kernel_rfl)) (by decide) (fun K hK => ?_)
                                refine box_step ?hg (N := 8) ?hd (cs := #[.int .i64 0, .int .i64 0]) (t := 24) ?hr ?_; (case hd => rfl); (case hg => rfl); (case hr => first | (go_simp; done) | (go_simp; rfl))
                                intro gb275 hg w29 hbox hb
                                have n0_ := ak (blk_below (g := gb264) (o := .cells #[.int .i64 a1_0, .int .i64 a1_1, .int .i64 a1_2] 26 (0, 0)) (by (with_reducible repeat (first | refine bN ?_ _ | refine bD ?_ | refine bA ?_ _)); exact BK264.out) hb)
                                have n1_ := ak (blk_below (g := gb270) (o := .cells #[.int .i64 t267, .int .i64 t268] 24 (0, 0)) (by (with_reducible repeat (first | refine bN ?_ _ | refine bD ?_ | refine bA ?_ _)); exact BK270.out) hb)
                                have n2_ := ak (below_step (by repeat (first | (with_reducible first | exact HB.out | apply wA | apply wN | apply wD | refine below_set ?_ GE264.out | refine below_set ?_ GE270.out) | exact HB.out)) hb)
                                have n3_ := ak (hbox)
                                have n4_ := ak ((by rw [hg]; exact (below_size (by repeat (first | (with_reducible first | exact HB.out | apply wA | apply wN | apply wD | refine below_set ?_ GE264.out | refine below_set ?_ GE270.out) | exact HB.out))) : w.heap.size ≤ gb275))
                                have n5_ := ak ((by rw [hg]; exact (below_size (by repeat (first | (with_reducible first | exact HB.out | apply wA | apply wN | apply wD | refine below_set ?_ GE264.out | refine below_set ?_ GE270.out) | exact HB.out))) : w.heap.size ≤ gb275))
                                have n6_ := ak ((by rw [hg]; exact Nat.ne_of_lt (blk_lt (g := gb264) (o := .cells #[.int .i64 a1_0, .int .i64 a1_1, .int .i64 a1_2] 26 (0, 0)) (by (with_reducible repeat (first | refine bN ?_ _ | refine bD ?_ | refine bA ?_ _)); exact BK264.out)) : gb264 ≠ gb275))
                                have n7_ := ak ((by rw [hg]; exact Nat.ne_of_gt (blk_lt (g := gb264) (o := .cells #[.int .i64 a1_0, .int .i64 a1_1, .int .i64 a1_2] 26 (0, 0)) (by (with_reducible repeat (first | refine bN ?_ _ | refine bD ?_ | refine bA ?_ _)); exact BK264.out)) : gb275 ≠ gb264))
                                have n8_ := ak ((by rw [hg]; exact Nat.ne_of_lt (blk_lt (g := gb270) (o := .cells #[.int .i64 t267, .int .i64 t268] 24 (0, 0)) (by (with_reducible repeat (first | refine bN ?_ _ | refine bD ?_ | refine bA ?_ _)); exact BK270.out)) : gb270 ≠ gb275))
                                have n9_ := ak ((by rw [hg]; exact Nat.ne_of_gt (blk_lt (g := gb270) (o := .cells #[.int .i64 t267, .int .i64 t268] 24 (0, 0)) (by (with_reducible repeat (first | refine bN ?_ _ | refine bD ?_ | refine bA ?_ _)); exact BK270.out)) : gb275 ≠ gb270))
                                clear BK264 BK270 HB
                                have BK264 := n0_
                                have BK270 := n1_
                                have HB := n2_
                                have BK275 := n3_
                                have GW275 := n4_
                                have GE275 := n5_
                                have NB264_275 := n6_
                                have NB275_264 := n7_
                                have NB270_275 := n8_
                                have NB275_270 := n9_
                                clear n0_ n1_ n2_ n3_ n4_ n5_ n6_ n7_ n8_ n9_ hb hbox hg
                                refine hK.out _ _ ⟨(blk_cell BK264.out 0).trans rfl, (blk_cell BK264.out 1).trans rfl, (blk_cell BK264.out 2).trans rfl, ((HB.out.cell (World.block_lt_of_cell? w _ hw271_0)).trans hw271_0), ((HB.out.cell (World.block_lt_of_cell? w _ hw271_1)).trans hw271_1)⟩ (fun hHeld => ?_)
                                clear hK K
                                refine norm_ (a' := ?_) ?_ ?_
                                rotate_left
                                · show Act.put _ (some 8) _ = _
                                  simp only [Act.put, List.setIfInBounds_toArray, List.set_cons_zero, List.set_cons_succ, i64_w, i32_w]
                                  rfl
                                exact norm_ (by simp only [putAll, Act.put, List.setIfInBounds_toArray, List.set_cons_zero, List.set_cons_succ]) (hCont (gb275) _ ⟨hHeld, (by (with_reducible repeat (first | refine bN ?_ _ | refine bD ?_ | refine bA ?_ _)); exact BK264.out), (by (with_reducible repeat (first | refine bN ?_ _ | refine bD ?_ | refine bA ?_ _)); exact BK270.out), (by (with_reducible repeat (first | refine bN ?_ _ | refine bD ?_ | refine bA ?_ _)); exact BK275.out), GW275.out, GE275.out, NB264_275.out, NB275_264.out, NB270_275.out, NB275_270.out, (by repeat (first | (with_reducible first | exact HB.out | apply wA | apply wN | apply wD | refine below_set ?_ GE264.out | refine below_set ?_ GE270.out | refine below_set ?_ GE275.out) | exact HB.out))⟩)
                              · skip
                                refine box_step ?hg (N := 8) ?hd (cs := #[.int .i64 0, .int .i64 0]) (t := 24) ?hr ?_; (case hd => rfl); (case hg => rfl); (case hr => first | (go_simp; done) | (go_simp; rfl))
                                intro gb275 hg w28 hbox hb
                                have n0_ := ak (blk_below (g := gb264) (o := .cells #[.int .i64 a1_0, .int .i64 a1_1, .int .i64 a1_2] 26 (0, 0)) (by (with_reducible repeat (first | refine bN ?_ _ | refine bD ?_ | refine bA ?_ _)); exact BK264.out) hb)
                                have n1_ := ak (blk_below (g := gb270) (o := .cells #[.int .i64 t267, .int .i64 t268] 24 (0, 0)) (by (with_reducible repeat (first | refine bN ?_ _ | refine bD ?_ | refine bA ?_ _)); exact BK270.out) hb)
                                have n2_ := ak (below_step (by repeat (first | (with_reducible first | exact HB.out | apply wA | apply wN | apply wD | refine below_set ?_ GE264.out | refine below_set ?_ GE270.out) | exact HB.out)) hb)
                                have n3_ := ak (hbox)
                                have n4_ := ak ((by rw [hg]; exact (below_size (by repeat (first | (with_reducible first | exact HB.out | apply wA | apply wN | apply wD | refine below_set ?_ GE264.out | refine below_set ?_ GE270.out) | exact HB.out))) : w.heap.size ≤ gb275))
                                have n5_ := ak ((by rw [hg]; exact (below_size (by repeat (first | (with_reducible first | exact HB.out | apply wA | apply wN | apply wD | refine below_set ?_ GE264.out | refine below_set ?_ GE270.out) | exact HB.out))) : w.heap.size ≤ gb275))
                                have n6_ := ak ((by rw [hg]; exact Nat.ne_of_lt (blk_lt (g := gb264) (o := .cells #[.int .i64 a1_0, .int .i64 a1_1, .int .i64 a1_2] 26 (0, 0)) (by (with_reducible repeat (first | refine bN ?_ _ | refine bD ?_ | refine bA ?_ _)); exact BK264.out)) : gb264 ≠ gb275))
                                have n7_ := ak ((by rw [hg]; exact Nat.ne_of_gt (blk_lt (g := gb264) (o := .cells #[.int .i64 a1_0, .int .i64 a1_1, .int .i64 a1_2] 26 (0, 0)) (by (with_reducible repeat (first | refine bN ?_ _ | refine bD ?_ | refine bA ?_ _)); exact BK264.out)) : gb275 ≠ gb264))
                                have n8_ := ak ((by rw [hg]; exact Nat.ne_of_lt (blk_lt (g := gb270) (o := .cells #[.int .i64 t267, .int .i64 t268] 24 (0, 0)) (by (with_reducible repeat (first | refine bN ?_ _ | refine bD ?_ | refine bA ?_ _)); exact BK270.out)) : gb270 ≠ gb275))
                                have n9_ := ak ((by rw [hg]; exact Nat.ne_of_gt (blk_lt (g := gb270) (o := .cells #[.int .i64 t267, .int .i64 t268] 24 (0, 0)) (by (with_reducible repeat (first | refine bN ?_ _ | refine bD ?_ | refine bA ?_ _)); exact BK270.out)) : gb275 ≠ gb270))
                                clear BK264 BK270 HB
                                have BK264 := n0_
                                have BK270 := n1_
                                have HB := n2_
                                have BK275 := n3_
                                have GW275 := n4_
                                have GE275 := n5_
                                have NB264_275 := n6_
                                have NB275_264 := n7_
                                have NB270_275 := n8_
                                have NB275_270 := n9_
                                clear n0_ n1_ n2_ n3_ n4_ n5_ n6_ n7_ n8_ n9_ hb hbox hg
                                refine hK.out _ _ ⟨(blk_cell BK264.out 0).trans rfl, (blk_cell BK264.out 1).trans rfl, (blk_cell BK264.out 2).trans rfl, ((HB.out.cell (World.block_lt_of_cell? w _ hw271_0)).trans hw271_0), ((HB.out.cell (World.block_lt_of_cell? w _ hw271_1)).trans hw271_1)⟩ (fun hHeld => ?_)
                                clear hK K
                                refine norm_ (a' := ?_) ?_ ?_
                                rotate_left
                                · show Act.put _ (some 8) _ = _
                                  simp only [Act.put, List.setIfInBounds_toArray, List.set_cons_zero, List.set_cons_succ, i64_w, i32_w]
                                  rfl
                                refine one_ (i := 8) (N := some 61) #[true, true, true, true, true, true, true, true, true, false, false, false, true, false, false] rfl rfl (one_of HT_.out (by kernel_rfl)) (by decide) (fun K hK => ?_)
                                refine goes_ Tryd.func14 (by kernel_rfl) rfl #[.agg #[.int .i64 ((rd_T24 l0 x5_2).f0), .int .i64 ((rd_T24 l0 x5_2).f1)], .agg #[.int .i64 a1_0, .int .i64 a1_1], .int .i64 a1_2] (by rfl) rfl rfl (by (try simp only [List.map_toArray, List.map_cons, List.map_nil]); first | done | rfl | (simp only [List.length_drop, List.length_take]; rfl)) ?_
                                with_reducible refine (mummerref03_Shift.calls kj10 ((rd_T24 l0 x5_2).f0) ((rd_T24 l0 x5_2).f1) a1_0 a1_1 a1_2 t272 t273 t274 _ A17.out).mono ?_
                                rintro e w29 ⟨rfl, hb⟩
                                refine ⟨_, rfl, ?_⟩
                                have n0_ := ak (blk_below (g := gb264) (o := .cells #[.int .i64 a1_0, .int .i64 a1_1, .int .i64 a1_2] 26 (0, 0)) (by (with_reducible repeat (first | refine bN ?_ _ | refine bD ?_ | refine bA ?_ _)); exact BK264.out) hb)
                                have n1_ := ak (blk_below (g := gb270) (o := .cells #[.int .i64 t267, .int .i64 t268] 24 (0, 0)) (by (with_reducible repeat (first | refine bN ?_ _ | refine bD ?_ | refine bA ?_ _)); exact BK270.out) hb)
                                have n2_ := ak (blk_below (g := gb275) (o := .cells #[.int .i64 0, .int .i64 0] 24 (0, 0)) (by (with_reducible repeat (first | refine bN ?_ _ | refine bD ?_ | refine bA ?_ _)); exact BK275.out) hb)
                                have n3_ := ak (below_step (by repeat (first | (with_reducible first | exact HB.out | apply wA | apply wN | apply wD | refine below_set ?_ GE264.out | refine below_set ?_ GE270.out | refine below_set ?_ GE275.out) | exact HB.out)) hb)
                                clear BK264 BK270 BK275 HB
                                have BK264 := n0_
                                have BK270 := n1_
                                have BK275 := n2_
                                have HB := n3_
                                clear n0_ n1_ n2_ n3_
                                (try clear hb)
                                (try clear hb2)
                                (try clear hk)
                                (try clear hi)
                                refine hK.out _ _ ⟨(blk_cell BK264.out 0).trans rfl, (blk_cell BK264.out 1).trans rfl, (blk_cell BK264.out 2).trans rfl, ((HB.out.cell (World.block_lt_of_cell? w _ hw271_0)).trans hw271_0), ((HB.out.cell (World.block_lt_of_cell? w _ hw271_1)).trans hw271_1)⟩ (fun hHeld => ?_)
                                clear hK K
                                refine norm_ (a' := ?_) ?_ ?_
                                rotate_left
                                · show Act.put _ (some 61) _ = _
                                  simp only [Act.put, List.setIfInBounds_toArray, List.set_cons_zero, List.set_cons_succ, i64_w, i32_w]
                                  rfl
                                refine pure_ (i := 9) (N := some 52) (v := ?_) (a' := ?_) #[true, true, true, true, true, true, true, true, true, true, false, false, true, false, false] rfl rfl (any_of HT_.out (by kernel_rfl)) (fun _ _ _ h => h) (Or.inl ⟨by rfl, ?_⟩) ?_ ?_
                                rotate_left
                                · intro w'
                                  go_simp
                                  with_reducible rfl
                                rotate_left
                                · simp only [Act.put, List.setIfInBounds_toArray, List.set_cons_zero, List.set_cons_succ, i64_w, i32_w]
                                  rfl
                                refine pure_ (i := 10) (N := some 62) (v := ?_) (a' := ?_) #[true, true, true, true, true, true, true, true, true, true, true, false, true, false, false] rfl rfl (any_of HT_.out (by kernel_rfl)) (fun _ _ _ h => h) (Or.inl ⟨by rfl, ?_⟩) ?_ ?_
                                rotate_left
                                · intro w'
                                  go_simp
                                  with_reducible rfl
                                rotate_left
                                · simp only [Act.put, List.setIfInBounds_toArray, List.set_cons_zero, List.set_cons_succ, i64_w, i32_w]
                                  rfl
                                refine pure_ (i := 11) (N := some 63) (v := ?_) (a' := ?_) #[true, true, true, true, true, true, true, true, true, true, true, true, true, false, false] rfl rfl (any_of HT_.out (by kernel_rfl)) (fun _ _ _ h => h) (Or.inl ⟨by rfl, ?_⟩) ?_ ?_
                                rotate_left
                                · intro w'
                                  go_simp
                                  with_reducible rfl
                                rotate_left
                                · simp only [Act.put, List.setIfInBounds_toArray, List.set_cons_zero, List.set_cons_succ, i64_w, i32_w]
                                  rfl
                                exact norm_ (by simp only [putAll, Act.put, List.setIfInBounds_toArray, List.set_cons_zero, List.set_cons_succ]) (hCont (gb275) _ ⟨hHeld, (by (with_reducible repeat (first | refine bN ?_ _ | refine bD ?_ | refine bA ?_ _)); exact BK264.out), (by (with_reducible repeat (first | refine bN ?_ _ | refine bD ?_ | refine bA ?_ _)); exact BK270.out), (by (with_reducible repeat (first | refine bN ?_ _ | refine bD ?_ | refine bA ?_ _)); exact BK275.out), GW275.out, GE275.out, NB264_275.out, NB275_264.out, NB270_275.out, NB275_270.out, (by repeat (first | (with_reducible first | exact HB.out | apply wA | apply wN | apply wD | refine below_set ?_ GE264.out | refine below_set ?_ GE270.out | refine below_set ?_ GE275.out) | exact HB.out))⟩)
                            rintro gb275 w30 ⟨hS_, h0_, h1_, h2_, h3_, h4_, h5_, h6_, h7_, h8_, h9_⟩
                            have n0_ : Aside0 (w30.heap[gb264]? = some (.cells #[.int .i64 a1_0, .int .i64 a1_1, .int .i64 a1_2] 26 (0, 0))) := ⟨h0_⟩
                            have n1_ : Aside0 (w30.heap[gb270]? = some (.cells #[.int .i64 t267, .int .i64 t268] 24 (0, 0))) := ⟨h1_⟩
                            have n2_ : Aside0 (w30.heap[gb275]? = some (.cells #[.int .i64 0, .int .i64 0] 24 (0, 0))) := ⟨h2_⟩
                            have n3_ : Aside0 (w.heap.size ≤ gb275) := ⟨h3_⟩
                            have n4_ : Aside0 (w.heap.size ≤ gb275) := ⟨h4_⟩
                            have n5_ : Aside0 (gb264 ≠ gb275) := ⟨h5_⟩
                            have n6_ : Aside0 (gb275 ≠ gb264) := ⟨h6_⟩
                            have n7_ : Aside0 (gb270 ≠ gb275) := ⟨h7_⟩
                            have n8_ : Aside0 (gb275 ≠ gb270) := ⟨h8_⟩
                            have n9_ : Aside0 (Below w.heap.size w w30) := ⟨h9_⟩
                            clear BK264 BK270 HB h0_ h1_ h2_ h3_ h4_ h5_ h6_ h7_ h8_ h9_
                            have BK264 := n0_
                            have BK270 := n1_
                            have BK275 := n2_
                            have GW275 := n3_
                            have GE275 := n4_
                            have NB264_275 := n5_
                            have NB275_264 := n6_
                            have NB270_275 := n7_
                            have NB275_270 := n8_
                            have HB := n9_
                            clear n0_ n1_ n2_ n3_ n4_ n5_ n6_ n7_ n8_ n9_
                            have hHeld : w30.cell? ⟨gb264, 0, none⟩ = some (.int .i64 a1_0) ∧ w30.cell? ⟨gb264, 1, none⟩ = some (.int .i64 a1_1) ∧ w30.cell? ⟨gb264, 2, none⟩ = some (.int .i64 a1_2) ∧ w30.cell? (ad266.add ((x5_2).toNat * 2)) = some (.int .i64 ((rd_T24 l0 x5_2).f0)) ∧ w30.cell? ⟨(ad266.add ((x5_2).toNat * 2)).block, (ad266.add ((x5_2).toNat * 2)).off + 1, none⟩ = some (.int .i64 ((rd_T24 l0 x5_2).f1)) := hS_
                            refine norm_ (a' := ?_) ?_ ?_
                            rotate_left
                            · simp only [putAll, Act.put, List.setIfInBounds_toArray, List.set_cons_zero, List.set_cons_succ]
                              rfl
                            refine one_ (i := 13) (N := none) #[true, true, true, true, true, true, true, true, true, true, true, true, true, true, false] rfl rfl (one_of HT_.out (by kernel_rfl)) (by decide) (fun K hK => ?_)
                            have hs31 : w30.cell? ⟨gb275, 0, none⟩ = some (.int .i64 0) := (blk_cell BK275.out 0).trans rfl
                            have hfs31 := blk_frozen BK275.out 0
                            have hns31_0 := NB264_275.out
                            have hns31_1 := NB270_275.out
                            have hms31_0 := NB275_264.out
                            have hms31_1 := NB275_270.out
                            have hs32 : w30.cell? ⟨gb275, 1, none⟩ = some (.int .i64 0) := (blk_cell BK275.out 1).trans rfl
                            have hfs32 := blk_frozen BK275.out 1
                            have hns32_0 := NB264_275.out
                            have hns32_1 := NB270_275.out
                            have hms32_0 := NB275_264.out
                            have hms32_1 := NB275_270.out
                            refine skip_ (w1 := ?_) (by rfl) rfl ?_ ?_
                            rotate_left
                            · go_simp
                              rfl
                            refine hK.out _ _ ⟨((cell_far (p := ⟨gb275, _, none⟩) NB264_275.out _).trans (((cell_far (p := ⟨gb275, _, none⟩) NB264_275.out _).trans (hHeld.1)))), ((cell_far (p := ⟨gb275, _, none⟩) NB264_275.out _).trans (((cell_far (p := ⟨gb275, _, none⟩) NB264_275.out _).trans (hHeld.2.1)))), ((cell_far (p := ⟨gb275, _, none⟩) NB264_275.out _).trans (((cell_far (p := ⟨gb275, _, none⟩) NB264_275.out _).trans (hHeld.2.2.1)))), ((cell_far (p := ⟨gb275, _, none⟩) (by first | exact Nat.ne_of_lt (Nat.lt_of_lt_of_le (by have := World.block_lt_of_cell? _ _ hw271_0; first | rwa [add_block] at this | exact this) GW275.out) | (rw [add_block]; exact Nat.ne_of_lt (Nat.lt_of_lt_of_le (by have := World.block_lt_of_cell? _ _ hw271_0; first | rwa [add_block] at this | exact this) GW275.out)) | (show (Addr.add _ _).block ≠ _; rw [add_block]; exact Nat.ne_of_lt (Nat.lt_of_lt_of_le (by have := World.block_lt_of_cell? _ _ hw271_0; first | rwa [add_block] at this | exact this) GW275.out)) | (dsimp only; exact Nat.ne_of_lt (Nat.lt_of_lt_of_le (by have := World.block_lt_of_cell? _ _ hw271_0; first | rwa [add_block] at this | exact this) GW275.out))) _).trans (((cell_far (p := ⟨gb275, _, none⟩) (by first | exact Nat.ne_of_lt (Nat.lt_of_lt_of_le (by have := World.block_lt_of_cell? _ _ hw271_0; first | rwa [add_block] at this | exact this) GW275.out) | (rw [add_block]; exact Nat.ne_of_lt (Nat.lt_of_lt_of_le (by have := World.block_lt_of_cell? _ _ hw271_0; first | rwa [add_block] at this | exact this) GW275.out)) | (show (Addr.add _ _).block ≠ _; rw [add_block]; exact Nat.ne_of_lt (Nat.lt_of_lt_of_le (by have := World.block_lt_of_cell? _ _ hw271_0; first | rwa [add_block] at this | exact this) GW275.out)) | (dsimp only; exact Nat.ne_of_lt (Nat.lt_of_lt_of_le (by have := World.block_lt_of_cell? _ _ hw271_0; first | rwa [add_block] at this | exact this) GW275.out))) _).trans (hHeld.2.2.2.1)))), ((cell_far (p := ⟨gb275, _, none⟩) (by first | exact Nat.ne_of_lt (Nat.lt_of_lt_of_le (by have := World.block_lt_of_cell? _ _ hw271_1; first | rwa [add_block] at this | exact this) GW275.out) | (rw [add_block]; exact Nat.ne_of_lt (Nat.lt_of_lt_of_le (by have := World.block_lt_of_cell? _ _ hw271_1; first | rwa [add_block] at this | exact this) GW275.out)) | (show (Addr.add _ _).block ≠ _; rw [add_block]; exact Nat.ne_of_lt (Nat.lt_of_lt_of_le (by have := World.block_lt_of_cell? _ _ hw271_1; first | rwa [add_block] at this | exact this) GW275.out)) | (dsimp only; exact Nat.ne_of_lt (Nat.lt_of_lt_of_le (by have := World.block_lt_of_cell? _ _ hw271_1; first | rwa [add_block] at this | exact this) GW275.out))) _).trans (((cell_far (p := ⟨gb275, _, none⟩) (by first | exact Nat.ne_of_lt (Nat.lt_of_lt_of_le (by have := World.block_lt_of_cell? _ _ hw271_1; first | rwa [add_block] at this | exact this) GW275.out) | (rw [add_block]; exact Nat.ne_of_lt (Nat.lt_of_lt_of_le (by have := World.block_lt_of_cell? _ _ hw271_1; first | rwa [add_block] at this | exact this) GW275.out)) | (show (Addr.add _ _).block ≠ _; rw [add_block]; exact Nat.ne_of_lt (Nat.lt_of_lt_of_le (by have := World.block_lt_of_cell? _ _ hw271_1; first | rwa [add_block] at this | exact this) GW275.out)) | (dsimp only; exact Nat.ne_of_lt (Nat.lt_of_lt_of_le (by have := World.block_lt_of_cell? _ _ hw271_1; first | rwa [add_block] at this | exact this) GW275.out))) _).trans (hHeld.2.2.2.2))))⟩ (fun hHeld => ?_)
                            clear hK K
                            refine pure_ (i := 14) (N := some 9) (v := ?_) (a' := ?_) #[true, true, true, true, true, true, true, true, true, true, true, true, true, true, true] rfl rfl (any_of HT_.out (by kernel_rfl)) (fun _ _ _ h => h) (Or.inl ⟨by rfl, ?_⟩) ?_ ?_
                            rotate_left
                            · intro w'
                              go_simp
                              with_reducible rfl
                            rotate_left
                            · simp only [Act.put, List.setIfInBounds_toArray, List.set_cons_zero, List.set_cons_succ, i64_w, i32_w]
                              rfl
                            refine done_ (done_of HT_.out (by kernel_rfl)) ?_
                            have hnb33 := NB270_264.out
                            have hnc33 := NB264_270.out
                            have hnb34 := NB270_275.out
                            have hnc34 := NB275_270.out
                            have hcz35_0 : w30.cell? ⟨gb270, 0, none⟩ = some (.int .i64 t267) := (blk_cell BK270.out 0).trans rfl
                            have hcz35_1 : w30.cell? ⟨gb270, 1, none⟩ = some (.int .i64 t268) := (blk_cell BK270.out 1).trans rfl
                            have hfz35_0 := blk_frozen BK270.out 0
                            have hfz35_1 := blk_frozen BK270.out 1
                            have hnb36 := NB275_264.out
                            have hnc36 := NB264_275.out
                            have hcz37_0 : w30.cell? ⟨gb275, 0, none⟩ = some (.int .i64 0) := (blk_cell BK275.out 0).trans rfl
                            have hcz37_1 : w30.cell? ⟨gb275, 1, none⟩ = some (.int .i64 0) := (blk_cell BK275.out 1).trans rfl
                            have hfz37_0 := blk_frozen BK275.out 0
                            have hfz37_1 := blk_frozen BK275.out 1
                            try go_wp2
                            go_roundg kj10
                            case measure => have := HJ2.out; have := HK2.out; have := HJ10.out; omega
                            case rel => exact ⟨(wrap64 (x5_2 + 1)), (by first | rfl | (simp; done) | (simp [*]; done)), H', ⟨by have := HJ2.out; have := HK2.out; have := HJ10.out; omega⟩, ⟨by (with_reducible repeat (first | refine bN ?_ _ | refine bD ?_ | refine bA ?_ _)); refine blk_far ?_ NB264_275.out _; (with_reducible repeat (first | refine bN ?_ _ | refine bD ?_ | refine bA ?_ _)); refine blk_far ?_ NB264_275.out _; (with_reducible repeat (first | refine bN ?_ _ | refine bD ?_ | refine bA ?_ _)); exact BK264.out⟩, ⟨by repeat (first | (with_reducible first | exact HB.out | apply wA | apply wN | apply wD | refine below_set ?_ GE264.out | refine below_set ?_ GE270.out | refine below_set ?_ GE275.out) | exact HB.out)⟩⟩
                          · rw [if_neg c19] at H
                            have c19b0 : (t269 == t274) = false := beq_eq_false_iff_ne.mpr c19
                            have c19b1 : (t269 != t274) = true := bne_iff_ne.mpr c19
                            exact absurd ((Option.some.inj H).trans hrt.out) (by decide)
                      · rw [if_neg c15] at H
                        exact absurd H (by simp)
                    · rw [if_neg c14] at H
                      exact absurd H (by simp)
                  · replace c13 := Bool.eq_false_iff.mpr c13
                    subst c13
                    have H1 : (mummerlaw03_SpansShifts.j3 kj10 l0) = some r := by rw [if_neg (show ¬ (false = true) by decide)] at H; exact H
                    clear H
                    have H := H1
                    clear H1
                    have H' := ak H
                    clear H
                    go_wp2
                    go_meet
                    case rel => exact ⟨_, H', ⟨by have := HJ2.out; have := HK2.out; have := HJ10.out; first | omega | exact Nat.le_refl _⟩, ⟨by (with_reducible repeat (first | refine bN ?_ _ | refine bD ?_ | refine bA ?_ _)); exact BK264.out⟩, ⟨by repeat (first | (with_reducible first | exact HB.out | apply wA | apply wN | apply wD | refine below_set ?_ GE264.out) | exact HB.out)⟩⟩
        case rest =>
          clear HC10
          try clear c1
          try clear p2
          try clear q2
          try clear hx2
          try clear c3
          try clear p6
          try clear c13
          try clear c14
          try clear c15
          try clear c19
          try clear c19b0
          try clear c19b1
          try clear p27
          try clear q27
          try clear hx27
          try clear c33
          try clear c34
          try clear c36
          try clear hcz35_0
          try clear hcz35_1
          try clear hcz37_0
          try clear hcz37_1
          try clear hfz35_0
          try clear hfz35_1
          try clear hfz37_0
          try clear hfz37_1
          try clear hx271_0
          try clear hx271_1
          try clear p271
          try clear q271
          obtain ⟨kq, HA, HJ9, BK264, HB⟩ := hcut
          cases kq with
          | zero => exact absurd HA.out (by simp [mummerlaw03_SpansShifts.j3])
          | succ kj9 =>
            have H := HA.out
            clear HA
            simp only [mummerlaw03_SpansShifts.j3] at H
            replace H := Option.bind_eq_some_iff.mp H
            obtain ⟨⟨t276, t277, t278⟩, A380, H⟩ := H
            replace H : ((mummerref03_Nest.f kj9 l0).bind fun bt281 => ((mummerref02_SameInts.f kj9 t276 bt281.1).bind fun t286 => (if t286 = true then (if t277 = bt281.2.1 then (if t278 = bt281.2.2 then ((mummerlaw03_awake.f kj9).bind fun t287 => (some t287)) else (some false)) else (some false)) else (some false)))) = some r := H
            have A38 := ak A380
            clear A380
            replace H := Option.bind_eq_some_iff.mp H
            obtain ⟨⟨t281, t282, t283⟩, A390, H⟩ := H
            replace H : ((mummerref02_SameInts.f kj9 t276 t281).bind fun t286 => (if t286 = true then (if t277 = t282 then (if t278 = t283 then ((mummerlaw03_awake.f kj9).bind fun t287 => (some t287)) else (some false)) else (some false)) else (some false))) = some r := H
            have A39 := ak A390
            clear A390
            replace H := Option.bind_eq_some_iff.mp H
            obtain ⟨t286, A400, H⟩ := H
            replace H : (if t286 = true then (if t277 = t282 then (if t278 = t283 then ((mummerlaw03_awake.f kj9).bind fun t287 => (some t287)) else (some false)) else (some false)) else (some false)) = some r := H
            have A40 := ak A400
            clear A400
            by_cases c41 : t286 = true
            · subst c41
              have H1 : (if t277 = t282 then (if t278 = t283 then ((mummerlaw03_awake.f kj9).bind fun t287 => (some t287)) else (some false)) else (some false)) = some r := by rw [if_pos rfl] at H; exact H
              clear H
              have H := H1
              clear H1
              by_cases c42 : t277 = t282
              · rw [if_pos c42] at H
                have c42b0 : (t277 == t282) = true := beq_iff_eq.mpr c42
                have c42b1 : (t277 != t282) = false := bne_eq_false_iff_eq.mpr c42
                clear c42
                by_cases c43 : t278 = t283
                · rw [if_pos c43] at H
                  have c43b0 : (t278 == t283) = true := beq_iff_eq.mpr c43
                  have c43b1 : (t278 != t283) = false := bne_eq_false_iff_eq.mpr c43
                  clear c43
                  replace H := Option.bind_eq_some_iff.mp H
                  obtain ⟨t287, A440, H⟩ := H
                  replace H : (some t287) = some r := H
                  have A44 := ak A440
                  clear A440
                  obtain rfl := Option.some.inj H
                  go_wp2_with (first | ((with_reducible refine gate_callee (f := 15) rfl ?_); refine goesL_ (some 74) rfl rfl Tryd.func15 (by kernel_rfl) rfl #[.slice A0 l0.length c0] rfl (by (try simp only [List.map_toArray, List.map_cons, List.map_nil]); first | done | rfl | (simp only [List.length_drop, List.length_take]; rfl)) ?_; (with_reducible refine (spans_Nest.calls kj9 _ _ l0 t276 t277 t278 _ ?side1 ?side2 A38.out).mono ?_); (case side1 => repeat (first | exact (Kd.C_below HR0.out HB.out) | (with_reducible refine Kd.C_alloc ?_ _) | (with_reducible refine Kd.C_drewN ?_ _) | (with_reducible refine Kd.C_drew ?_))); (case side2 => exact HC0.out); rintro e w45 ⟨v279, rfl, ho0, hb⟩; refine ⟨_, rfl, ?_⟩; have n0_ := ak (Kd.R_lower ho0 (below_size (by repeat (first | (with_reducible first | exact HB.out | apply wA | apply wN | apply wD | refine below_set ?_ GE264.out) | exact HB.out)))); have n1_ := ak (blk_below (g := gb264) (o := .cells #[.int .i64 a1_0, .int .i64 a1_1, .int .i64 a1_2] 26 (0, 0)) (by (with_reducible repeat (first | refine bN ?_ _ | refine bD ?_ | refine bA ?_ _)); exact BK264.out) hb); have n2_ := ak (below_step (by repeat (first | (with_reducible first | exact HB.out | apply wA | apply wN | apply wD | refine below_set ?_ GE264.out) | exact HB.out)) hb); clear BK264; clear HB; have HO280 := n0_; have BK264 := n1_; have HB := n2_; clear n0_ n1_ n2_; (try clear hb); (try clear hb2); (try clear hk); (try clear hi); (try clear ho0)) | ((with_reducible refine gate_callee (f := 16) rfl ?_); refine goesL_ (some 80) rfl rfl Tryd.func16 (by kernel_rfl) rfl #[.slice A0 l0.length c0] rfl (by (try simp only [List.map_toArray, List.map_cons, List.map_nil]); first | done | rfl | (simp only [List.length_drop, List.length_take]; rfl)) ?_; (with_reducible refine (mummerref03_Nest.calls kj9 _ _ l0 t281 t282 t283 _ ?side1 ?side2 A39.out).mono ?_); (case side1 => repeat (first | exact (Kd.C_below HR0.out HB.out) | (with_reducible refine Kd.C_alloc ?_ _) | (with_reducible refine Kd.C_drewN ?_ _) | (with_reducible refine Kd.C_drew ?_))); (case side2 => exact HC0.out); rintro e w46 ⟨v284, rfl, ho0, hb⟩; refine ⟨_, rfl, ?_⟩; have n0_ := ak (Kd.R_elder' (by (with_reducible repeat (first | apply Kd.R_alloc | apply Kd.R_drewN | apply Kd.R_drew)); exact HO280.out) (Kd.R_base ho0) hb); have n1_ := ak (Kd.R_lower (Kd.R_new' ho0 (Kd.R_lt (by (with_reducible repeat (first | apply Kd.R_alloc | apply Kd.R_drewN | apply Kd.R_drew)); exact HO280.out))) (below_size (by repeat (first | (with_reducible first | exact HB.out | apply wA | apply wN | apply wD | refine below_set ?_ GE264.out) | exact HB.out)))); have n2_ := ak (blk_below (g := gb264) (o := .cells #[.int .i64 a1_0, .int .i64 a1_1, .int .i64 a1_2] 26 (0, 0)) (by (with_reducible repeat (first | refine bN ?_ _ | refine bD ?_ | refine bA ?_ _)); exact BK264.out) hb); have n3_ := ak (below_step (by repeat (first | (with_reducible first | exact HB.out | apply wA | apply wN | apply wD | refine below_set ?_ GE264.out) | exact HB.out)) hb); clear HO280; clear BK264; clear HB; have HO280 := n0_; have HO285 := n1_; have BK264 := n2_; have HB := n3_; clear n0_ n1_ n2_ n3_; (try clear hb); (try clear hb2); (try clear hk); (try clear hi); (try clear ho0); obtain ⟨Ao47, co47, eo47⟩ := Kd.R_slice HO280.out; subst eo47; obtain ⟨Ao48, co48, eo48⟩ := Kd.R_slice HO285.out; subst eo48) | ((with_reducible refine gate_callee (f := 17) rfl ?_); refine goesL_ (some 86) rfl rfl Tryd.func17 (by kernel_rfl) rfl #[.slice Ao47 t276.length co47, .slice Ao48 t281.length co48] rfl (by (try simp only [List.map_toArray, List.map_cons, List.map_nil]); first | done | rfl | (simp only [List.length_drop, List.length_take]; rfl)) ?_; (with_reducible refine (mummerref02_SameInts.calls kj9 _ _ t276 _ _ t281 true _ ?side1 ?side2 ?side3 ?side4 A40.out).mono ?_); (case side1 => repeat (first | exact (Kd.R_reads' HO280.out).2.2 | (with_reducible refine Kd.C_alloc ?_ _) | (with_reducible refine Kd.C_drewN ?_ _) | (with_reducible refine Kd.C_drew ?_))); (case side2 => exact (Kd.R_reads' HO280.out).2.1); (case side3 => repeat (first | exact (Kd.R_reads' HO285.out).2.2 | (with_reducible refine Kd.C_alloc ?_ _) | (with_reducible refine Kd.C_drewN ?_ _) | (with_reducible refine Kd.C_drew ?_))); (case side4 => exact (Kd.R_reads' HO285.out).2.1); rintro e w' ⟨rfl, ⟨nd, rfl⟩⟩; refine ⟨_, rfl, ?_⟩) | (go_at_call 12; (with_reducible refine (mummerlaw03_awake.calls kj9  t287 _ hrt A44.out ⟨Sc.Tab.stay HT.out (by repeat (first | (with_reducible first | exact HB.out | apply wA | apply wN | apply wD) | exact HB.out | (refine below_set ?_ (by assumption))))⟩).mono ?_); rintro e w49 ⟨rfl, hb⟩; have n0_ := ak (Kd.R_below (by (with_reducible repeat (first | apply Kd.R_alloc | apply Kd.R_drewN | apply Kd.R_drew)); exact HO280.out) hb); have n1_ := ak (Kd.R_below (by (with_reducible repeat (first | apply Kd.R_alloc | apply Kd.R_drewN | apply Kd.R_drew)); exact HO285.out) hb); have n2_ := ak (blk_below (g := gb264) (o := .cells #[.int .i64 a1_0, .int .i64 a1_1, .int .i64 a1_2] 26 (0, 0)) (by (with_reducible repeat (first | refine bN ?_ _ | refine bD ?_ | refine bA ?_ _)); exact BK264.out) hb); have n3_ := ak (below_step (by repeat (first | (with_reducible first | exact HB.out | apply wA | apply wN | apply wD | refine below_set ?_ GE264.out) | exact HB.out)) hb); clear HO280; clear HO285; clear BK264; clear HB; have HO280 := n0_; have HO285 := n1_; have BK264 := n2_; have HB := n3_; clear n0_ n1_ n2_ n3_; (try clear hb); (try clear hb2); (try clear hk); (try clear hi)))
                  go_ret
                  exact ⟨by first | rfl | (simp [errW_none, errW_some] <;> rfl) | (simp [*, errW_none, errW_some] <;> rfl), by repeat (first | (with_reducible first | exact HB.out | apply wA | apply wN | apply wD | refine below_set ?_ GE264.out) | exact HB.out)⟩
                · rw [if_neg c43] at H
                  have c43b0 : (t278 == t283) = false := beq_eq_false_iff_ne.mpr c43
                  have c43b1 : (t278 != t283) = true := bne_iff_ne.mpr c43
                  exact absurd ((Option.some.inj H).trans hrt.out) (by decide)
              · rw [if_neg c42] at H
                have c42b0 : (t277 == t282) = false := beq_eq_false_iff_ne.mpr c42
                have c42b1 : (t277 != t282) = true := bne_iff_ne.mpr c42
                exact absurd ((Option.some.inj H).trans hrt.out) (by decide)
            · replace c41 := Bool.eq_false_iff.mpr c41
              subst c41
              have H1 : (some false) = some r := by rw [if_neg (show ¬ (false = true) by decide)] at H; exact H
              clear H
              have H := H1
              clear H1
              exact absurd ((Option.some.inj H).trans hrt.out) (by decide)

end Go.Proofs.YtnkfdobcmfdhfaaDoor.P
