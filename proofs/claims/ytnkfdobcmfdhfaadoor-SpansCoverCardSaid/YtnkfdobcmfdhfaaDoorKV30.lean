import Derived.Test.YtnkfdobcmfdhfaaDoorKV26
import Derived.Test.YtnkfdobcmfdhfaaDoorKV28
namespace Go.Proofs.YtnkfdobcmfdhfaaDoor.P
open Go.RowKit Go.Proofs.YtnkfdobcmfdhfaaDoorW.PrintWords Go.Proofs.YtnkfdobcmfdhfaaDoorW.PrintLast Go.Proofs.YtnkfdobcmfdhfaaDoorW.PrintMore
attribute [local go_sem] max2_int min2_int max_two min_two max_three min_three max_four min_four   -- for this text's walks alone
set_option linter.unusedVariables false
set_option linter.unusedSimpArgs false
attribute [local go_sem high] eqA24
abbrev q7_0 : Array Bool := #[Z,Z,Z,Z,Z,Z,Z,Z,Z,Z,Z]
abbrev q7_1 : Array Bool := #[Y,Z,Z,Z,Z,Z,Z,Z,Z,Z,Z]
abbrev q7_2 : Array Bool := #[Y,Y,Z,Z,Z,Z,Z,Z,Z,Z,Z]
abbrev q7_3 : Array Bool := #[Y,Y,Y,Z,Z,Z,Z,Z,Z,Z,Z]
abbrev q7_4 : Array Bool := #[Y,Y,Y,Y,Z,Z,Z,Z,Z,Z,Z]
abbrev q7_5 : Array Bool := #[Y,Y,Y,Y,Y,Z,Z,Z,Z,Z,Z]
abbrev q7_6 : Array Bool := #[Y,Y,Y,Y,Y,Y,Z,Z,Z,Z,Z]
abbrev q7_7 : Array Bool := #[Y,Y,Y,Y,Y,Y,Y,Z,Z,Z,Z]
abbrev q7_8 : Array Bool := #[Y,Y,Y,Y,Y,Y,Y,Y,Z,Z,Z]
abbrev q7_9 : Array Bool := #[Y,Y,Y,Y,Y,Y,Y,Y,Y,Z,Z]
abbrev q7_10 : Array Bool := #[Y,Y,Y,Y,Y,Y,Y,Y,Y,Y,Z]
abbrev q7_11 : Array Bool := #[Y,Y,Y,Y,Y,Y,Y,Y,Y,Y,Y]
abbrev q7_12 : Array Bool := #[Z,Z,Z,Z,Z,Z,Z,Z,Z,Z,Z,Z,Z,Z]
abbrev q7_13 : Array Bool := #[Y,Z,Z,Z,Z,Z,Z,Z,Z,Z,Z,Z,Z,Z]
abbrev q7_14 : Array Bool := #[Y,Y,Z,Z,Z,Z,Z,Z,Z,Z,Z,Z,Z,Z]
abbrev q7_15 : Array Bool := #[Y,Y,Y,Z,Z,Z,Z,Z,Z,Z,Z,Z,Z,Z]
abbrev q7_16 : Array Bool := #[Y,Y,Y,Y,Y,Y,Y,Y,Y,Y,Y,Z,Z,Z]
abbrev q7_17 : Array Bool := #[Y,Y,Y,Y,Y,Y,Y,Z,Z,Z,Z,Z,Z,Z]
abbrev q7_18 : Array Bool := #[Y,Y,Y,Y,Y,Y,Y,Y,Z,Z,Z,Z,Z,Z]
abbrev q7_19 : Array Bool := #[Y,Y,Y,Y,Y,Y,Y,Y,Y,Z,Z,Z,Z,Z]
abbrev q7_20 : Array Bool := #[Y,Y,Y,Y,Y,Y,Y,Y,Y,Y,Z,Z,Z,Z]
abbrev q7_21 : Array Bool := #[Y,Y,Y,Y,Y,Y,Y,Y,Y,Y,Y,Y,Z,Z]
abbrev q7_22 : Array Bool := #[Y,Y,Y,Y,Y,Y,Y,Y,Y,Y,Y,Y,Y,Z]
abbrev q7_23 : Array Bool := #[Y,Y,Y,Y,Y,Y,Y,Y,Y,Y,Y,Y,Y,Y]
abbrev q7_24 : Array Bool := #[Y,Y,Y,Z,Y,Z,Z,Z,Z,Z,Z,Z,Z,Z]
abbrev q7_25 : Array Bool := #[Y,Y,Y,Z,Y,Y,Z,Z,Z,Z,Z,Z,Z,Z]
abbrev q7_26 : Array Bool := #[Y,Y,Y,Z,Y,Y,Y,Z,Z,Z,Z,Z,Z,Z]
abbrev q7_27 : Array Bool := #[Z,Z,Z,Z,Z,Z,Z,Z,Z,Z]
abbrev q7_28 : Array Bool := #[Y,Z,Z,Z,Z,Z,Z,Z,Z,Z]
abbrev q7_29 : Array Bool := #[Y,Y,Z,Z,Z,Z,Z,Z,Z,Z]
abbrev q7_30 : Array Bool := #[Y,Y,Y,Z,Z,Z,Z,Z,Z,Z]
abbrev q7_31 : Array Bool := #[Y,Y,Y,Y,Z,Z,Z,Z,Z,Z]
abbrev q7_32 : Array Bool := #[Y,Y,Y,Y,Y,Z,Z,Z,Z,Z]
abbrev q7_33 : Array Bool := #[Y,Y,Y,Y,Y,Y,Z,Z,Z,Z]
abbrev q7_34 : Array Bool := #[Y,Y,Y,Y,Y,Y,Y,Z,Z,Z]
abbrev q7_35 : Array Bool := #[Y,Y,Y,Y,Y,Y,Y,Y,Z,Z]
abbrev q7_36 : Array Bool := #[Y,Y,Y,Y,Y,Y,Y,Y,Y,Z]
abbrev q7_37 : Array Bool := #[Y,Y,Y,Y,Y,Y,Y,Y,Y,Y]
mutual
def mummerlaw03_SpansCover.j0 : Nat → List (S24) → Bool → Int → Int → Option (Bool)
 | 0, _, _, _, _ => none
 | k + 1, x0, x34, x410000, x410001 => if x34 = true then ((mummerlaw03_awake.f k).bind fun t411 => (some t411)) else ((spans_Cover.f k x0).bind fun bt412 => (if bt412.2.2 = 0 then (mummerlaw03_SpansCover.l0 k x0 true 0 x410000 x410001 bt412.1 bt412.2.1) else (if (bt412.1 == 0 && (bt412.2.1 == 0)) = true then ((mummerlaw03_awake.f k).bind fun t416 => (some t416)) else (some false))))
def mummerlaw03_SpansCover.l0 : Nat → List (S24) → Bool → Int → Int → Int → Int → Int → Option (Bool)
 | 0, _, _, _, _, _, _, _ => none
 | k + 1, x0, x7, x8, x410000, x410001, x416000, x416001 => if x8 < (x0.length : Int) then (if 0 ≤ x8 then ((spans_Within.f k ((rd_T24 x0 x8).f0) ((rd_T24 x0 x8).f1) x416000 x416001).bind fun bt421 => ((spans_Within.f k ((rd_T24 x0 x8).f0) ((rd_T24 x0 x8).f1) x410000 x410001).bind fun bt424 => (if bt421.2 = 0 then (if bt424.2 = 0 then (if bt421.1 = true then (if x7 = true then (mummerlaw03_SpansCover.j2 k x0 bt424.1 x8 x410000 x410001 x416000 x416001) else (mummerlaw03_SpansCover.j2 k x0 false x8 x410000 x410001 x416000 x416001)) else (some false)) else (some false)) else (some false)))) else (none)) else ((spans_Within.f k x416000 x416001 x410000 x410001).bind fun bt417 => (if bt417.2 = 0 then (if (bt417.1 == x7) = true then ((mummerlaw03_awake.f k).bind fun t419 => (some t419)) else (some false)) else (some false)))
def mummerlaw03_SpansCover.j2 : Nat → List (S24) → Bool → Int → Int → Int → Int → Int → Option (Bool)
 | 0, _, _, _, _, _, _, _ => none
 | k + 1, x0, x7, x8, x410000, x410001, x416000, x416001 => if 0 ≤ x8 then (if x8 < (x0.length : Int) then ((spans_Meet.f k ((rd_T24 x0 x8).f0) ((rd_T24 x0 x8).f1) x410000 x410001).bind fun bt427 => (if bt427.2.2.2 = 0 then (if bt427.2.2.1 = true then ((spans_Within.f k bt427.1 bt427.2.1 ((rd_T24 x0 x8).f0) ((rd_T24 x0 x8).f1)).bind fun bt433 => ((spans_Within.f k bt427.1 bt427.2.1 x410000 x410001).bind fun bt435 => (if bt433.2 = 0 then (if bt435.2 = 0 then (if bt433.1 = true then (if bt435.1 = true then (mummerlaw03_SpansCover.j3 k x0 x7 x8 bt427.2.2.1 x410000 x410001 x416000 x416001 bt427.1 bt427.2.1) else (some false)) else (some false)) else (some false)) else (some false)))) else (mummerlaw03_SpansCover.j3 k x0 x7 x8 bt427.2.2.1 x410000 x410001 x416000 x416001 bt427.1 bt427.2.1)) else (some false))) else (none)) else (none)
def mummerlaw03_SpansCover.j3 : Nat → List (S24) → Bool → Int → Bool → Int → Int → Int → Int → Int → Int → Option (Bool)
 | 0, _, _, _, _, _, _, _, _, _, _ => none
 | k + 1, x0, x7, x8, x14, x410000, x410001, x416000, x416001, x432000, x432001 => mummerlaw03_SpansCover.l1 k x0 x7 x8 x14 0 x410000 x410001 x416000 x416001 x432000 x432001
def mummerlaw03_SpansCover.l1 : Nat → List (S24) → Bool → Int → Bool → Int → Int → Int → Int → Int → Int → Int → Option (Bool)
 | 0, _, _, _, _, _, _, _, _, _, _, _ => none
 | k + 1, x0, x7, x8, x14, x20, x410000, x410001, x416000, x416001, x432000, x432001 => if x20 < (x0.length : Int) then (if 0 ≤ x20 then (if 0 ≤ x8 then (if x8 < (x0.length : Int) then ((spans_Within.f k ((rd_T24 x0 x20).f0) ((rd_T24 x0 x20).f1) ((rd_T24 x0 x8).f0) ((rd_T24 x0 x8).f1)).bind fun bt439 => ((spans_Within.f k ((rd_T24 x0 x20).f0) ((rd_T24 x0 x20).f1) x410000 x410001).bind fun bt442 => (if x14 = true then ((spans_Within.f k ((rd_T24 x0 x20).f0) ((rd_T24 x0 x20).f1) x432000 x432001).bind fun bt445 => (if bt439.2 = 0 then (if bt442.2 = 0 then (if bt439.1 = true then (if bt442.1 = true then (if bt445.1 = true then (mummerlaw03_SpansCover.l1 k x0 x7 x8 x14 (wrap64 (x20 + 1)) x410000 x410001 x416000 x416001 x432000 x432001) else (some false)) else (mummerlaw03_SpansCover.l1 k x0 x7 x8 x14 (wrap64 (x20 + 1)) x410000 x410001 x416000 x416001 x432000 x432001)) else (mummerlaw03_SpansCover.l1 k x0 x7 x8 x14 (wrap64 (x20 + 1)) x410000 x410001 x416000 x416001 x432000 x432001)) else (some false)) else (some false))) else (if bt439.2 = 0 then (if bt442.2 = 0 then (if bt439.1 = true then (if bt442.1 = true then (some false) else (mummerlaw03_SpansCover.l1 k x0 x7 x8 x14 (wrap64 (x20 + 1)) x410000 x410001 x416000 x416001 x432000 x432001)) else (mummerlaw03_SpansCover.l1 k x0 x7 x8 x14 (wrap64 (x20 + 1)) x410000 x410001 x416000 x416001 x432000 x432001)) else (some false)) else (some false))))) else (none)) else (none)) else (none)) else (mummerlaw03_SpansCover.l0 k x0 x7 (wrap64 (x8 + 1)) x410000 x410001 x416000 x416001)
end
def mummerlaw03_SpansCover.f (k : Nat) (l0 : List (S24)) (a1_0 : Int) (a1_1 : Int) : Option (Bool) := if (l0.length : Int) > 40 then (mummerlaw03_SpansCover.j0 k l0 true a1_0 a1_1) else ((mummerlaw03_valid.f a1_0 a1_1).bind fun t410 => (mummerlaw03_SpansCover.j0 k l0 (!t410) a1_0 a1_1))
def mummerlaw03_SpansCover.T10 : Bool × List (List Nat × List Nat) := (true, [([], []), ([], []), ([0, 1], [0, 1]), ([2], [2]), ([], []), ([3, 4], [3, 4]), ([5], [5]), ([6], [6]), ([6], [6]), ([7, 5, 0, 1, 2, 3, 4, 5, 6, 7], [7]), ([8, 9, 0, 1, 2, 3, 4, 5, 6, 7, 8, 9], [8])])
def mummerlaw03_SpansCover.B10 : List Nat := [0, 0, 3, 7, 0, 31, 63, 127, 127, 255, 1023]
theorem mummerlaw03_SpansCover.tab10 : rtab .any (opsOf Tryd.f7 10) = mummerlaw03_SpansCover.T10 := by kernel_rfl
theorem mummerlaw03_SpansCover.bits10 : waitsOk mummerlaw03_SpansCover.T10.2 mummerlaw03_SpansCover.B10 = true := by kernel_rfl
def mummerlaw03_SpansCover.T11 : Bool × List (List Nat × List Nat) := (true, [([], []), ([], []), ([0, 1], [0, 1]), ([2], [2]), ([], []), ([3, 4], [3, 4]), ([5], [5]), ([6], [6]), ([6], [6]), ([7, 5, 0, 1, 2, 3, 4, 5, 6, 7], [7]), ([8, 9, 0, 1, 2, 3, 4, 5, 6, 7, 8, 9], [8])])
def mummerlaw03_SpansCover.B11 : List Nat := [0, 0, 3, 7, 0, 31, 63, 127, 127, 255, 1023]
theorem mummerlaw03_SpansCover.tab11 : rtab .any (opsOf Tryd.f7 11) = mummerlaw03_SpansCover.T11 := by kernel_rfl
theorem mummerlaw03_SpansCover.bits11 : waitsOk mummerlaw03_SpansCover.T11.2 mummerlaw03_SpansCover.B11 = true := by kernel_rfl
def mummerlaw03_SpansCover.T15 : Bool × List (List Nat × List Nat) := (true, [([], []), ([], []), ([0, 1], [0, 1]), ([2], [2]), ([], []), ([3, 4], [3, 4]), ([5], [5]), ([6], [6]), ([6], [6]), ([6], [6]), ([], []), ([10, 7, 5, 0, 1, 2, 3, 4, 5, 6, 7, 10], [7, 10]), ([8, 11, 0, 1, 2, 3, 4, 5, 6, 7, 8, 10, 11], [8]), ([9, 12, 0, 1, 2, 3, 4, 5, 6, 7, 8, 9, 10, 11, 12], [9])])
def mummerlaw03_SpansCover.B15 : List Nat := [0, 0, 3, 7, 0, 31, 63, 127, 127, 127, 0, 1279, 3583, 8191]
theorem mummerlaw03_SpansCover.tab15 : rtab .any (opsOf Tryd.f7 15) = mummerlaw03_SpansCover.T15 := by kernel_rfl
theorem mummerlaw03_SpansCover.bits15 : waitsOk mummerlaw03_SpansCover.T15.2 mummerlaw03_SpansCover.B15 = true := by kernel_rfl
def mummerlaw03_SpansCover.T19 : Bool × List (List Nat × List Nat) := (true, [([], []), ([], []), ([], []), ([1, 2], [1, 2]), ([3], [3]), ([0, 4], [0, 4]), ([5], [5]), ([6], [6]), ([6], [6]), ([7, 5, 0, 1, 2, 3, 4, 5, 6, 7], [7]), ([8, 9, 0, 1, 2, 3, 4, 5, 6, 7, 8, 9], [8])])
def mummerlaw03_SpansCover.B19 : List Nat := [0, 0, 0, 6, 14, 31, 63, 127, 127, 255, 1023]
theorem mummerlaw03_SpansCover.tab19 : rtab .any (opsOf Tryd.f7 19) = mummerlaw03_SpansCover.T19 := by kernel_rfl
theorem mummerlaw03_SpansCover.bits19 : waitsOk mummerlaw03_SpansCover.T19.2 mummerlaw03_SpansCover.B19 = true := by kernel_rfl
def mummerlaw03_SpansCover.T26 : Bool × List (List Nat × List Nat) := (true, [([], []), ([], []), ([0, 1], [0, 1]), ([2], [2]), ([], []), ([], []), ([4, 5], [4, 5]), ([6], [6]), ([3, 7], [3, 7]), ([8], [8]), ([9], [9]), ([9], [9]), ([10, 8, 0, 1, 2, 3, 4, 5, 6, 7, 8, 9, 10], [10]), ([11, 12, 0, 1, 2, 3, 4, 5, 6, 7, 8, 9, 10, 11, 12], [11])])
def mummerlaw03_SpansCover.B26 : List Nat := [0, 0, 3, 7, 0, 0, 48, 112, 255, 511, 1023, 1023, 2047, 8191]
theorem mummerlaw03_SpansCover.tab26 : rtab .any (opsOf Tryd.f7 26) = mummerlaw03_SpansCover.T26 := by kernel_rfl
theorem mummerlaw03_SpansCover.bits26 : waitsOk mummerlaw03_SpansCover.T26.2 mummerlaw03_SpansCover.B26 = true := by kernel_rfl
def mummerlaw03_SpansCover.T27 : Bool × List (List Nat × List Nat) := (true, [([], []), ([], []), ([0, 1], [0, 1]), ([2], [2]), ([], []), ([3, 4], [3, 4]), ([5], [5]), ([6], [6]), ([6], [6]), ([7, 5, 0, 1, 2, 3, 4, 5, 6, 7], [7]), ([8, 9, 0, 1, 2, 3, 4, 5, 6, 7, 8, 9], [8])])
def mummerlaw03_SpansCover.B27 : List Nat := [0, 0, 3, 7, 0, 31, 63, 127, 127, 255, 1023]
theorem mummerlaw03_SpansCover.tab27 : rtab .any (opsOf Tryd.f7 27) = mummerlaw03_SpansCover.T27 := by kernel_rfl
theorem mummerlaw03_SpansCover.bits27 : waitsOk mummerlaw03_SpansCover.T27.2 mummerlaw03_SpansCover.B27 = true := by kernel_rfl
def mummerlaw03_SpansCover.T30 : Bool × List (List Nat × List Nat) := (true, [([], []), ([], []), ([0, 1], [0, 1]), ([2], [2]), ([], []), ([3, 4], [3, 4]), ([5], [5]), ([6], [6]), ([6], [6]), ([7, 5, 0, 1, 2, 3, 4, 5, 6, 7], [7])])
def mummerlaw03_SpansCover.B30 : List Nat := [0, 0, 3, 7, 0, 31, 63, 127, 127, 255]
theorem mummerlaw03_SpansCover.tab30 : rtab .any (opsOf Tryd.f7 30) = mummerlaw03_SpansCover.T30 := by kernel_rfl
theorem mummerlaw03_SpansCover.bits30 : waitsOk mummerlaw03_SpansCover.T30.2 mummerlaw03_SpansCover.B30 = true := by kernel_rfl
set_option maxHeartbeats 8000000 in
set_option maxRecDepth 100000 in
theorem mummerlaw03_SpansCover.calls (k : Nat) (A0 : Option Addr) (c0 : Nat) (l0 : List (S24)) (a1_0 : Int) (a1_1 : Int) (r : Bool) (w : World) (hr0 : Kd.C k24 w A0 l0.length l0) (hc0 : l0.length ≤ c0) (hrt : Aside0 (r = true)) (h : mummerlaw03_SpansCover.f k l0 a1_0 a1_1 = some r) (HT : Aside0 (Sc.Tab w)) :
  Calls Tryd.prog 7 #[.slice A0 l0.length c0, .agg #[.int .i64 a1_0, .int .i64 a1_1]] w fun e w' => e = .returned (.bool r) ∧ Below w.heap.size w w' := by
 have hu24 := Tryd.underlying24
 have HR0 := ak hr0
 have HC0 := ak hc0
 clear hr0 hc0
 have HB := ak (Below.refl w.heap.size w)
 have H : (if (l0.length : Int) > 40 then (mummerlaw03_SpansCover.j0 k l0 true a1_0 a1_1) else ((mummerlaw03_valid.f a1_0 a1_1).bind fun t410 => (mummerlaw03_SpansCover.j0 k l0 (!t410) a1_0 a1_1))) = some r := h
 clear h
 have HC3 := ak H
 clear H
 go_enter Tryd.func7, Tryd.ntmps7
 go_upto_region 1 with (first | ((with_reducible refine gate_dst (N := 3) rfl ?_); refine box_event ?hg (N := 3) ?hd (cs := #[.int .i64 a1_0, .int .i64 a1_1]) (t := 24) ?hr ?_; (case hd => rfl); (case hg => rfl); (case hr => first | (go_simp; done) | (go_simp; rfl)); intro gb409 hg w4 hbox hb; have n0_ := ak (below_step (by repeat (first | (with_reducible first | exact HB.out | apply wA | apply wN | apply wD) | exact HB.out)) hb); have n1_ := ak (hbox); have n2_ := ak ((by rw [hg]; exact (below_size (by repeat (first | (with_reducible first | exact HB.out | apply wA | apply wN | apply wD) | exact HB.out))) : w.heap.size ≤ gb409)); have n3_ := ak ((by rw [hg]; exact (below_size (by repeat (first | (with_reducible first | exact HB.out | apply wA | apply wN | apply wD) | exact HB.out))) : w.heap.size ≤ gb409)); clear HB; have HB := n0_; have BK409 := n1_; have GW409 := n2_; have GE409 := n3_; clear n0_ n1_ n2_ n3_; clear hb hbox hg))
 (try simp only [Act.put, sA_, s0_, s1_])
 go_cut [34] (fun v34 wc => ∃ (kq : Nat) (x34_2 : Bool), v34 = .bool x34_2 ∧ Aside0 (mummerlaw03_SpansCover.j0 kq l0 x34_2 a1_0 a1_1 = some r) ∧ Aside0 (kq ≤ k) ∧ Aside0 (wc.heap[gb409]? = some (.cells #[.int .i64 a1_0, .int .i64 a1_1] 24 (0, 0))) ∧ Aside0 (Below w.heap.size w wc))
 case first =>
  as_aux_lemma =>
   have H := HC3.out
   clear HC3
   by_cases c5 : (l0.length : Int) > 40
   ·rw [if_pos c5] at H
    have c5b0 : decide (40 < (l0.length : Int)) = true := decide_eq_true c5
    have c5b1 : decide (40 < l0.length) = true := decide_eq_true (by omega)
    clear c5
    (first | rw [c5b0] | (simp only [i64_w, i32_w]; rw [c5b0]) | skip)
    have H' := ak H
    clear H
    go_wp2
    go_meet
    case rel => exact ⟨_, (true), (by first | rfl | (simp; done) | (simp [*]; done)), H', ⟨by first | omega | exact Nat.le_refl _⟩, ⟨by (with_reducible repeat (first | refine bN ?_ _ | refine bD ?_ | refine bA ?_ _)); exact BK409.out⟩, ⟨by repeat (first | (with_reducible first | exact HB.out | apply wA | apply wN | apply wD | refine below_set ?_ GE409.out) | exact HB.out)⟩⟩
   ·rw [if_neg c5] at H
    have c5b0 : decide (40 < (l0.length : Int)) = false := decide_eq_false c5
    have c5b1 : decide (40 < l0.length) = false := decide_eq_false (by omega)
    clear c5
    (first | rw [c5b0] | (simp only [i64_w, i32_w]; rw [c5b0]) | skip)
    replace H := Option.bind_eq_some_iff.mp H
    obtain ⟨t410, A60, H⟩ := H
    replace H : (mummerlaw03_SpansCover.j0 k l0 (!t410) a1_0 a1_1) = some r := H
    have A6 := ak A60
    clear A60
    have H' := ak H
    clear H
    have hcz7_0 : w4.cell? ⟨gb409, 0, none⟩ = some (.int .i64 a1_0) := (blk_cell BK409.out 0).trans rfl
    have hcz7_1 : w4.cell? ⟨gb409, 1, none⟩ = some (.int .i64 a1_1) := (blk_cell BK409.out 1).trans rfl
    have hfz7_0 := blk_frozen BK409.out 0
    have hfz7_1 := blk_frozen BK409.out 1
    go_wp2_with (first | (go_at_call 18; (with_reducible refine (mummerlaw03_valid.calls a1_0 a1_1 t410 _ A6.out).mono ?_); rintro e w8 ⟨rfl, hb⟩; have n0_ := ak (blk_below (g := gb409) (o := .cells #[.int .i64 a1_0, .int .i64 a1_1] 24 (0, 0)) (by (with_reducible repeat (first | refine bN ?_ _ | refine bD ?_ | refine bA ?_ _)); exact BK409.out) hb); have n1_ := ak (below_step (by repeat (first | (with_reducible first | exact HB.out | apply wA | apply wN | apply wD | refine below_set ?_ GE409.out) | exact HB.out)) hb); clear BK409; clear HB; have BK409 := n0_; have HB := n1_; clear n0_ n1_; (try clear hb); (try clear hb2); (try clear hk); (try clear hi)))
    go_meet
    case rel => exact ⟨_, (!t410), (by first | rfl | (simp; done) | (simp [*]; done)), H', ⟨by first | omega | exact Nat.le_refl _⟩, ⟨by (with_reducible repeat (first | refine bN ?_ _ | refine bD ?_ | refine bA ?_ _)); exact BK409.out⟩, ⟨by repeat (first | (with_reducible first | exact HB.out | apply wA | apply wN | apply wD | refine below_set ?_ GE409.out) | exact HB.out)⟩⟩
 case rest =>
  as_aux_lemma =>
   clear HC3
   try clear p2
   try clear c5
   try clear c5b0
   try clear c5b1
   try clear c7
   try clear hcz7_0
   try clear hcz7_1
   try clear hfz7_0
   try clear hfz7_1
   obtain ⟨kq, x34_2, rfl, HA, HJ2, BK409, HB⟩ := hcut
   cases kq with
   | zero => exact absurd HA.out (by simp [mummerlaw03_SpansCover.j0])
   | succ kj2 =>
    have H := HA.out
    clear HA
    simp only [mummerlaw03_SpansCover.j0] at H
    by_cases c9 : x34_2 = true
    ·subst c9
     have H1 : ((mummerlaw03_awake.f kj2).bind fun t411 => (some t411)) = some r := by rw [if_pos rfl] at H; exact H
     clear H
     have H := H1
     clear H1
     replace H := Option.bind_eq_some_iff.mp H
     obtain ⟨t411, A100, H⟩ := H
     replace H : (some t411) = some r := H
     have A10 := ak A100
     clear A100
     obtain rfl := Option.some.inj H
     go_wp2_with (first | ((with_reducible refine gate_callee (f := 12) rfl ?_); refine goesL_ (some 35) rfl rfl Tryd.func12 (by kernel_rfl) rfl #[] rfl (by (try simp only [List.map_toArray, List.map_cons, List.map_nil]); first | done | rfl | (simp only [List.length_drop, List.length_take]; rfl)) ?_; (with_reducible refine (mummerlaw03_awake.calls kj2  t411 _ hrt A10.out ⟨Sc.Tab.stay HT.out (by repeat (first | (with_reducible first | exact HB.out | apply wA | apply wN | apply wD) | exact HB.out | (refine below_set ?_ (by assumption)) | (refine below_set ?_ (Aside0.out (by assumption)))))⟩).mono ?_); rintro e w11 ⟨rfl, hb⟩; refine ⟨_, rfl, ?_⟩; have n0_ := ak (blk_below (g := gb409) (o := .cells #[.int .i64 a1_0, .int .i64 a1_1] 24 (0, 0)) (by (with_reducible repeat (first | refine bN ?_ _ | refine bD ?_ | refine bA ?_ _)); exact BK409.out) hb); have n1_ := ak (below_step (by repeat (first | (with_reducible first | exact HB.out | apply wA | apply wN | apply wD | refine below_set ?_ GE409.out) | exact HB.out)) hb); clear BK409; clear HB; have BK409 := n0_; have HB := n1_; clear n0_ n1_; (try clear hb); (try clear hb2); (try clear hk); (try clear hi)))
     go_ret
     exact ⟨by first | rfl | (simp [errW_none, errW_some] <;> rfl) | (simp [*, errW_none, errW_some] <;> rfl), by repeat (first | (with_reducible first | exact HB.out | apply wA | apply wN | apply wD | refine below_set ?_ GE409.out) | exact HB.out)⟩
    ·replace c9 := Bool.eq_false_iff.mpr c9
     subst c9
     have H1 : ((spans_Cover.f kj2 l0).bind fun bt412 => (if bt412.2.2 = 0 then (mummerlaw03_SpansCover.l0 kj2 l0 true 0 a1_0 a1_1 bt412.1 bt412.2.1) else (if (bt412.1 == 0 && (bt412.2.1 == 0)) = true then ((mummerlaw03_awake.f kj2).bind fun t416 => (some t416)) else (some false)))) = some r := by rw [if_neg (show ¬ (false = true) by decide)] at H; exact H
     clear H
     have H := H1
     clear H1
     replace H := Option.bind_eq_some_iff.mp H
     obtain ⟨⟨t412, t413, t414⟩, A120, H⟩ := H
     replace H : (if t414 = 0 then (mummerlaw03_SpansCover.l0 kj2 l0 true 0 a1_0 a1_1 t412 t413) else (if (t412 == 0 && (t413 == 0)) = true then ((mummerlaw03_awake.f kj2).bind fun t416 => (some t416)) else (some false))) = some r := H
     have A12 := ak A120
     clear A120
     by_cases c13 : t414 = 0
     ·rw [if_pos c13] at H
      have c13b0 : (t414 == 0) = true := beq_iff_eq.mpr c13
      have c13b1 : (t414 != 0) = false := bne_eq_false_iff_eq.mpr c13
      clear c13
      have H' := ak H
      clear H
      go_wp2_with (first | ((with_reducible refine gate_callee (f := 23) rfl ?_); refine goesL_ (some 38) rfl rfl Tryd.func23 (by kernel_rfl) rfl #[.slice A0 l0.length c0] rfl (by (try simp only [List.map_toArray, List.map_cons, List.map_nil]); first | done | rfl | (simp only [List.length_drop, List.length_take]; rfl)) ?_; (with_reducible refine (spans_Cover.calls kj2 _ _ l0 t412 t413 t414 _ ?side1 ?side2 A12.out).mono ?_); (case side1 => repeat (first | exact (Kd.C_below HR0.out HB.out) | (with_reducible refine Kd.C_alloc ?_ _) | (with_reducible refine Kd.C_drewN ?_ _) | (with_reducible refine Kd.C_drew ?_))); (case side2 => exact HC0.out); rintro e w14 ⟨rfl, hb⟩; refine ⟨_, rfl, ?_⟩; have n0_ := ak (blk_below (g := gb409) (o := .cells #[.int .i64 a1_0, .int .i64 a1_1] 24 (0, 0)) (by (with_reducible repeat (first | refine bN ?_ _ | refine bD ?_ | refine bA ?_ _)); exact BK409.out) hb); have n1_ := ak (below_step (by repeat (first | (with_reducible first | exact HB.out | apply wA | apply wN | apply wD | refine below_set ?_ GE409.out) | exact HB.out)) hb); clear BK409; clear HB; have BK409 := n0_; have HB := n1_; clear n0_ n1_; (try clear hb); (try clear hb2); (try clear hk); (try clear hi)) | ((with_reducible refine gate_dst (N := 5) rfl ?_); refine box_event ?hg (N := 5) ?hd (cs := #[.int .i64 0, .int .i64 0]) (t := 24) ?hr ?_; (case hd => rfl); (case hg => rfl); (case hr => first | (go_simp; done) | (go_simp; rfl)); intro gb415 hg w15 hbox hb; have n0_ := ak (blk_below (g := gb409) (o := .cells #[.int .i64 a1_0, .int .i64 a1_1] 24 (0, 0)) (by (with_reducible repeat (first | refine bN ?_ _ | refine bD ?_ | refine bA ?_ _)); exact BK409.out) hb); have n1_ := ak (below_step (by repeat (first | (with_reducible first | exact HB.out | apply wA | apply wN | apply wD | refine below_set ?_ GE409.out) | exact HB.out)) hb); have n2_ := ak (hbox); have n3_ := ak ((by rw [hg]; exact (below_size (by repeat (first | (with_reducible first | exact HB.out | apply wA | apply wN | apply wD | refine below_set ?_ GE409.out) | exact HB.out))) : w.heap.size ≤ gb415)); have n4_ := ak ((by rw [hg]; exact (below_size (by repeat (first | (with_reducible first | exact HB.out | apply wA | apply wN | apply wD | refine below_set ?_ GE409.out) | exact HB.out))) : w.heap.size ≤ gb415)); have n5_ := ak ((by rw [hg]; exact Nat.ne_of_lt (blk_lt (g := gb409) (o := .cells #[.int .i64 a1_0, .int .i64 a1_1] 24 (0, 0)) (by (with_reducible repeat (first | refine bN ?_ _ | refine bD ?_ | refine bA ?_ _)); exact BK409.out)) : gb409 ≠ gb415)); have n6_ := ak ((by rw [hg]; exact Nat.ne_of_gt (blk_lt (g := gb409) (o := .cells #[.int .i64 a1_0, .int .i64 a1_1] 24 (0, 0)) (by (with_reducible repeat (first | refine bN ?_ _ | refine bD ?_ | refine bA ?_ _)); exact BK409.out)) : gb415 ≠ gb409)); clear BK409; clear HB; have BK409 := n0_; have HB := n1_; have BK415 := n2_; have GW415 := n3_; have GE415 := n4_; have NB409_415 := n5_; have NB415_409 := n6_; clear n0_ n1_ n2_ n3_ n4_ n5_ n6_; clear hb hbox hg; have hnb16 := NB415_409.out; have hnc16 := NB409_415.out; have hcz17_0 : w15.cell? ⟨gb415, 0, none⟩ = some (.int .i64 0) := (blk_cell BK415.out 0).trans rfl; have hcz17_1 : w15.cell? ⟨gb415, 1, none⟩ = some (.int .i64 0) := (blk_cell BK415.out 1).trans rfl; have hfz17_0 := blk_frozen BK415.out 0; have hfz17_1 := blk_frozen BK415.out 1))
      go_loopg [7, 8] kj2 (fun kq v7 v8 w' => ∃ (x7_2 : Bool) (x8_2 : Int), v7 = .bool x7_2 ∧ v8 = .int .i64 x8_2 ∧ Aside0 (mummerlaw03_SpansCover.l0 kq l0 x7_2 x8_2 a1_0 a1_1 t412 t413 = some r) ∧ Aside0 (kq ≤ kj2) ∧ Aside0 (w'.heap[gb409]? = some (.cells #[.int .i64 a1_0, .int .i64 a1_1] 24 (0, 0))) ∧ Aside0 (w'.heap[gb415]? = some (.cells #[.int .i64 t412, .int .i64 t413] 24 (0, 0))) ∧ Aside0 (Below w.heap.size w w'))
      case atStart => exact ⟨(true), (0), (by first | rfl | (simp; done) | (simp [*]; done)), (by first | rfl | (simp; done) | (simp [*]; done)), H', ⟨Nat.le_refl _⟩, ⟨by (with_reducible repeat (first | refine bN ?_ _ | refine bD ?_ | refine bA ?_ _)); refine blk_far ?_ NB409_415.out _; (with_reducible repeat (first | refine bN ?_ _ | refine bD ?_ | refine bA ?_ _)); refine blk_far ?_ NB409_415.out _; (with_reducible repeat (first | refine bN ?_ _ | refine bD ?_ | refine bA ?_ _)); exact BK409.out⟩, ⟨by (with_reducible repeat (first | refine bN ?_ _ | refine bD ?_ | refine bA ?_ _)); refine blk_put (cs := #[.int .i64 t412, .int .i64 0]) ?_ 1 _ rfl; (with_reducible repeat (first | refine bN ?_ _ | refine bD ?_ | refine bA ?_ _)); refine blk_put (cs := #[.int .i64 0, .int .i64 0]) ?_ 0 _ rfl; (with_reducible repeat (first | refine bN ?_ _ | refine bD ?_ | refine bA ?_ _)); exact BK415.out⟩, ⟨by repeat (first | (with_reducible first | exact HB.out | apply wA | apply wN | apply wD | refine below_set ?_ GE409.out | refine below_set ?_ GE415.out) | exact HB.out)⟩⟩
      case round =>
       clear H'
       try clear c1
       try clear c2
       try clear p2
       try clear c5
       try clear c5b0
       try clear c5b1
       try clear c7
       try clear c9
       try clear c12
       try clear c13
       try clear c13b0
       try clear c13b1
       try clear c16
       try clear hcz17_0
       try clear hcz17_1
       try clear hcz7_0
       try clear hcz7_1
       try clear hfz17_0
       try clear hfz17_1
       try clear hfz7_0
       try clear hfz7_1
       try clear p2
       obtain ⟨x7_2, x8_2, rfl, rfl, HA, HK2, BK409, BK415, HB⟩ := hrel
       cases gk with
       | zero => exact absurd HA.out (by simp [mummerlaw03_SpansCover.l0])
       | succ k2 =>
        have H := HA.out
        clear HA
        simp only [mummerlaw03_SpansCover.l0] at H
        by_cases c18 : x8_2 < (l0.length : Int)
        ·rw [if_pos c18] at H
         have c18b0 : decide (x8_2 < (l0.length : Int)) = true := decide_eq_true c18
         clear c18
         by_cases c19 : 0 ≤ x8_2
         ·rw [if_pos c19] at H
          have c19b0 : decide (0 ≤ x8_2) = true := decide_eq_true c19
          clear c19
          replace H := Option.bind_eq_some_iff.mp H
          obtain ⟨⟨t421, t422⟩, A200, H⟩ := H
          replace H : ((spans_Within.f k2 ((rd_T24 l0 x8_2).f0) ((rd_T24 l0 x8_2).f1) a1_0 a1_1).bind fun bt424 => (if t422 = 0 then (if bt424.2 = 0 then (if t421 = true then (if x7_2 = true then (mummerlaw03_SpansCover.j2 k2 l0 bt424.1 x8_2 a1_0 a1_1 t412 t413) else (mummerlaw03_SpansCover.j2 k2 l0 false x8_2 a1_0 a1_1 t412 t413)) else (some false)) else (some false)) else (some false))) = some r := H
          have A20 := ak A200
          clear A200
          replace H := Option.bind_eq_some_iff.mp H
          obtain ⟨⟨t424, t425⟩, A210, H⟩ := H
          replace H : (if t422 = 0 then (if t425 = 0 then (if t421 = true then (if x7_2 = true then (mummerlaw03_SpansCover.j2 k2 l0 t424 x8_2 a1_0 a1_1 t412 t413) else (mummerlaw03_SpansCover.j2 k2 l0 false x8_2 a1_0 a1_1 t412 t413)) else (some false)) else (some false)) else (some false)) = some r := H
          have A21 := ak A210
          clear A210
          by_cases c22 : t422 = 0
          ·rw [if_pos c22] at H
           have c22b0 : (t422 == 0) = true := beq_iff_eq.mpr c22
           have c22b1 : (t422 != 0) = false := bne_eq_false_iff_eq.mpr c22
           clear c22
           by_cases c23 : t425 = 0
           ·rw [if_pos c23] at H
            have c23b0 : (t425 == 0) = true := beq_iff_eq.mpr c23
            have c23b1 : (t425 != 0) = false := bne_eq_false_iff_eq.mpr c23
            clear c23
            by_cases c24 : t421 = true
            ·subst c24
             have H1 : (if x7_2 = true then (mummerlaw03_SpansCover.j2 k2 l0 t424 x8_2 a1_0 a1_1 t412 t413) else (mummerlaw03_SpansCover.j2 k2 l0 false x8_2 a1_0 a1_1 t412 t413)) = some r := by rw [if_pos rfl] at H; exact H
             clear H
             have H := H1
             clear H1
             have HC25 := ak H
             clear H
             try go_wp2
             have n0_ := ak (bD BK409.out)
             have n1_ := ak (bD BK415.out)
             have n2_ := ak (wD HB.out)
             clear BK409 BK415 HB
             have BK409 := n0_
             have BK415 := n1_
             have HB := n2_
             clear n0_ n1_ n2_
             have p420 : 0 ≤ (x8_2 : Int) := of_decide_eq_true (by first | (with_reducible assumption) | assumption)
             have q420 : x8_2 < (l0.length : Int) := of_decide_eq_true (by first | (with_reducible assumption) | assumption)
             obtain ⟨ad420, e420, hx420_0, hx420_1⟩ := at_T24 HR0.out x8_2 p420 q420
             have hw420_1 := hx420_1
             have hw420_0 := hx420_0
             cases e420
             replace hx420_0 := (HB.out.cell (World.block_lt_of_cell? w _ hx420_0)).trans hx420_0
             replace hx420_1 := (HB.out.cell (World.block_lt_of_cell? w _ hx420_1)).trans hx420_1
             replace p420 := eq_true p420
             replace q420 := eq_true q420
             refine start_ (n := 11) (S := fun w' => w'.cell? ⟨gb415, 0, none⟩ = some (.int .i64 t412) ∧ w'.cell? ⟨gb415, 1, none⟩ = some (.int .i64 t413) ∧ w'.cell? (ad420.add ((x8_2).toNat * 2)) = some (.int .i64 ((rd_T24 l0 x8_2).f0)) ∧ w'.cell? ⟨(ad420.add ((x8_2).toNat * 2)).block, (ad420.add ((x8_2).toNat * 2)).off + 1, none⟩ = some (.int .i64 ((rd_T24 l0 x8_2).f1))) (ds := []) q7_0 (by kernel_rfl) rfl rfl ⟨(blk_cell BK415.out 0).trans rfl, (blk_cell BK415.out 1).trans rfl, ((HB.out.cell (World.block_lt_of_cell? w _ hw420_0)).trans hw420_0), ((HB.out.cell (World.block_lt_of_cell? w _ hw420_1)).trans hw420_1)⟩ (fun hHeld => ?_); refine with_tabW mummerlaw03_SpansCover.tab10 mummerlaw03_SpansCover.bits10 (fun HT_ HW_ => ?_)
             generalize wr.drew = w26 at BK409 BK415 HB hx420_0 hx420_1 hHeld ⊢
             refine pure_ (i := 0) (N := some 56) (v := ?_) (a' := ?_) q7_1 rfl rfl (any_of HT_.out (by kernel_rfl)) (fun _ _ _ h => h) (Or.inl ⟨by rfl, ?_⟩) ?_ ?_; rotate_left; ·(intro w'; go_simp; with_reducible rfl)
             rotate_left; ·(simp only [Act.put, sA_, s0_, s1_, i64_w, i32_w]; rfl)
             refine pure_ (i := 1) (N := some 57) (v := ?_) (a' := ?_) q7_2 rfl rfl (any_of HT_.out (by kernel_rfl)) (fun _ _ _ h => h) (Or.inl ⟨by rfl, ?_⟩) ?_ ?_; rotate_left; ·(intro w'; go_simp; with_reducible rfl)
             rotate_left; ·(simp only [Act.put, sA_, s0_, s1_, i64_w, i32_w]; rfl)
             refine pure_ (i := 2) (N := some 58) (v := ?_) (a' := ?_) q7_3 rfl rfl (any_of HT_.out (by kernel_rfl)) (fun _ _ _ h => h) (Or.inl ⟨by rfl, ?_⟩) ?_ ?_; rotate_left; ·(intro w'; go_simp; with_reducible rfl)
             rotate_left; ·(simp only [Act.put, sA_, s0_, s1_, i64_w, i32_w]; rfl)
             refine take_ (i := 3) (N := some 59) (v := ?_) (a' := ?_) q7_4 rfl rfl (take_ofW HT_.out HW_.out (by kernel_rfl)) (fun _ _ _ h => h) (Or.inl ⟨by rfl, ?_⟩) hHeld ?_ ?_; rotate_left; ·(rintro w' ⟨s0, s1, s2, s3⟩; go_simp; with_reducible rfl)
             rotate_left; ·(simp only [Act.put, sA_, s0_, s1_, i64_w, i32_w]; rfl)
             refine take_ (i := 4) (N := some 60) (v := ?_) (a' := ?_) q7_5 rfl rfl (take_ofW HT_.out HW_.out (by kernel_rfl)) (fun _ _ _ h => h) (Or.inl ⟨by rfl, ?_⟩) hHeld ?_ ?_; rotate_left; ·(rintro w' ⟨s0, s1, s2, s3⟩; go_simp; with_reducible rfl)
             rotate_left; ·(simp only [Act.put, sA_, s0_, s1_, i64_w, i32_w]; rfl)
             refine one_ (i := 5) (N := some 61) q7_6 rfl rfl (one_of HT_.out (by kernel_rfl)) (by decide) (fun K hK => ?_)
             refine goes_ Tryd.func20 (by kernel_rfl) rfl #[.agg #[.int .i64 ((rd_T24 l0 x8_2).f0), .int .i64 ((rd_T24 l0 x8_2).f1)], .agg #[.int .i64 t412, .int .i64 t413]] (by rfl) rfl rfl (by (try simp only [List.map_toArray, List.map_cons, List.map_nil]); first | done | rfl | (simp only [List.length_drop, List.length_take]; rfl)) ?_
             with_reducible refine (spans_Within.calls k2 ((rd_T24 l0 x8_2).f0) ((rd_T24 l0 x8_2).f1) t412 t413 true t422 _ A20.out).mono ?_
             rintro e w27 ⟨rfl, hb⟩
             refine ⟨_, rfl, ?_⟩
             have n0_ := ak (blk_below (g := gb409) (o := .cells #[.int .i64 a1_0, .int .i64 a1_1] 24 (0, 0)) (by (with_reducible repeat (first | refine bN ?_ _ | refine bD ?_ | refine bA ?_ _)); exact BK409.out) hb)
             have n1_ := ak (blk_below (g := gb415) (o := .cells #[.int .i64 t412, .int .i64 t413] 24 (0, 0)) (by (with_reducible repeat (first | refine bN ?_ _ | refine bD ?_ | refine bA ?_ _)); exact BK415.out) hb)
             have n2_ := ak (below_step (by repeat (first | (with_reducible first | exact HB.out | apply wA | apply wN | apply wD | refine below_set ?_ GE409.out | refine below_set ?_ GE415.out) | exact HB.out)) hb)
             clear BK409 BK415 HB
             have BK409 := n0_
             have BK415 := n1_
             have HB := n2_
             clear n0_ n1_ n2_
             (try clear hb)
             (try clear hb2)
             (try clear hk)
             (try clear hi)
             refine hK.out _ _ ⟨(blk_cell BK415.out 0).trans rfl, (blk_cell BK415.out 1).trans rfl, ((HB.out.cell (World.block_lt_of_cell? w _ hw420_0)).trans hw420_0), ((HB.out.cell (World.block_lt_of_cell? w _ hw420_1)).trans hw420_1)⟩ (fun hHeld => ?_)
             clear hK K
             refine norm_ (a' := ?_) ?_ ?_
             rotate_left
             ·show Act.put _ (some 61) _ = _
              simp only [Act.put, sA_, s0_, s1_, i64_w, i32_w]
              rfl
             refine pure_ (i := 6) (N := some 55) (v := ?_) (a' := ?_) q7_7 rfl rfl (any_of HT_.out (by kernel_rfl)) (fun _ _ _ h => h) (Or.inl ⟨by rfl, ?_⟩) ?_ ?_; rotate_left; ·(intro w'; go_simp; with_reducible rfl)
             rotate_left; ·(simp only [Act.put, sA_, s0_, s1_, i64_w, i32_w]; rfl)
             refine pure_ (i := 7) (N := some 62) (v := ?_) (a' := ?_) q7_8 rfl rfl (any_of HT_.out (by kernel_rfl)) (fun _ _ _ h => h) (Or.inl ⟨by rfl, ?_⟩) ?_ ?_; rotate_left; ·(intro w'; go_simp; with_reducible rfl)
             rotate_left; ·(simp only [Act.put, sA_, s0_, s1_, i64_w, i32_w]; rfl)
             refine pure_ (i := 8) (N := some 63) (v := ?_) (a' := ?_) q7_9 rfl rfl (any_of HT_.out (by kernel_rfl)) (fun _ _ _ h => h) (Or.inl ⟨by rfl, ?_⟩) ?_ ?_; rotate_left; ·(intro w'; go_simp; with_reducible rfl)
             rotate_left; ·(simp only [Act.put, sA_, s0_, s1_, i64_w, i32_w]; rfl)
             refine pure_ (i := 9) (N := some 9) (v := ?_) (a' := ?_) q7_10 rfl rfl (any_of HT_.out (by kernel_rfl)) (fun _ _ _ h => h) (Or.inl ⟨by rfl, ?_⟩) ?_ ?_; rotate_left; ·(intro w'; go_simp; with_reducible rfl)
             rotate_left; ·(simp only [Act.put, sA_, s0_, s1_, i64_w, i32_w]; rfl)
             refine pure_ (i := 10) (N := some 10) (v := ?_) (a' := ?_) q7_11 rfl rfl (any_of HT_.out (by kernel_rfl)) (fun _ _ _ h => h) (Or.inl ⟨by rfl, ?_⟩) ?_ ?_; rotate_left; ·(intro w'; go_simp; with_reducible rfl)
             rotate_left; ·(simp only [Act.put, sA_, s0_, s1_, i64_w, i32_w]; rfl)
             refine done_ (done_of HT_.out (by kernel_rfl)) ?_
             try go_wp2
             have n0_ := ak (bD BK409.out)
             have n1_ := ak (bD BK415.out)
             have n2_ := ak (wD HB.out)
             clear BK409 BK415 HB
             have BK409 := n0_
             have BK415 := n1_
             have HB := n2_
             clear n0_ n1_ n2_
             have p423 : 0 ≤ (x8_2 : Int) := of_decide_eq_true (by first | (with_reducible assumption) | assumption)
             have q423 : x8_2 < (l0.length : Int) := of_decide_eq_true (by first | (with_reducible assumption) | assumption)
             obtain ⟨ad423, e423, hx423_0, hx423_1⟩ := at_T24 HR0.out x8_2 p423 q423
             have hw423_1 := hx423_1
             have hw423_0 := hx423_0
             obtain rfl : ad420 = ad423 := (by injection e423)
             replace hx423_0 := (HB.out.cell (World.block_lt_of_cell? w _ hx423_0)).trans hx423_0
             replace hx423_1 := (HB.out.cell (World.block_lt_of_cell? w _ hx423_1)).trans hx423_1
             replace p423 := eq_true p423
             replace q423 := eq_true q423
             refine start_ (n := 11) (S := fun w' => w'.cell? ⟨gb409, 0, none⟩ = some (.int .i64 a1_0) ∧ w'.cell? ⟨gb409, 1, none⟩ = some (.int .i64 a1_1) ∧ w'.cell? (ad420.add ((x8_2).toNat * 2)) = some (.int .i64 ((rd_T24 l0 x8_2).f0)) ∧ w'.cell? ⟨(ad420.add ((x8_2).toNat * 2)).block, (ad420.add ((x8_2).toNat * 2)).off + 1, none⟩ = some (.int .i64 ((rd_T24 l0 x8_2).f1))) (ds := []) q7_0 (by kernel_rfl) rfl rfl ⟨(blk_cell BK409.out 0).trans rfl, (blk_cell BK409.out 1).trans rfl, ((HB.out.cell (World.block_lt_of_cell? w _ hw423_0)).trans hw423_0), ((HB.out.cell (World.block_lt_of_cell? w _ hw423_1)).trans hw423_1)⟩ (fun hHeld => ?_); refine with_tabW mummerlaw03_SpansCover.tab11 mummerlaw03_SpansCover.bits11 (fun HT_ HW_ => ?_)
             generalize w27.drew = w28 at BK409 BK415 HB hx423_0 hx423_1 hHeld ⊢
             refine pure_ (i := 0) (N := some 65) (v := ?_) (a' := ?_) q7_1 rfl rfl (any_of HT_.out (by kernel_rfl)) (fun _ _ _ h => h) (Or.inl ⟨by rfl, ?_⟩) ?_ ?_; rotate_left; ·(intro w'; go_simp; with_reducible rfl)
             rotate_left; ·(simp only [Act.put, sA_, s0_, s1_, i64_w, i32_w]; rfl)
             refine pure_ (i := 1) (N := some 66) (v := ?_) (a' := ?_) q7_2 rfl rfl (any_of HT_.out (by kernel_rfl)) (fun _ _ _ h => h) (Or.inl ⟨by rfl, ?_⟩) ?_ ?_; rotate_left; ·(intro w'; go_simp; with_reducible rfl)
             rotate_left; ·(simp only [Act.put, sA_, s0_, s1_, i64_w, i32_w]; rfl)
             refine pure_ (i := 2) (N := some 67) (v := ?_) (a' := ?_) q7_3 rfl rfl (any_of HT_.out (by kernel_rfl)) (fun _ _ _ h => h) (Or.inl ⟨by rfl, ?_⟩) ?_ ?_; rotate_left; ·(intro w'; go_simp; with_reducible rfl)
             rotate_left; ·(simp only [Act.put, sA_, s0_, s1_, i64_w, i32_w]; rfl)
             refine take_ (i := 3) (N := some 68) (v := ?_) (a' := ?_) q7_4 rfl rfl (take_ofW HT_.out HW_.out (by kernel_rfl)) (fun _ _ _ h => h) (Or.inl ⟨by rfl, ?_⟩) hHeld ?_ ?_; rotate_left; ·(rintro w' ⟨s0, s1, s2, s3⟩; go_simp; with_reducible rfl)
             rotate_left; ·(simp only [Act.put, sA_, s0_, s1_, i64_w, i32_w]; rfl)
             refine take_ (i := 4) (N := some 69) (v := ?_) (a' := ?_) q7_5 rfl rfl (take_ofW HT_.out HW_.out (by kernel_rfl)) (fun _ _ _ h => h) (Or.inl ⟨by rfl, ?_⟩) hHeld ?_ ?_; rotate_left; ·(rintro w' ⟨s0, s1, s2, s3⟩; go_simp; with_reducible rfl)
             rotate_left; ·(simp only [Act.put, sA_, s0_, s1_, i64_w, i32_w]; rfl)
             refine one_ (i := 5) (N := some 70) q7_6 rfl rfl (one_of HT_.out (by kernel_rfl)) (by decide) (fun K hK => ?_)
             refine goes_ Tryd.func20 (by kernel_rfl) rfl #[.agg #[.int .i64 ((rd_T24 l0 x8_2).f0), .int .i64 ((rd_T24 l0 x8_2).f1)], .agg #[.int .i64 a1_0, .int .i64 a1_1]] (by rfl) rfl rfl (by (try simp only [List.map_toArray, List.map_cons, List.map_nil]); first | done | rfl | (simp only [List.length_drop, List.length_take]; rfl)) ?_
             with_reducible refine (spans_Within.calls k2 ((rd_T24 l0 x8_2).f0) ((rd_T24 l0 x8_2).f1) a1_0 a1_1 t424 t425 _ A21.out).mono ?_
             rintro e w29 ⟨rfl, hb⟩
             refine ⟨_, rfl, ?_⟩
             have n0_ := ak (blk_below (g := gb409) (o := .cells #[.int .i64 a1_0, .int .i64 a1_1] 24 (0, 0)) (by (with_reducible repeat (first | refine bN ?_ _ | refine bD ?_ | refine bA ?_ _)); exact BK409.out) hb)
             have n1_ := ak (blk_below (g := gb415) (o := .cells #[.int .i64 t412, .int .i64 t413] 24 (0, 0)) (by (with_reducible repeat (first | refine bN ?_ _ | refine bD ?_ | refine bA ?_ _)); exact BK415.out) hb)
             have n2_ := ak (below_step (by repeat (first | (with_reducible first | exact HB.out | apply wA | apply wN | apply wD | refine below_set ?_ GE409.out | refine below_set ?_ GE415.out) | exact HB.out)) hb)
             clear BK409 BK415 HB
             have BK409 := n0_
             have BK415 := n1_
             have HB := n2_
             clear n0_ n1_ n2_
             (try clear hb)
             (try clear hb2)
             (try clear hk)
             (try clear hi)
             refine hK.out _ _ ⟨(blk_cell BK409.out 0).trans rfl, (blk_cell BK409.out 1).trans rfl, ((HB.out.cell (World.block_lt_of_cell? w _ hw423_0)).trans hw423_0), ((HB.out.cell (World.block_lt_of_cell? w _ hw423_1)).trans hw423_1)⟩ (fun hHeld => ?_)
             clear hK K
             refine norm_ (a' := ?_) ?_ ?_
             rotate_left
             ·show Act.put _ (some 70) _ = _
              simp only [Act.put, sA_, s0_, s1_, i64_w, i32_w]
              rfl
             refine pure_ (i := 6) (N := some 64) (v := ?_) (a' := ?_) q7_7 rfl rfl (any_of HT_.out (by kernel_rfl)) (fun _ _ _ h => h) (Or.inl ⟨by rfl, ?_⟩) ?_ ?_; rotate_left; ·(intro w'; go_simp; with_reducible rfl)
             rotate_left; ·(simp only [Act.put, sA_, s0_, s1_, i64_w, i32_w]; rfl)
             refine pure_ (i := 7) (N := some 71) (v := ?_) (a' := ?_) q7_8 rfl rfl (any_of HT_.out (by kernel_rfl)) (fun _ _ _ h => h) (Or.inl ⟨by rfl, ?_⟩) ?_ ?_; rotate_left; ·(intro w'; go_simp; with_reducible rfl)
             rotate_left; ·(simp only [Act.put, sA_, s0_, s1_, i64_w, i32_w]; rfl)
             refine pure_ (i := 8) (N := some 72) (v := ?_) (a' := ?_) q7_9 rfl rfl (any_of HT_.out (by kernel_rfl)) (fun _ _ _ h => h) (Or.inl ⟨by rfl, ?_⟩) ?_ ?_; rotate_left; ·(intro w'; go_simp; with_reducible rfl)
             rotate_left; ·(simp only [Act.put, sA_, s0_, s1_, i64_w, i32_w]; rfl)
             refine pure_ (i := 9) (N := some 11) (v := ?_) (a' := ?_) q7_10 rfl rfl (any_of HT_.out (by kernel_rfl)) (fun _ _ _ h => h) (Or.inl ⟨by rfl, ?_⟩) ?_ ?_; rotate_left; ·(intro w'; go_simp; with_reducible rfl)
             rotate_left; ·(simp only [Act.put, sA_, s0_, s1_, i64_w, i32_w]; rfl)
             refine pure_ (i := 10) (N := some 12) (v := ?_) (a' := ?_) q7_11 rfl rfl (any_of HT_.out (by kernel_rfl)) (fun _ _ _ h => h) (Or.inl ⟨by rfl, ?_⟩) ?_ ?_; rotate_left; ·(intro w'; go_simp; with_reducible rfl)
             rotate_left; ·(simp only [Act.put, sA_, s0_, s1_, i64_w, i32_w]; rfl)
             refine done_ (done_of HT_.out (by kernel_rfl)) ?_
             go_upto_region 14 with (fail)
             go_cut [7] (fun v7 wc => ∃ (kq : Nat) (x7_24 : Bool), v7 = .bool x7_24 ∧ Aside0 (mummerlaw03_SpansCover.j2 kq l0 x7_24 x8_2 a1_0 a1_1 t412 t413 = some r) ∧ Aside0 (kq ≤ k2) ∧ Aside0 (wc.heap[gb409]? = some (.cells #[.int .i64 a1_0, .int .i64 a1_1] 24 (0, 0))) ∧ Aside0 (wc.heap[gb415]? = some (.cells #[.int .i64 t412, .int .i64 t413] 24 (0, 0))) ∧ Aside0 (Below w.heap.size w wc))
             case first =>
              as_aux_lemma =>
               have H := HC25.out
               clear HC25
               by_cases c30 : x7_2 = true
               ·subst c30
                have H1 : (mummerlaw03_SpansCover.j2 k2 l0 t424 x8_2 a1_0 a1_1 t412 t413) = some r := by rw [if_pos rfl] at H; exact H
                clear H
                have H := H1
                clear H1
                have H' := ak H
                clear H
                go_wp2
                go_meet
                case rel => exact ⟨_, (t424), (by first | rfl | (simp; done) | (simp [*]; done)), H', ⟨by have := HJ2.out; have := HK2.out; first | omega | exact Nat.le_refl _⟩, ⟨by (with_reducible repeat (first | refine bN ?_ _ | refine bD ?_ | refine bA ?_ _)); exact BK409.out⟩, ⟨by (with_reducible repeat (first | refine bN ?_ _ | refine bD ?_ | refine bA ?_ _)); exact BK415.out⟩, ⟨by repeat (first | (with_reducible first | exact HB.out | apply wA | apply wN | apply wD | refine below_set ?_ GE409.out | refine below_set ?_ GE415.out) | exact HB.out)⟩⟩
               ·replace c30 := Bool.eq_false_iff.mpr c30
                subst c30
                have H1 : (mummerlaw03_SpansCover.j2 k2 l0 false x8_2 a1_0 a1_1 t412 t413) = some r := by rw [if_neg (show ¬ (false = true) by decide)] at H; exact H
                clear H
                have H := H1
                clear H1
                have H' := ak H
                clear H
                go_wp2
                go_meet
                case rel => exact ⟨_, (false), (by first | rfl | (simp; done) | (simp [*]; done)), H', ⟨by have := HJ2.out; have := HK2.out; first | omega | exact Nat.le_refl _⟩, ⟨by (with_reducible repeat (first | refine bN ?_ _ | refine bD ?_ | refine bA ?_ _)); exact BK409.out⟩, ⟨by (with_reducible repeat (first | refine bN ?_ _ | refine bD ?_ | refine bA ?_ _)); exact BK415.out⟩, ⟨by repeat (first | (with_reducible first | exact HB.out | apply wA | apply wN | apply wD | refine below_set ?_ GE409.out | refine below_set ?_ GE415.out) | exact HB.out)⟩⟩
             case rest =>
              as_aux_lemma =>
               clear HC25
               try clear c1
               try clear c2
               try clear p2
               try clear c3
               try clear p4
               try clear q4
               try clear hx4
               try clear c5
               try clear c5b0
               try clear c5b1
               try clear c7
               try clear c9
               try clear c12
               try clear c13
               try clear c13b0
               try clear c13b1
               try clear c16
               try clear c18
               try clear c18b0
               try clear c19
               try clear c19b0
               try clear c20
               try clear c22
               try clear c22b0
               try clear c22b1
               try clear c23
               try clear c23b0
               try clear c23b1
               try clear c24
               try clear c30
               try clear hcz17_0
               try clear hcz17_1
               try clear hcz7_0
               try clear hcz7_1
               try clear hfz17_0
               try clear hfz17_1
               try clear hfz7_0
               try clear hfz7_1
               try clear hx420_0
               try clear hx420_1
               try clear hx423_0
               try clear hx423_1
               try clear p2
               try clear p420
               try clear p423
               try clear q420
               try clear q423
               obtain ⟨kq, x7_24, rfl, HA, HJ24, BK409, BK415, HB⟩ := hcut
               cases kq with
               | zero => exact absurd HA.out (by simp [mummerlaw03_SpansCover.j2])
               | succ kj24 =>
                have H := HA.out
                clear HA
                simp only [mummerlaw03_SpansCover.j2] at H
                by_cases c31 : 0 ≤ x8_2
                ·rw [if_pos c31] at H
                 have c31b0 : decide (0 ≤ x8_2) = true := decide_eq_true c31
                 clear c31
                 by_cases c32 : x8_2 < (l0.length : Int)
                 ·rw [if_pos c32] at H
                  have c32b0 : decide (x8_2 < (l0.length : Int)) = true := decide_eq_true c32
                  clear c32
                  replace H := Option.bind_eq_some_iff.mp H
                  obtain ⟨⟨t427, t428, t429, t430⟩, A330, H⟩ := H
                  replace H : (if t430 = 0 then (if t429 = true then ((spans_Within.f kj24 t427 t428 ((rd_T24 l0 x8_2).f0) ((rd_T24 l0 x8_2).f1)).bind fun bt433 => ((spans_Within.f kj24 t427 t428 a1_0 a1_1).bind fun bt435 => (if bt433.2 = 0 then (if bt435.2 = 0 then (if bt433.1 = true then (if bt435.1 = true then (mummerlaw03_SpansCover.j3 kj24 l0 x7_24 x8_2 t429 a1_0 a1_1 t412 t413 t427 t428) else (some false)) else (some false)) else (some false)) else (some false)))) else (mummerlaw03_SpansCover.j3 kj24 l0 x7_24 x8_2 t429 a1_0 a1_1 t412 t413 t427 t428)) else (some false)) = some r := H
                  have A33 := ak A330
                  clear A330
                  by_cases c34 : t430 = 0
                  ·rw [if_pos c34] at H
                   have c34b0 : (t430 == 0) = true := beq_iff_eq.mpr c34
                   have c34b1 : (t430 != 0) = false := bne_eq_false_iff_eq.mpr c34
                   clear c34
                   have HC35 := ak H
                   clear H
                   try go_wp2
                   have n0_ := ak (bD BK409.out)
                   have n1_ := ak (bD BK415.out)
                   have n2_ := ak (wD HB.out)
                   clear BK409 BK415 HB
                   have BK409 := n0_
                   have BK415 := n1_
                   have HB := n2_
                   clear n0_ n1_ n2_
                   have p426 : 0 ≤ (x8_2 : Int) := of_decide_eq_true (by first | (with_reducible assumption) | assumption)
                   have q426 : x8_2 < (l0.length : Int) := of_decide_eq_true (by first | (with_reducible assumption) | assumption)
                   obtain ⟨ad426, e426, hx426_0, hx426_1⟩ := at_T24 HR0.out x8_2 p426 q426
                   have hw426_1 := hx426_1
                   have hw426_0 := hx426_0
                   obtain rfl : ad420 = ad426 := (by injection e426)
                   replace hx426_0 := (HB.out.cell (World.block_lt_of_cell? w _ hx426_0)).trans hx426_0
                   replace hx426_1 := (HB.out.cell (World.block_lt_of_cell? w _ hx426_1)).trans hx426_1
                   replace p426 := eq_true p426
                   replace q426 := eq_true q426
                   refine start_ (n := 14) (S := fun w' => w'.cell? ⟨gb409, 0, none⟩ = some (.int .i64 a1_0) ∧ w'.cell? ⟨gb409, 1, none⟩ = some (.int .i64 a1_1) ∧ w'.cell? (ad420.add ((x8_2).toNat * 2)) = some (.int .i64 ((rd_T24 l0 x8_2).f0)) ∧ w'.cell? ⟨(ad420.add ((x8_2).toNat * 2)).block, (ad420.add ((x8_2).toNat * 2)).off + 1, none⟩ = some (.int .i64 ((rd_T24 l0 x8_2).f1))) (ds := []) q7_12 (by kernel_rfl) rfl rfl ⟨(blk_cell BK409.out 0).trans rfl, (blk_cell BK409.out 1).trans rfl, ((HB.out.cell (World.block_lt_of_cell? w _ hw426_0)).trans hw426_0), ((HB.out.cell (World.block_lt_of_cell? w _ hw426_1)).trans hw426_1)⟩ (fun hHeld => ?_); refine with_tabW mummerlaw03_SpansCover.tab15 mummerlaw03_SpansCover.bits15 (fun HT_ HW_ => ?_)
                   generalize wc.drew = w36 at BK409 BK415 HB hx426_0 hx426_1 hHeld ⊢
                   refine pure_ (i := 0) (N := some 88) (v := ?_) (a' := ?_) q7_13 rfl rfl (any_of HT_.out (by kernel_rfl)) (fun _ _ _ h => h) (Or.inl ⟨by rfl, ?_⟩) ?_ ?_; rotate_left; ·(intro w'; go_simp; with_reducible rfl)
                   rotate_left; ·(simp only [Act.put, sA_, s0_, s1_, i64_w, i32_w]; rfl)
                   refine pure_ (i := 1) (N := some 89) (v := ?_) (a' := ?_) q7_14 rfl rfl (any_of HT_.out (by kernel_rfl)) (fun _ _ _ h => h) (Or.inl ⟨by rfl, ?_⟩) ?_ ?_; rotate_left; ·(intro w'; go_simp; with_reducible rfl)
                   rotate_left; ·(simp only [Act.put, sA_, s0_, s1_, i64_w, i32_w]; rfl)
                   refine pure_ (i := 2) (N := some 90) (v := ?_) (a' := ?_) q7_15 rfl rfl (any_of HT_.out (by kernel_rfl)) (fun _ _ _ h => h) (Or.inl ⟨by rfl, ?_⟩) ?_ ?_; rotate_left; ·(intro w'; go_simp; with_reducible rfl)
                   rotate_left; ·(simp only [Act.put, sA_, s0_, s1_, i64_w, i32_w]; rfl)
                   refine take_ (i := 3) (N := some 91) (v := ?_) (a' := ?_) #[Y,Y,Y,Y,Z,Z,Z,Z,Z,Z,Z,Z,Z,Z] rfl rfl (take_ofW HT_.out HW_.out (by kernel_rfl)) (fun _ _ _ h => h) (Or.inl ⟨by rfl, ?_⟩) hHeld ?_ ?_; rotate_left; ·(rintro w' ⟨s0, s1, s2, s3⟩; go_simp; with_reducible rfl)
                   rotate_left; ·(simp only [Act.put, sA_, s0_, s1_, i64_w, i32_w]; rfl)
                   refine take_ (i := 4) (N := some 92) (v := ?_) (a' := ?_) #[Y,Y,Y,Y,Y,Z,Z,Z,Z,Z,Z,Z,Z,Z] rfl rfl (take_ofW HT_.out HW_.out (by kernel_rfl)) (fun _ _ _ h => h) (Or.inl ⟨by rfl, ?_⟩) hHeld ?_ ?_; rotate_left; ·(rintro w' ⟨s0, s1, s2, s3⟩; go_simp; with_reducible rfl)
                   rotate_left; ·(simp only [Act.put, sA_, s0_, s1_, i64_w, i32_w]; rfl)
                   refine join_ (σ := Nat) 3 q7_16 (fun s_ => [(93, .tuple #[.agg #[.int .i64 t427, .int .i64 t428], .bool t429, .int .i64 t430]), (13, .pointer (some ⟨s_, 0, none⟩)), (87, .tuple #[.agg #[.int .i64 t427, .int .i64 t428], .bool t429, .int .i64 t430]), (94, .agg #[.int .i64 t427, .int .i64 t428]), (95, .bool t429), (96, .int .i64 t430)]) (fun s_ w' => (w'.cell? ⟨gb409, 0, none⟩ = some (.int .i64 a1_0) ∧ w'.cell? ⟨gb409, 1, none⟩ = some (.int .i64 a1_1) ∧ w'.cell? (ad420.add ((x8_2).toNat * 2)) = some (.int .i64 ((rd_T24 l0 x8_2).f0)) ∧ w'.cell? ⟨(ad420.add ((x8_2).toNat * 2)).block, (ad420.add ((x8_2).toNat * 2)).off + 1, none⟩ = some (.int .i64 ((rd_T24 l0 x8_2).f1))) ∧ (w'.heap[gb409]? = some (.cells #[.int .i64 a1_0, .int .i64 a1_1] 24 (0, 0))) ∧ (w'.heap[gb415]? = some (.cells #[.int .i64 t412, .int .i64 t413] 24 (0, 0))) ∧ (w'.heap[s_]? = some (.cells #[.int .i64 0, .int .i64 0] 24 (0, 0))) ∧ (w.heap.size ≤ s_) ∧ (w.heap.size ≤ s_) ∧ (gb409 ≠ s_) ∧ (s_ ≠ gb409) ∧ (gb415 ≠ s_) ∧ (s_ ≠ gb415) ∧ (Below w.heap.size w w')) ?_ ?_
                   rotate_left
                   ·intro hCont
                    refine two_ (i := 5) (j := 10) (Ni := some 93) (Nj := some 13) #[Y,Y,Y,Y,Y,Y,Z,Z,Z,Z,Z,Z,Z,Z] #[Y,Y,Y,Y,Y,Z,Z,Z,Z,Z,Y,Z,Z,Z] rfl rfl rfl rfl (two_of HT_.out (by kernel_rfl)) (by decide) (by decide) (fun K hK => ?_) (fun K hK => ?_)
                    ·skip
                     refine goes_ Tryd.func21 (by kernel_rfl) rfl #[.agg #[.int .i64 ((rd_T24 l0 x8_2).f0), .int .i64 ((rd_T24 l0 x8_2).f1)], .agg #[.int .i64 a1_0, .int .i64 a1_1]] (by rfl) rfl rfl (by (try simp only [List.map_toArray, List.map_cons, List.map_nil]); first | done | rfl | (simp only [List.length_drop, List.length_take]; rfl)) ?_
                     with_reducible refine (spans_Meet.calls kj24 ((rd_T24 l0 x8_2).f0) ((rd_T24 l0 x8_2).f1) a1_0 a1_1 t427 t428 t429 t430 _ A33.out).mono ?_
                     rintro e w37 ⟨rfl, hb⟩
                     refine ⟨_, rfl, ?_⟩
                     have n0_ := ak (blk_below (g := gb409) (o := .cells #[.int .i64 a1_0, .int .i64 a1_1] 24 (0, 0)) (by (with_reducible repeat (first | refine bN ?_ _ | refine bD ?_ | refine bA ?_ _)); exact BK409.out) hb)
                     have n1_ := ak (blk_below (g := gb415) (o := .cells #[.int .i64 t412, .int .i64 t413] 24 (0, 0)) (by (with_reducible repeat (first | refine bN ?_ _ | refine bD ?_ | refine bA ?_ _)); exact BK415.out) hb)
                     have n2_ := ak (below_step (by repeat (first | (with_reducible first | exact HB.out | apply wA | apply wN | apply wD | refine below_set ?_ GE409.out | refine below_set ?_ GE415.out) | exact HB.out)) hb)
                     clear BK409 BK415 HB
                     have BK409 := n0_
                     have BK415 := n1_
                     have HB := n2_
                     clear n0_ n1_ n2_
                     (try clear hb)
                     (try clear hb2)
                     (try clear hk)
                     (try clear hi)
                     refine hK.out _ _ ⟨(blk_cell BK409.out 0).trans rfl, (blk_cell BK409.out 1).trans rfl, ((HB.out.cell (World.block_lt_of_cell? w _ hw426_0)).trans hw426_0), ((HB.out.cell (World.block_lt_of_cell? w _ hw426_1)).trans hw426_1)⟩ (fun hHeld => ?_)
                     clear hK K
                     refine norm_ (a' := ?_) ?_ ?_
                     rotate_left
                     ·show Act.put _ (some 93) _ = _
                      simp only [Act.put, sA_, s0_, s1_, i64_w, i32_w]
                      rfl
                     refine pure_ (i := 6) (N := some 87) (v := ?_) (a' := ?_) q7_17 rfl rfl (any_of HT_.out (by kernel_rfl)) (fun _ _ _ h => h) (Or.inl ⟨by rfl, ?_⟩) ?_ ?_; rotate_left; ·(intro w'; go_simp; with_reducible rfl)
                     rotate_left; ·(simp only [Act.put, sA_, s0_, s1_, i64_w, i32_w]; rfl)
                     refine pure_ (i := 7) (N := some 94) (v := ?_) (a' := ?_) q7_18 rfl rfl (any_of HT_.out (by kernel_rfl)) (fun _ _ _ h => h) (Or.inl ⟨by rfl, ?_⟩) ?_ ?_; rotate_left; ·(intro w'; go_simp; with_reducible rfl)
                     rotate_left; ·(simp only [Act.put, sA_, s0_, s1_, i64_w, i32_w]; rfl)
                     refine pure_ (i := 8) (N := some 95) (v := ?_) (a' := ?_) q7_19 rfl rfl (any_of HT_.out (by kernel_rfl)) (fun _ _ _ h => h) (Or.inl ⟨by rfl, ?_⟩) ?_ ?_; rotate_left; ·(intro w'; go_simp; with_reducible rfl)
                     rotate_left; ·(simp only [Act.put, sA_, s0_, s1_, i64_w, i32_w]; rfl)
                     refine pure_ (i := 9) (N := some 96) (v := ?_) (a' := ?_) q7_20 rfl rfl (any_of HT_.out (by kernel_rfl)) (fun _ _ _ h => h) (Or.inl ⟨by rfl, ?_⟩) ?_ ?_; rotate_left; ·(intro w'; go_simp; with_reducible rfl)
                     rotate_left; ·(simp only [Act.put, sA_, s0_, s1_, i64_w, i32_w]; rfl)
                     refine one_ (i := 10) (N := some 13) q7_16 rfl rfl (one_of HT_.out (by kernel_rfl)) (by decide) (fun K hK => ?_)
                     refine box_step ?hg (N := 13) ?hd (cs := #[.int .i64 0, .int .i64 0]) (t := 24) ?hr ?_; (case hd => rfl); (case hg => rfl); (case hr => first | (go_simp; done) | (go_simp; rfl))
                     intro gb431 hg w38 hbox hb
                     have n0_ := ak (blk_below (g := gb409) (o := .cells #[.int .i64 a1_0, .int .i64 a1_1] 24 (0, 0)) (by (with_reducible repeat (first | refine bN ?_ _ | refine bD ?_ | refine bA ?_ _)); exact BK409.out) hb)
                     have n1_ := ak (blk_below (g := gb415) (o := .cells #[.int .i64 t412, .int .i64 t413] 24 (0, 0)) (by (with_reducible repeat (first | refine bN ?_ _ | refine bD ?_ | refine bA ?_ _)); exact BK415.out) hb)
                     have n2_ := ak (below_step (by repeat (first | (with_reducible first | exact HB.out | apply wA | apply wN | apply wD | refine below_set ?_ GE409.out | refine below_set ?_ GE415.out) | exact HB.out)) hb)
                     have n3_ := ak (hbox)
                     have n4_ := ak ((by rw [hg]; exact (below_size (by repeat (first | (with_reducible first | exact HB.out | apply wA | apply wN | apply wD | refine below_set ?_ GE409.out | refine below_set ?_ GE415.out) | exact HB.out))) : w.heap.size ≤ gb431))
                     have n5_ := ak ((by rw [hg]; exact (below_size (by repeat (first | (with_reducible first | exact HB.out | apply wA | apply wN | apply wD | refine below_set ?_ GE409.out | refine below_set ?_ GE415.out) | exact HB.out))) : w.heap.size ≤ gb431))
                     have n6_ := ak ((by rw [hg]; exact Nat.ne_of_lt (blk_lt (g := gb409) (o := .cells #[.int .i64 a1_0, .int .i64 a1_1] 24 (0, 0)) (by (with_reducible repeat (first | refine bN ?_ _ | refine bD ?_ | refine bA ?_ _)); exact BK409.out)) : gb409 ≠ gb431))
                     have n7_ := ak ((by rw [hg]; exact Nat.ne_of_gt (blk_lt (g := gb409) (o := .cells #[.int .i64 a1_0, .int .i64 a1_1] 24 (0, 0)) (by (with_reducible repeat (first | refine bN ?_ _ | refine bD ?_ | refine bA ?_ _)); exact BK409.out)) : gb431 ≠ gb409))
                     have n8_ := ak ((by rw [hg]; exact Nat.ne_of_lt (blk_lt (g := gb415) (o := .cells #[.int .i64 t412, .int .i64 t413] 24 (0, 0)) (by (with_reducible repeat (first | refine bN ?_ _ | refine bD ?_ | refine bA ?_ _)); exact BK415.out)) : gb415 ≠ gb431))
                     have n9_ := ak ((by rw [hg]; exact Nat.ne_of_gt (blk_lt (g := gb415) (o := .cells #[.int .i64 t412, .int .i64 t413] 24 (0, 0)) (by (with_reducible repeat (first | refine bN ?_ _ | refine bD ?_ | refine bA ?_ _)); exact BK415.out)) : gb431 ≠ gb415))
                     clear BK409 BK415 HB
                     have BK409 := n0_
                     have BK415 := n1_
                     have HB := n2_
                     have BK431 := n3_
                     have GW431 := n4_
                     have GE431 := n5_
                     have NB409_431 := n6_
                     have NB431_409 := n7_
                     have NB415_431 := n8_
                     have NB431_415 := n9_
                     clear n0_ n1_ n2_ n3_ n4_ n5_ n6_ n7_ n8_ n9_ hb hbox hg
                     refine hK.out _ _ ⟨(blk_cell BK409.out 0).trans rfl, (blk_cell BK409.out 1).trans rfl, ((HB.out.cell (World.block_lt_of_cell? w _ hw426_0)).trans hw426_0), ((HB.out.cell (World.block_lt_of_cell? w _ hw426_1)).trans hw426_1)⟩ (fun hHeld => ?_)
                     clear hK K
                     refine norm_ (a' := ?_) ?_ ?_
                     rotate_left
                     ·show Act.put _ (some 13) _ = _
                      simp only [Act.put, sA_, s0_, s1_, i64_w, i32_w]
                      rfl
                     exact norm_ (by simp only [putAll, Act.put, sA_, s0_, s1_]) (hCont (gb431) _ ⟨hHeld, (by (with_reducible repeat (first | refine bN ?_ _ | refine bD ?_ | refine bA ?_ _)); exact BK409.out), (by (with_reducible repeat (first | refine bN ?_ _ | refine bD ?_ | refine bA ?_ _)); exact BK415.out), (by (with_reducible repeat (first | refine bN ?_ _ | refine bD ?_ | refine bA ?_ _)); exact BK431.out), GW431.out, GE431.out, NB409_431.out, NB431_409.out, NB415_431.out, NB431_415.out, (by repeat (first | (with_reducible first | exact HB.out | apply wA | apply wN | apply wD | refine below_set ?_ GE409.out | refine below_set ?_ GE415.out | refine below_set ?_ GE431.out) | exact HB.out))⟩)
                    ·skip
                     refine box_step ?hg (N := 13) ?hd (cs := #[.int .i64 0, .int .i64 0]) (t := 24) ?hr ?_; (case hd => rfl); (case hg => rfl); (case hr => first | (go_simp; done) | (go_simp; rfl))
                     intro gb431 hg w37 hbox hb
                     have n0_ := ak (blk_below (g := gb409) (o := .cells #[.int .i64 a1_0, .int .i64 a1_1] 24 (0, 0)) (by (with_reducible repeat (first | refine bN ?_ _ | refine bD ?_ | refine bA ?_ _)); exact BK409.out) hb)
                     have n1_ := ak (blk_below (g := gb415) (o := .cells #[.int .i64 t412, .int .i64 t413] 24 (0, 0)) (by (with_reducible repeat (first | refine bN ?_ _ | refine bD ?_ | refine bA ?_ _)); exact BK415.out) hb)
                     have n2_ := ak (below_step (by repeat (first | (with_reducible first | exact HB.out | apply wA | apply wN | apply wD | refine below_set ?_ GE409.out | refine below_set ?_ GE415.out) | exact HB.out)) hb)
                     have n3_ := ak (hbox)
                     have n4_ := ak ((by rw [hg]; exact (below_size (by repeat (first | (with_reducible first | exact HB.out | apply wA | apply wN | apply wD | refine below_set ?_ GE409.out | refine below_set ?_ GE415.out) | exact HB.out))) : w.heap.size ≤ gb431))
                     have n5_ := ak ((by rw [hg]; exact (below_size (by repeat (first | (with_reducible first | exact HB.out | apply wA | apply wN | apply wD | refine below_set ?_ GE409.out | refine below_set ?_ GE415.out) | exact HB.out))) : w.heap.size ≤ gb431))
                     have n6_ := ak ((by rw [hg]; exact Nat.ne_of_lt (blk_lt (g := gb409) (o := .cells #[.int .i64 a1_0, .int .i64 a1_1] 24 (0, 0)) (by (with_reducible repeat (first | refine bN ?_ _ | refine bD ?_ | refine bA ?_ _)); exact BK409.out)) : gb409 ≠ gb431))
                     have n7_ := ak ((by rw [hg]; exact Nat.ne_of_gt (blk_lt (g := gb409) (o := .cells #[.int .i64 a1_0, .int .i64 a1_1] 24 (0, 0)) (by (with_reducible repeat (first | refine bN ?_ _ | refine bD ?_ | refine bA ?_ _)); exact BK409.out)) : gb431 ≠ gb409))
                     have n8_ := ak ((by rw [hg]; exact Nat.ne_of_lt (blk_lt (g := gb415) (o := .cells #[.int .i64 t412, .int .i64 t413] 24 (0, 0)) (by (with_reducible repeat (first | refine bN ?_ _ | refine bD ?_ | refine bA ?_ _)); exact BK415.out)) : gb415 ≠ gb431))
                     have n9_ := ak ((by rw [hg]; exact Nat.ne_of_gt (blk_lt (g := gb415) (o := .cells #[.int .i64 t412, .int .i64 t413] 24 (0, 0)) (by (with_reducible repeat (first | refine bN ?_ _ | refine bD ?_ | refine bA ?_ _)); exact BK415.out)) : gb431 ≠ gb415))
                     clear BK409 BK415 HB
                     have BK409 := n0_
                     have BK415 := n1_
                     have HB := n2_
                     have BK431 := n3_
                     have GW431 := n4_
                     have GE431 := n5_
                     have NB409_431 := n6_
                     have NB431_409 := n7_
                     have NB415_431 := n8_
                     have NB431_415 := n9_
                     clear n0_ n1_ n2_ n3_ n4_ n5_ n6_ n7_ n8_ n9_ hb hbox hg
                     refine hK.out _ _ ⟨(blk_cell BK409.out 0).trans rfl, (blk_cell BK409.out 1).trans rfl, ((HB.out.cell (World.block_lt_of_cell? w _ hw426_0)).trans hw426_0), ((HB.out.cell (World.block_lt_of_cell? w _ hw426_1)).trans hw426_1)⟩ (fun hHeld => ?_)
                     clear hK K
                     refine norm_ (a' := ?_) ?_ ?_
                     rotate_left
                     ·show Act.put _ (some 13) _ = _
                      simp only [Act.put, sA_, s0_, s1_, i64_w, i32_w]
                      rfl
                     refine one_ (i := 5) (N := some 93) #[Y,Y,Y,Y,Y,Y,Z,Z,Z,Z,Y,Z,Z,Z] rfl rfl (one_of HT_.out (by kernel_rfl)) (by decide) (fun K hK => ?_)
                     refine goes_ Tryd.func21 (by kernel_rfl) rfl #[.agg #[.int .i64 ((rd_T24 l0 x8_2).f0), .int .i64 ((rd_T24 l0 x8_2).f1)], .agg #[.int .i64 a1_0, .int .i64 a1_1]] (by rfl) rfl rfl (by (try simp only [List.map_toArray, List.map_cons, List.map_nil]); first | done | rfl | (simp only [List.length_drop, List.length_take]; rfl)) ?_
                     with_reducible refine (spans_Meet.calls kj24 ((rd_T24 l0 x8_2).f0) ((rd_T24 l0 x8_2).f1) a1_0 a1_1 t427 t428 t429 t430 _ A33.out).mono ?_
                     rintro e w38 ⟨rfl, hb⟩
                     refine ⟨_, rfl, ?_⟩
                     have n0_ := ak (blk_below (g := gb409) (o := .cells #[.int .i64 a1_0, .int .i64 a1_1] 24 (0, 0)) (by (with_reducible repeat (first | refine bN ?_ _ | refine bD ?_ | refine bA ?_ _)); exact BK409.out) hb)
                     have n1_ := ak (blk_below (g := gb415) (o := .cells #[.int .i64 t412, .int .i64 t413] 24 (0, 0)) (by (with_reducible repeat (first | refine bN ?_ _ | refine bD ?_ | refine bA ?_ _)); exact BK415.out) hb)
                     have n2_ := ak (blk_below (g := gb431) (o := .cells #[.int .i64 0, .int .i64 0] 24 (0, 0)) (by (with_reducible repeat (first | refine bN ?_ _ | refine bD ?_ | refine bA ?_ _)); exact BK431.out) hb)
                     have n3_ := ak (below_step (by repeat (first | (with_reducible first | exact HB.out | apply wA | apply wN | apply wD | refine below_set ?_ GE409.out | refine below_set ?_ GE415.out | refine below_set ?_ GE431.out) | exact HB.out)) hb)
                     clear BK409 BK415 BK431 HB
                     have BK409 := n0_
                     have BK415 := n1_
                     have BK431 := n2_
                     have HB := n3_
                     clear n0_ n1_ n2_ n3_
                     (try clear hb)
                     (try clear hb2)
                     (try clear hk)
                     (try clear hi)
                     refine hK.out _ _ ⟨(blk_cell BK409.out 0).trans rfl, (blk_cell BK409.out 1).trans rfl, ((HB.out.cell (World.block_lt_of_cell? w _ hw426_0)).trans hw426_0), ((HB.out.cell (World.block_lt_of_cell? w _ hw426_1)).trans hw426_1)⟩ (fun hHeld => ?_)
                     clear hK K
                     refine norm_ (a' := ?_) ?_ ?_
                     rotate_left
                     ·show Act.put _ (some 93) _ = _
                      simp only [Act.put, sA_, s0_, s1_, i64_w, i32_w]
                      rfl
                     refine pure_ (i := 6) (N := some 87) (v := ?_) (a' := ?_) #[Y,Y,Y,Y,Y,Y,Y,Z,Z,Z,Y,Z,Z,Z] rfl rfl (any_of HT_.out (by kernel_rfl)) (fun _ _ _ h => h) (Or.inl ⟨by rfl, ?_⟩) ?_ ?_; rotate_left; ·(intro w'; go_simp; with_reducible rfl)
                     rotate_left; ·(simp only [Act.put, sA_, s0_, s1_, i64_w, i32_w]; rfl)
                     refine pure_ (i := 7) (N := some 94) (v := ?_) (a' := ?_) #[Y,Y,Y,Y,Y,Y,Y,Y,Z,Z,Y,Z,Z,Z] rfl rfl (any_of HT_.out (by kernel_rfl)) (fun _ _ _ h => h) (Or.inl ⟨by rfl, ?_⟩) ?_ ?_; rotate_left; ·(intro w'; go_simp; with_reducible rfl)
                     rotate_left; ·(simp only [Act.put, sA_, s0_, s1_, i64_w, i32_w]; rfl)
                     refine pure_ (i := 8) (N := some 95) (v := ?_) (a' := ?_) #[Y,Y,Y,Y,Y,Y,Y,Y,Y,Z,Y,Z,Z,Z] rfl rfl (any_of HT_.out (by kernel_rfl)) (fun _ _ _ h => h) (Or.inl ⟨by rfl, ?_⟩) ?_ ?_; rotate_left; ·(intro w'; go_simp; with_reducible rfl)
                     rotate_left; ·(simp only [Act.put, sA_, s0_, s1_, i64_w, i32_w]; rfl)
                     refine pure_ (i := 9) (N := some 96) (v := ?_) (a' := ?_) q7_16 rfl rfl (any_of HT_.out (by kernel_rfl)) (fun _ _ _ h => h) (Or.inl ⟨by rfl, ?_⟩) ?_ ?_; rotate_left; ·(intro w'; go_simp; with_reducible rfl)
                     rotate_left; ·(simp only [Act.put, sA_, s0_, s1_, i64_w, i32_w]; rfl)
                     exact norm_ (by simp only [putAll, Act.put, sA_, s0_, s1_]) (hCont (gb431) _ ⟨hHeld, (by (with_reducible repeat (first | refine bN ?_ _ | refine bD ?_ | refine bA ?_ _)); exact BK409.out), (by (with_reducible repeat (first | refine bN ?_ _ | refine bD ?_ | refine bA ?_ _)); exact BK415.out), (by (with_reducible repeat (first | refine bN ?_ _ | refine bD ?_ | refine bA ?_ _)); exact BK431.out), GW431.out, GE431.out, NB409_431.out, NB431_409.out, NB415_431.out, NB431_415.out, (by repeat (first | (with_reducible first | exact HB.out | apply wA | apply wN | apply wD | refine below_set ?_ GE409.out | refine below_set ?_ GE415.out | refine below_set ?_ GE431.out) | exact HB.out))⟩)
                   rintro gb431 w39 ⟨hS_, h0_, h1_, h2_, h3_, h4_, h5_, h6_, h7_, h8_, h9_⟩
                   have n0_ : Aside0 (w39.heap[gb409]? = some (.cells #[.int .i64 a1_0, .int .i64 a1_1] 24 (0, 0))) := ⟨h0_⟩
                   have n1_ : Aside0 (w39.heap[gb415]? = some (.cells #[.int .i64 t412, .int .i64 t413] 24 (0, 0))) := ⟨h1_⟩
                   have n2_ : Aside0 (w39.heap[gb431]? = some (.cells #[.int .i64 0, .int .i64 0] 24 (0, 0))) := ⟨h2_⟩
                   have n3_ : Aside0 (w.heap.size ≤ gb431) := ⟨h3_⟩
                   have n4_ : Aside0 (w.heap.size ≤ gb431) := ⟨h4_⟩
                   have n5_ : Aside0 (gb409 ≠ gb431) := ⟨h5_⟩
                   have n6_ : Aside0 (gb431 ≠ gb409) := ⟨h6_⟩
                   have n7_ : Aside0 (gb415 ≠ gb431) := ⟨h7_⟩
                   have n8_ : Aside0 (gb431 ≠ gb415) := ⟨h8_⟩
                   have n9_ : Aside0 (Below w.heap.size w w39) := ⟨h9_⟩
                   clear BK409 BK415 HB h0_ h1_ h2_ h3_ h4_ h5_ h6_ h7_ h8_ h9_
                   have BK409 := n0_
                   have BK415 := n1_
                   have BK431 := n2_
                   have GW431 := n3_
                   have GE431 := n4_
                   have NB409_431 := n5_
                   have NB431_409 := n6_
                   have NB415_431 := n7_
                   have NB431_415 := n8_
                   have HB := n9_
                   clear n0_ n1_ n2_ n3_ n4_ n5_ n6_ n7_ n8_ n9_
                   have hHeld : w39.cell? ⟨gb409, 0, none⟩ = some (.int .i64 a1_0) ∧ w39.cell? ⟨gb409, 1, none⟩ = some (.int .i64 a1_1) ∧ w39.cell? (ad420.add ((x8_2).toNat * 2)) = some (.int .i64 ((rd_T24 l0 x8_2).f0)) ∧ w39.cell? ⟨(ad420.add ((x8_2).toNat * 2)).block, (ad420.add ((x8_2).toNat * 2)).off + 1, none⟩ = some (.int .i64 ((rd_T24 l0 x8_2).f1)) := hS_
                   refine norm_ (a' := ?_) ?_ ?_
                   rotate_left
                   ·simp only [putAll, Act.put, sA_, s0_, s1_]
                    rfl
                   refine one_ (i := 11) (N := none) q7_21 rfl rfl (one_of HT_.out (by kernel_rfl)) (by decide) (fun K hK => ?_)
                   have hs40 : w39.cell? ⟨gb431, 0, none⟩ = some (.int .i64 0) := (blk_cell BK431.out 0).trans rfl
                   have hfs40 := blk_frozen BK431.out 0
                   have hns40_0 := NB409_431.out
                   have hns40_1 := NB415_431.out
                   have hms40_0 := NB431_409.out
                   have hms40_1 := NB431_415.out
                   have hs41 : w39.cell? ⟨gb431, 1, none⟩ = some (.int .i64 0) := (blk_cell BK431.out 1).trans rfl
                   have hfs41 := blk_frozen BK431.out 1
                   have hns41_0 := NB409_431.out
                   have hns41_1 := NB415_431.out
                   have hms41_0 := NB431_409.out
                   have hms41_1 := NB431_415.out
                   refine skip_ (w1 := ?_) (by rfl) rfl ?_ ?_
                   rotate_left
                   ·go_simp
                    rfl
                   refine hK.out _ _ ⟨((cell_far (p := ⟨gb431, _, none⟩) NB409_431.out _).trans (((cell_far (p := ⟨gb431, _, none⟩) NB409_431.out _).trans (hHeld.1)))), ((cell_far (p := ⟨gb431, _, none⟩) NB409_431.out _).trans (((cell_far (p := ⟨gb431, _, none⟩) NB409_431.out _).trans (hHeld.2.1)))), ((cell_far (p := ⟨gb431, _, none⟩) (by first | exact Nat.ne_of_lt (Nat.lt_of_lt_of_le (by have := World.block_lt_of_cell? _ _ hw426_0; first | rwa [add_block] at this | exact this) GW431.out) | (rw [add_block]; exact Nat.ne_of_lt (Nat.lt_of_lt_of_le (by have := World.block_lt_of_cell? _ _ hw426_0; first | rwa [add_block] at this | exact this) GW431.out)) | (show (Addr.add _ _).block ≠ _; rw [add_block]; exact Nat.ne_of_lt (Nat.lt_of_lt_of_le (by have := World.block_lt_of_cell? _ _ hw426_0; first | rwa [add_block] at this | exact this) GW431.out)) | (dsimp only; exact Nat.ne_of_lt (Nat.lt_of_lt_of_le (by have := World.block_lt_of_cell? _ _ hw426_0; first | rwa [add_block] at this | exact this) GW431.out))) _).trans (((cell_far (p := ⟨gb431, _, none⟩) (by first | exact Nat.ne_of_lt (Nat.lt_of_lt_of_le (by have := World.block_lt_of_cell? _ _ hw426_0; first | rwa [add_block] at this | exact this) GW431.out) | (rw [add_block]; exact Nat.ne_of_lt (Nat.lt_of_lt_of_le (by have := World.block_lt_of_cell? _ _ hw426_0; first | rwa [add_block] at this | exact this) GW431.out)) | (show (Addr.add _ _).block ≠ _; rw [add_block]; exact Nat.ne_of_lt (Nat.lt_of_lt_of_le (by have := World.block_lt_of_cell? _ _ hw426_0; first | rwa [add_block] at this | exact this) GW431.out)) | (dsimp only; exact Nat.ne_of_lt (Nat.lt_of_lt_of_le (by have := World.block_lt_of_cell? _ _ hw426_0; first | rwa [add_block] at this | exact this) GW431.out))) _).trans (hHeld.2.2.1)))), ((cell_far (p := ⟨gb431, _, none⟩) (by first | exact Nat.ne_of_lt (Nat.lt_of_lt_of_le (by have := World.block_lt_of_cell? _ _ hw426_1; first | rwa [add_block] at this | exact this) GW431.out) | (rw [add_block]; exact Nat.ne_of_lt (Nat.lt_of_lt_of_le (by have := World.block_lt_of_cell? _ _ hw426_1; first | rwa [add_block] at this | exact this) GW431.out)) | (show (Addr.add _ _).block ≠ _; rw [add_block]; exact Nat.ne_of_lt (Nat.lt_of_lt_of_le (by have := World.block_lt_of_cell? _ _ hw426_1; first | rwa [add_block] at this | exact this) GW431.out)) | (dsimp only; exact Nat.ne_of_lt (Nat.lt_of_lt_of_le (by have := World.block_lt_of_cell? _ _ hw426_1; first | rwa [add_block] at this | exact this) GW431.out))) _).trans (((cell_far (p := ⟨gb431, _, none⟩) (by first | exact Nat.ne_of_lt (Nat.lt_of_lt_of_le (by have := World.block_lt_of_cell? _ _ hw426_1; first | rwa [add_block] at this | exact this) GW431.out) | (rw [add_block]; exact Nat.ne_of_lt (Nat.lt_of_lt_of_le (by have := World.block_lt_of_cell? _ _ hw426_1; first | rwa [add_block] at this | exact this) GW431.out)) | (show (Addr.add _ _).block ≠ _; rw [add_block]; exact Nat.ne_of_lt (Nat.lt_of_lt_of_le (by have := World.block_lt_of_cell? _ _ hw426_1; first | rwa [add_block] at this | exact this) GW431.out)) | (dsimp only; exact Nat.ne_of_lt (Nat.lt_of_lt_of_le (by have := World.block_lt_of_cell? _ _ hw426_1; first | rwa [add_block] at this | exact this) GW431.out))) _).trans (hHeld.2.2.2))))⟩ (fun hHeld => ?_)
                   clear hK K
                   refine pure_ (i := 12) (N := some 14) (v := ?_) (a' := ?_) q7_22 rfl rfl (any_of HT_.out (by kernel_rfl)) (fun _ _ _ h => h) (Or.inl ⟨by rfl, ?_⟩) ?_ ?_; rotate_left; ·(intro w'; go_simp; with_reducible rfl)
                   rotate_left; ·(simp only [Act.put, sA_, s0_, s1_, i64_w, i32_w]; rfl)
                   refine pure_ (i := 13) (N := some 15) (v := ?_) (a' := ?_) q7_23 rfl rfl (any_of HT_.out (by kernel_rfl)) (fun _ _ _ h => h) (Or.inl ⟨by rfl, ?_⟩) ?_ ?_; rotate_left; ·(intro w'; go_simp; with_reducible rfl)
                   rotate_left; ·(simp only [Act.put, sA_, s0_, s1_, i64_w, i32_w]; rfl)
                   refine done_ (done_of HT_.out (by kernel_rfl)) ?_
                   go_upto_if 99 with (fail)
                   go_cut [] (fun wc => ∃ (kq : Nat), Aside0 (mummerlaw03_SpansCover.j3 kq l0 x7_24 x8_2 t429 a1_0 a1_1 t412 t413 t427 t428 = some r) ∧ Aside0 (kq ≤ kj24) ∧ Aside0 (wc.heap[gb409]? = some (.cells #[.int .i64 a1_0, .int .i64 a1_1] 24 (0, 0))) ∧ Aside0 (wc.heap[gb415]? = some (.cells #[.int .i64 t412, .int .i64 t413] 24 (0, 0))) ∧ Aside0 (wc.heap[gb431]? = some (.cells #[.int .i64 t427, .int .i64 t428] 24 (0, 0))) ∧ Aside0 (Below w.heap.size w wc))
                   case first =>
                    as_aux_lemma =>
                     have H := HC35.out
                     clear HC35
                     by_cases c42 : t429 = true
                     ·subst c42
                      have H1 : ((spans_Within.f kj24 t427 t428 ((rd_T24 l0 x8_2).f0) ((rd_T24 l0 x8_2).f1)).bind fun bt433 => ((spans_Within.f kj24 t427 t428 a1_0 a1_1).bind fun bt435 => (if bt433.2 = 0 then (if bt435.2 = 0 then (if bt433.1 = true then (if bt435.1 = true then (mummerlaw03_SpansCover.j3 kj24 l0 x7_24 x8_2 true a1_0 a1_1 t412 t413 t427 t428) else (some false)) else (some false)) else (some false)) else (some false)))) = some r := by rw [if_pos rfl] at H; exact H
                      clear H
                      have H := H1
                      clear H1
                      replace H := Option.bind_eq_some_iff.mp H
                      obtain ⟨⟨t433, t434⟩, A430, H⟩ := H
                      replace H : ((spans_Within.f kj24 t427 t428 a1_0 a1_1).bind fun bt435 => (if t434 = 0 then (if bt435.2 = 0 then (if t433 = true then (if bt435.1 = true then (mummerlaw03_SpansCover.j3 kj24 l0 x7_24 x8_2 true a1_0 a1_1 t412 t413 t427 t428) else (some false)) else (some false)) else (some false)) else (some false))) = some r := H
                      have A43 := ak A430
                      clear A430
                      replace H := Option.bind_eq_some_iff.mp H
                      obtain ⟨⟨t435, t436⟩, A440, H⟩ := H
                      replace H : (if t434 = 0 then (if t436 = 0 then (if t433 = true then (if t435 = true then (mummerlaw03_SpansCover.j3 kj24 l0 x7_24 x8_2 true a1_0 a1_1 t412 t413 t427 t428) else (some false)) else (some false)) else (some false)) else (some false)) = some r := H
                      have A44 := ak A440
                      clear A440
                      by_cases c45 : t434 = 0
                      ·rw [if_pos c45] at H
                       have c45b0 : (t434 == 0) = true := beq_iff_eq.mpr c45
                       have c45b1 : (t434 != 0) = false := bne_eq_false_iff_eq.mpr c45
                       clear c45
                       (first | rw [c45b0] | (simp only [i64_w, i32_w]; rw [c45b0]) | skip)
                       by_cases c46 : t436 = 0
                       ·rw [if_pos c46] at H
                        have c46b0 : (t436 == 0) = true := beq_iff_eq.mpr c46
                        have c46b1 : (t436 != 0) = false := bne_eq_false_iff_eq.mpr c46
                        clear c46
                        by_cases c47 : t433 = true
                        ·subst c47
                         have H1 : (if t435 = true then (mummerlaw03_SpansCover.j3 kj24 l0 x7_24 x8_2 true a1_0 a1_1 t412 t413 t427 t428) else (some false)) = some r := by rw [if_pos rfl] at H; exact H
                         clear H
                         have H := H1
                         clear H1
                         by_cases c48 : t435 = true
                         ·subst c48
                          have H1 : (mummerlaw03_SpansCover.j3 kj24 l0 x7_24 x8_2 true a1_0 a1_1 t412 t413 t427 t428) = some r := by rw [if_pos rfl] at H; exact H
                          clear H
                          have H := H1
                          clear H1
                          have H' := ak H
                          clear H
                          try go_wp2
                          have n0_ : Aside0 (((w39.setCell ⟨gb431, 0, none⟩ (.int .i64 t427)).setCell ⟨gb431, 1, none⟩ (.int .i64 t428)).heap[gb409]? = some (.cells #[.int .i64 a1_0, .int .i64 a1_1] 24 (0, 0))) := ⟨by (with_reducible repeat (first | refine bN ?_ _ | refine bD ?_ | refine bA ?_ _)); refine blk_far ?_ NB409_431.out _; (with_reducible repeat (first | refine bN ?_ _ | refine bD ?_ | refine bA ?_ _)); refine blk_far ?_ NB409_431.out _; (with_reducible repeat (first | refine bN ?_ _ | refine bD ?_ | refine bA ?_ _)); exact BK409.out⟩
                          have n1_ : Aside0 (((w39.setCell ⟨gb431, 0, none⟩ (.int .i64 t427)).setCell ⟨gb431, 1, none⟩ (.int .i64 t428)).heap[gb415]? = some (.cells #[.int .i64 t412, .int .i64 t413] 24 (0, 0))) := ⟨by (with_reducible repeat (first | refine bN ?_ _ | refine bD ?_ | refine bA ?_ _)); refine blk_far ?_ NB415_431.out _; (with_reducible repeat (first | refine bN ?_ _ | refine bD ?_ | refine bA ?_ _)); refine blk_far ?_ NB415_431.out _; (with_reducible repeat (first | refine bN ?_ _ | refine bD ?_ | refine bA ?_ _)); exact BK415.out⟩
                          have n2_ : Aside0 (((w39.setCell ⟨gb431, 0, none⟩ (.int .i64 t427)).setCell ⟨gb431, 1, none⟩ (.int .i64 t428)).heap[gb431]? = some (.cells #[.int .i64 t427, .int .i64 t428] 24 (0, 0))) := ⟨by (with_reducible repeat (first | refine bN ?_ _ | refine bD ?_ | refine bA ?_ _)); refine blk_put (cs := #[.int .i64 t427, .int .i64 0]) ?_ 1 _ rfl; (with_reducible repeat (first | refine bN ?_ _ | refine bD ?_ | refine bA ?_ _)); refine blk_put (cs := #[.int .i64 0, .int .i64 0]) ?_ 0 _ rfl; (with_reducible repeat (first | refine bN ?_ _ | refine bD ?_ | refine bA ?_ _)); exact BK431.out⟩
                          have n3_ : Aside0 (Below w.heap.size w ((w39.setCell ⟨gb431, 0, none⟩ (.int .i64 t427)).setCell ⟨gb431, 1, none⟩ (.int .i64 t428))) := ⟨by repeat (first | (with_reducible first | exact HB.out | apply wA | apply wN | apply wD | refine below_set ?_ GE409.out | refine below_set ?_ GE415.out | refine below_set ?_ GE431.out) | exact HB.out)⟩
                          (try clear BK409)
                          (try clear BK415)
                          (try clear BK431)
                          (try clear HB)
                          generalize ((w39.setCell ⟨gb431, 0, none⟩ (.int .i64 t427)).setCell ⟨gb431, 1, none⟩ (.int .i64 t428)) = w49 at n0_ n1_ n2_ n3_ ⊢
                          have BK409 := n0_
                          have BK415 := n1_
                          have BK431 := n2_
                          have HB := n3_
                          clear n0_ n1_ n2_ n3_
                          have n0_ := ak (bD BK409.out)
                          have n1_ := ak (bD BK415.out)
                          have n2_ := ak (bD BK431.out)
                          have n3_ := ak (wD HB.out)
                          clear BK409 BK415 BK431 HB
                          have BK409 := n0_
                          have BK415 := n1_
                          have BK431 := n2_
                          have HB := n3_
                          clear n0_ n1_ n2_ n3_
                          have p432 : 0 ≤ (x8_2 : Int) := of_decide_eq_true (by first | (with_reducible assumption) | assumption)
                          have q432 : x8_2 < (l0.length : Int) := of_decide_eq_true (by first | (with_reducible assumption) | assumption)
                          obtain ⟨ad432, e432, hx432_0, hx432_1⟩ := at_T24 HR0.out x8_2 p432 q432
                          have hw432_1 := hx432_1
                          have hw432_0 := hx432_0
                          obtain rfl : ad420 = ad432 := (by injection e432)
                          replace hx432_0 := (HB.out.cell (World.block_lt_of_cell? w _ hx432_0)).trans hx432_0
                          replace hx432_1 := (HB.out.cell (World.block_lt_of_cell? w _ hx432_1)).trans hx432_1
                          replace p432 := eq_true p432
                          replace q432 := eq_true q432
                          refine start_ (n := 11) (S := fun w' => w'.cell? ⟨gb431, 0, none⟩ = some (.int .i64 t427) ∧ w'.cell? ⟨gb431, 1, none⟩ = some (.int .i64 t428) ∧ w'.cell? (ad420.add ((x8_2).toNat * 2)) = some (.int .i64 ((rd_T24 l0 x8_2).f0)) ∧ w'.cell? ⟨(ad420.add ((x8_2).toNat * 2)).block, (ad420.add ((x8_2).toNat * 2)).off + 1, none⟩ = some (.int .i64 ((rd_T24 l0 x8_2).f1))) (ds := []) q7_0 (by kernel_rfl) rfl rfl ⟨(blk_cell BK431.out 0).trans rfl, (blk_cell BK431.out 1).trans rfl, ((HB.out.cell (World.block_lt_of_cell? w _ hw432_0)).trans hw432_0), ((HB.out.cell (World.block_lt_of_cell? w _ hw432_1)).trans hw432_1)⟩ (fun hHeld => ?_); refine with_tabW mummerlaw03_SpansCover.tab19 mummerlaw03_SpansCover.bits19 (fun HT_ HW_ => ?_)
                          generalize w49.drew = w50 at BK409 BK415 BK431 HB hx432_0 hx432_1 hHeld ⊢
                          refine pure_ (i := 1) (N := some 102) (v := ?_) (a' := ?_) #[Z,Y,Z,Z,Z,Z,Z,Z,Z,Z,Z] rfl rfl (any_of HT_.out (by kernel_rfl)) (fun _ _ _ h => h) (Or.inl ⟨by rfl, ?_⟩) ?_ ?_; rotate_left; ·(intro w'; go_simp; with_reducible rfl)
                          rotate_left; ·(simp only [Act.put, sA_, s0_, s1_, i64_w, i32_w]; rfl)
                          refine pure_ (i := 2) (N := some 103) (v := ?_) (a' := ?_) #[Z,Y,Y,Z,Z,Z,Z,Z,Z,Z,Z] rfl rfl (any_of HT_.out (by kernel_rfl)) (fun _ _ _ h => h) (Or.inl ⟨by rfl, ?_⟩) ?_ ?_; rotate_left; ·(intro w'; go_simp; with_reducible rfl)
                          rotate_left; ·(simp only [Act.put, sA_, s0_, s1_, i64_w, i32_w]; rfl)
                          refine pure_ (i := 3) (N := some 104) (v := ?_) (a' := ?_) #[Z,Y,Y,Y,Z,Z,Z,Z,Z,Z,Z] rfl rfl (any_of HT_.out (by kernel_rfl)) (fun _ _ _ h => h) (Or.inl ⟨by rfl, ?_⟩) ?_ ?_; rotate_left; ·(intro w'; go_simp; with_reducible rfl)
                          rotate_left; ·(simp only [Act.put, sA_, s0_, s1_, i64_w, i32_w]; rfl)
                          refine take_ (i := 0) (N := some 101) (v := ?_) (a' := ?_) q7_4 rfl rfl (take_ofW HT_.out HW_.out (by kernel_rfl)) (fun _ _ _ h => h) (Or.inl ⟨by rfl, ?_⟩) hHeld ?_ ?_; rotate_left; ·(rintro w' ⟨s0, s1, s2, s3⟩; go_simp; with_reducible rfl)
                          rotate_left; ·(simp only [Act.put, sA_, s0_, s1_, i64_w, i32_w]; rfl)
                          refine take_ (i := 4) (N := some 105) (v := ?_) (a' := ?_) q7_5 rfl rfl (take_ofW HT_.out HW_.out (by kernel_rfl)) (fun _ _ _ h => h) (Or.inl ⟨by rfl, ?_⟩) hHeld ?_ ?_; rotate_left; ·(rintro w' ⟨s0, s1, s2, s3⟩; go_simp; with_reducible rfl)
                          rotate_left; ·(simp only [Act.put, sA_, s0_, s1_, i64_w, i32_w]; rfl)
                          refine one_ (i := 5) (N := some 106) q7_6 rfl rfl (one_of HT_.out (by kernel_rfl)) (by decide) (fun K hK => ?_)
                          refine goes_ Tryd.func20 (by kernel_rfl) rfl #[.agg #[.int .i64 t427, .int .i64 t428], .agg #[.int .i64 ((rd_T24 l0 x8_2).f0), .int .i64 ((rd_T24 l0 x8_2).f1)]] (by rfl) rfl rfl (by (try simp only [List.map_toArray, List.map_cons, List.map_nil]); first | done | rfl | (simp only [List.length_drop, List.length_take]; rfl)) ?_
                          with_reducible refine (spans_Within.calls kj24 t427 t428 ((rd_T24 l0 x8_2).f0) ((rd_T24 l0 x8_2).f1) true t434 _ A43.out).mono ?_
                          rintro e w51 ⟨rfl, hb⟩
                          refine ⟨_, rfl, ?_⟩
                          have n0_ := ak (blk_below (g := gb409) (o := .cells #[.int .i64 a1_0, .int .i64 a1_1] 24 (0, 0)) (by (with_reducible repeat (first | refine bN ?_ _ | refine bD ?_ | refine bA ?_ _)); exact BK409.out) hb)
                          have n1_ := ak (blk_below (g := gb415) (o := .cells #[.int .i64 t412, .int .i64 t413] 24 (0, 0)) (by (with_reducible repeat (first | refine bN ?_ _ | refine bD ?_ | refine bA ?_ _)); exact BK415.out) hb)
                          have n2_ := ak (blk_below (g := gb431) (o := .cells #[.int .i64 t427, .int .i64 t428] 24 (0, 0)) (by (with_reducible repeat (first | refine bN ?_ _ | refine bD ?_ | refine bA ?_ _)); exact BK431.out) hb)
                          have n3_ := ak (below_step (by repeat (first | (with_reducible first | exact HB.out | apply wA | apply wN | apply wD | refine below_set ?_ GE409.out | refine below_set ?_ GE415.out | refine below_set ?_ GE431.out) | exact HB.out)) hb)
                          clear BK409 BK415 BK431 HB
                          have BK409 := n0_
                          have BK415 := n1_
                          have BK431 := n2_
                          have HB := n3_
                          clear n0_ n1_ n2_ n3_
                          (try clear hb)
                          (try clear hb2)
                          (try clear hk)
                          (try clear hi)
                          refine hK.out _ _ ⟨(blk_cell BK431.out 0).trans rfl, (blk_cell BK431.out 1).trans rfl, ((HB.out.cell (World.block_lt_of_cell? w _ hw432_0)).trans hw432_0), ((HB.out.cell (World.block_lt_of_cell? w _ hw432_1)).trans hw432_1)⟩ (fun hHeld => ?_)
                          clear hK K
                          refine norm_ (a' := ?_) ?_ ?_
                          rotate_left
                          ·show Act.put _ (some 106) _ = _
                           simp only [Act.put, sA_, s0_, s1_, i64_w, i32_w]
                           rfl
                          refine pure_ (i := 6) (N := some 100) (v := ?_) (a' := ?_) q7_7 rfl rfl (any_of HT_.out (by kernel_rfl)) (fun _ _ _ h => h) (Or.inl ⟨by rfl, ?_⟩) ?_ ?_; rotate_left; ·(intro w'; go_simp; with_reducible rfl)
                          rotate_left; ·(simp only [Act.put, sA_, s0_, s1_, i64_w, i32_w]; rfl)
                          refine pure_ (i := 7) (N := some 107) (v := ?_) (a' := ?_) q7_8 rfl rfl (any_of HT_.out (by kernel_rfl)) (fun _ _ _ h => h) (Or.inl ⟨by rfl, ?_⟩) ?_ ?_; rotate_left; ·(intro w'; go_simp; with_reducible rfl)
                          rotate_left; ·(simp only [Act.put, sA_, s0_, s1_, i64_w, i32_w]; rfl)
                          refine pure_ (i := 8) (N := some 108) (v := ?_) (a' := ?_) q7_9 rfl rfl (any_of HT_.out (by kernel_rfl)) (fun _ _ _ h => h) (Or.inl ⟨by rfl, ?_⟩) ?_ ?_; rotate_left; ·(intro w'; go_simp; with_reducible rfl)
                          rotate_left; ·(simp only [Act.put, sA_, s0_, s1_, i64_w, i32_w]; rfl)
                          refine pure_ (i := 9) (N := some 16) (v := ?_) (a' := ?_) q7_10 rfl rfl (any_of HT_.out (by kernel_rfl)) (fun _ _ _ h => h) (Or.inl ⟨by rfl, ?_⟩) ?_ ?_; rotate_left; ·(intro w'; go_simp; with_reducible rfl)
                          rotate_left; ·(simp only [Act.put, sA_, s0_, s1_, i64_w, i32_w]; rfl)
                          refine pure_ (i := 10) (N := some 17) (v := ?_) (a' := ?_) q7_11 rfl rfl (any_of HT_.out (by kernel_rfl)) (fun _ _ _ h => h) (Or.inl ⟨by rfl, ?_⟩) ?_ ?_; rotate_left; ·(intro w'; go_simp; with_reducible rfl)
                          rotate_left; ·(simp only [Act.put, sA_, s0_, s1_, i64_w, i32_w]; rfl)
                          refine done_ (done_of HT_.out (by kernel_rfl)) ?_
                          have hnb52 := NB431_409.out
                          have hnc52 := NB409_431.out
                          have hnb53 := NB431_415.out
                          have hnc53 := NB415_431.out
                          have hcz54_0 : w51.cell? ⟨gb431, 0, none⟩ = some (.int .i64 t427) := (blk_cell BK431.out 0).trans rfl
                          have hcz54_1 : w51.cell? ⟨gb431, 1, none⟩ = some (.int .i64 t428) := (blk_cell BK431.out 1).trans rfl
                          have hfz54_0 := blk_frozen BK431.out 0
                          have hfz54_1 := blk_frozen BK431.out 1
                          have hnb55 := NB409_415.out
                          have hnc55 := NB415_409.out
                          have hcz56_0 : w51.cell? ⟨gb409, 0, none⟩ = some (.int .i64 a1_0) := (blk_cell BK409.out 0).trans rfl
                          have hcz56_1 : w51.cell? ⟨gb409, 1, none⟩ = some (.int .i64 a1_1) := (blk_cell BK409.out 1).trans rfl
                          have hfz56_0 := blk_frozen BK409.out 0
                          have hfz56_1 := blk_frozen BK409.out 1
                          try go_wp2_with (first | ((with_reducible refine gate_callee (f := 20) rfl ?_); refine goesL_ (some 112) rfl rfl Tryd.func20 (by kernel_rfl) rfl #[.agg #[.int .i64 t427, .int .i64 t428], .agg #[.int .i64 a1_0, .int .i64 a1_1]] rfl (by (try simp only [List.map_toArray, List.map_cons, List.map_nil]); first | done | rfl | (simp only [List.length_drop, List.length_take]; rfl)) ?_; (with_reducible refine (spans_Within.calls kj24 t427 t428 a1_0 a1_1 true t436 _ A44.out).mono ?_); rintro e w57 ⟨rfl, hb⟩; refine ⟨_, rfl, ?_⟩; have n0_ := ak (blk_below (g := gb409) (o := .cells #[.int .i64 a1_0, .int .i64 a1_1] 24 (0, 0)) (by (with_reducible repeat (first | refine bN ?_ _ | refine bD ?_ | refine bA ?_ _)); exact BK409.out) hb); have n1_ := ak (blk_below (g := gb415) (o := .cells #[.int .i64 t412, .int .i64 t413] 24 (0, 0)) (by (with_reducible repeat (first | refine bN ?_ _ | refine bD ?_ | refine bA ?_ _)); exact BK415.out) hb); have n2_ := ak (blk_below (g := gb431) (o := .cells #[.int .i64 t427, .int .i64 t428] 24 (0, 0)) (by (with_reducible repeat (first | refine bN ?_ _ | refine bD ?_ | refine bA ?_ _)); exact BK431.out) hb); have n3_ := ak (below_step (by repeat (first | (with_reducible first | exact HB.out | apply wA | apply wN | apply wD | refine below_set ?_ GE409.out | refine below_set ?_ GE415.out | refine below_set ?_ GE431.out) | exact HB.out)) hb); clear BK409; clear BK415; clear BK431; clear HB; have BK409 := n0_; have BK415 := n1_; have BK431 := n2_; have HB := n3_; clear n0_ n1_ n2_ n3_; (try clear hb); (try clear hb2); (try clear hk); (try clear hi)))
                          go_meet
                          case rel => exact ⟨_, H', ⟨by have := HJ2.out; have := HK2.out; have := HJ24.out; first | omega | exact Nat.le_refl _⟩, ⟨by (with_reducible repeat (first | refine bN ?_ _ | refine bD ?_ | refine bA ?_ _)); exact BK409.out⟩, ⟨by (with_reducible repeat (first | refine bN ?_ _ | refine bD ?_ | refine bA ?_ _)); exact BK415.out⟩, ⟨by (with_reducible repeat (first | refine bN ?_ _ | refine bD ?_ | refine bA ?_ _)); exact BK431.out⟩, ⟨by repeat (first | (with_reducible first | exact HB.out | apply wA | apply wN | apply wD | refine below_set ?_ GE409.out | refine below_set ?_ GE415.out | refine below_set ?_ GE431.out) | exact HB.out)⟩⟩
                         ·replace c48 := Bool.eq_false_iff.mpr c48
                          subst c48
                          have H1 : (some false) = some r := by rw [if_neg (show ¬ (false = true) by decide)] at H; exact H
                          clear H
                          have H := H1
                          clear H1
                          exact absurd ((Option.some.inj H).trans hrt.out) (by decide)
                        ·replace c47 := Bool.eq_false_iff.mpr c47
                         subst c47
                         have H1 : (some false) = some r := by rw [if_neg (show ¬ (false = true) by decide)] at H; exact H
                         clear H
                         have H := H1
                         clear H1
                         exact absurd ((Option.some.inj H).trans hrt.out) (by decide)
                       ·rw [if_neg c46] at H
                        have c46b0 : (t436 == 0) = false := beq_eq_false_iff_ne.mpr c46
                        have c46b1 : (t436 != 0) = true := bne_iff_ne.mpr c46
                        exact absurd ((Option.some.inj H).trans hrt.out) (by decide)
                      ·rw [if_neg c45] at H
                       have c45b0 : (t434 == 0) = false := beq_eq_false_iff_ne.mpr c45
                       have c45b1 : (t434 != 0) = true := bne_iff_ne.mpr c45
                       (first | rw [c45b0] | (simp only [i64_w, i32_w]; rw [c45b0]) | skip)
                       exact absurd ((Option.some.inj H).trans hrt.out) (by decide)
                     ·replace c42 := Bool.eq_false_iff.mpr c42
                      subst c42
                      have H1 : (mummerlaw03_SpansCover.j3 kj24 l0 x7_24 x8_2 false a1_0 a1_1 t412 t413 t427 t428) = some r := by rw [if_neg (show ¬ (false = true) by decide)] at H; exact H
                      clear H
                      have H := H1
                      clear H1
                      have H' := ak H
                      clear H
                      go_wp2
                      go_meet
                      case rel => exact ⟨_, H', ⟨by have := HJ2.out; have := HK2.out; have := HJ24.out; first | omega | exact Nat.le_refl _⟩, ⟨by (with_reducible repeat (first | refine bN ?_ _ | refine bD ?_ | refine bA ?_ _)); refine blk_far ?_ NB409_431.out _; (with_reducible repeat (first | refine bN ?_ _ | refine bD ?_ | refine bA ?_ _)); refine blk_far ?_ NB409_431.out _; (with_reducible repeat (first | refine bN ?_ _ | refine bD ?_ | refine bA ?_ _)); exact BK409.out⟩, ⟨by (with_reducible repeat (first | refine bN ?_ _ | refine bD ?_ | refine bA ?_ _)); refine blk_far ?_ NB415_431.out _; (with_reducible repeat (first | refine bN ?_ _ | refine bD ?_ | refine bA ?_ _)); refine blk_far ?_ NB415_431.out _; (with_reducible repeat (first | refine bN ?_ _ | refine bD ?_ | refine bA ?_ _)); exact BK415.out⟩, ⟨by (with_reducible repeat (first | refine bN ?_ _ | refine bD ?_ | refine bA ?_ _)); refine blk_put (cs := #[.int .i64 t427, .int .i64 0]) ?_ 1 _ rfl; (with_reducible repeat (first | refine bN ?_ _ | refine bD ?_ | refine bA ?_ _)); refine blk_put (cs := #[.int .i64 0, .int .i64 0]) ?_ 0 _ rfl; (with_reducible repeat (first | refine bN ?_ _ | refine bD ?_ | refine bA ?_ _)); exact BK431.out⟩, ⟨by repeat (first | (with_reducible first | exact HB.out | apply wA | apply wN | apply wD | refine below_set ?_ GE409.out | refine below_set ?_ GE415.out | refine below_set ?_ GE431.out) | exact HB.out)⟩⟩
                   case rest =>
                    as_aux_lemma =>
                     clear HC35
                     try clear c2
                     try clear p2
                     try clear c3
                     try clear c4
                     try clear p4
                     try clear q4
                     try clear hx4
                     try clear c5
                     try clear c20
                     try clear c21
                     try clear c31
                     try clear c31b0
                     try clear c32
                     try clear c32b0
                     try clear c34
                     try clear c34b0
                     try clear c34b1
                     try clear c42
                     try clear p42
                     try clear q42
                     try clear hx42
                     try clear p43
                     try clear q43
                     try clear hx43
                     try clear c45
                     try clear c45b0
                     try clear c45b1
                     try clear c46
                     try clear c46b0
                     try clear c46b1
                     try clear c47
                     try clear c48
                     try clear c52
                     try clear c53
                     try clear c55
                     try clear hcz54_0
                     try clear hcz54_1
                     try clear hcz56_0
                     try clear hcz56_1
                     try clear hfz54_0
                     try clear hfz54_1
                     try clear hfz56_0
                     try clear hfz56_1
                     try clear hx426_0
                     try clear hx426_1
                     try clear hx432_0
                     try clear hx432_1
                     try clear p426
                     try clear p432
                     try clear q426
                     try clear q432
                     obtain ⟨kq, HA, HJ34, BK409, BK415, BK431, HB⟩ := hcut
                     cases kq with
                     | zero => exact absurd HA.out (by simp [mummerlaw03_SpansCover.j3])
                     | succ kj34 =>
                      have H := HA.out
                      clear HA
                      simp only [mummerlaw03_SpansCover.j3] at H
                      have H' := ak H
                      clear H
                      go_wp2
                      go_loopg [20] kj34 (fun kq v20 w' => ∃ (x20_5 : Int), v20 = .int .i64 x20_5 ∧ Aside0 (mummerlaw03_SpansCover.l1 kq l0 x7_24 x8_2 t429 x20_5 a1_0 a1_1 t412 t413 t427 t428 = some r) ∧ Aside0 (kq ≤ kj34) ∧ Aside0 (w'.heap[gb409]? = some (.cells #[.int .i64 a1_0, .int .i64 a1_1] 24 (0, 0))) ∧ Aside0 (w'.heap[gb415]? = some (.cells #[.int .i64 t412, .int .i64 t413] 24 (0, 0))) ∧ Aside0 (w'.heap[gb431]? = some (.cells #[.int .i64 t427, .int .i64 t428] 24 (0, 0))) ∧ Aside0 (Below w.heap.size w w'))
                      case atStart => exact ⟨(0), (by first | rfl | (simp; done) | (simp [*]; done)), H', ⟨Nat.le_refl _⟩, ⟨by (with_reducible repeat (first | refine bN ?_ _ | refine bD ?_ | refine bA ?_ _)); exact BK409.out⟩, ⟨by (with_reducible repeat (first | refine bN ?_ _ | refine bD ?_ | refine bA ?_ _)); exact BK415.out⟩, ⟨by (with_reducible repeat (first | refine bN ?_ _ | refine bD ?_ | refine bA ?_ _)); exact BK431.out⟩, ⟨by repeat (first | (with_reducible first | exact HB.out | apply wA | apply wN | apply wD | refine below_set ?_ GE409.out | refine below_set ?_ GE415.out | refine below_set ?_ GE431.out) | exact HB.out)⟩⟩
                      case round =>
                       clear H'
                       try clear c2
                       try clear p2
                       try clear c3
                       try clear c4
                       try clear p4
                       try clear q4
                       try clear hx4
                       try clear c5
                       try clear c20
                       try clear c21
                       try clear c31
                       try clear c31b0
                       try clear c32
                       try clear c32b0
                       try clear c34
                       try clear c34b0
                       try clear c34b1
                       try clear c42
                       try clear p42
                       try clear q42
                       try clear hx42
                       try clear p43
                       try clear q43
                       try clear hx43
                       try clear c45
                       try clear c45b0
                       try clear c45b1
                       try clear c46
                       try clear c46b0
                       try clear c46b1
                       try clear c47
                       try clear c48
                       try clear c52
                       try clear c53
                       try clear c55
                       try clear hcz54_0
                       try clear hcz54_1
                       try clear hcz56_0
                       try clear hcz56_1
                       try clear hfz54_0
                       try clear hfz54_1
                       try clear hfz56_0
                       try clear hfz56_1
                       try clear hx426_0
                       try clear hx426_1
                       try clear hx432_0
                       try clear hx432_1
                       try clear p2
                       try clear p4
                       try clear p42
                       try clear p426
                       try clear p43
                       try clear p432
                       try clear q4
                       try clear q42
                       try clear q426
                       try clear q43
                       try clear q432
                       obtain ⟨x20_5, rfl, HA, HK5, BK409, BK415, BK431, HB⟩ := hrel
                       cases gk with
                       | zero => exact absurd HA.out (by simp [mummerlaw03_SpansCover.l1])
                       | succ k5 =>
                        have H := HA.out
                        clear HA
                        simp only [mummerlaw03_SpansCover.l1] at H
                        by_cases c58 : x20_5 < (l0.length : Int)
                        ·rw [if_pos c58] at H
                         have c58b0 : decide (x20_5 < (l0.length : Int)) = true := decide_eq_true c58
                         clear c58
                         by_cases c59 : 0 ≤ x20_5
                         ·rw [if_pos c59] at H
                          have c59b0 : decide (0 ≤ x20_5) = true := decide_eq_true c59
                          clear c59
                          by_cases c60 : 0 ≤ x8_2
                          ·rw [if_pos c60] at H
                           have c60b0 : decide (0 ≤ x8_2) = true := decide_eq_true c60
                           clear c60
                           by_cases c61 : x8_2 < (l0.length : Int)
                           ·rw [if_pos c61] at H
                            have c61b0 : decide (x8_2 < (l0.length : Int)) = true := decide_eq_true c61
                            clear c61
                            replace H := Option.bind_eq_some_iff.mp H
                            obtain ⟨⟨t439, t440⟩, A620, H⟩ := H
                            replace H : ((spans_Within.f k5 ((rd_T24 l0 x20_5).f0) ((rd_T24 l0 x20_5).f1) a1_0 a1_1).bind fun bt442 => (if t429 = true then ((spans_Within.f k5 ((rd_T24 l0 x20_5).f0) ((rd_T24 l0 x20_5).f1) t427 t428).bind fun bt445 => (if t440 = 0 then (if bt442.2 = 0 then (if t439 = true then (if bt442.1 = true then (if bt445.1 = true then (mummerlaw03_SpansCover.l1 k5 l0 x7_24 x8_2 t429 (wrap64 (x20_5 + 1)) a1_0 a1_1 t412 t413 t427 t428) else (some false)) else (mummerlaw03_SpansCover.l1 k5 l0 x7_24 x8_2 t429 (wrap64 (x20_5 + 1)) a1_0 a1_1 t412 t413 t427 t428)) else (mummerlaw03_SpansCover.l1 k5 l0 x7_24 x8_2 t429 (wrap64 (x20_5 + 1)) a1_0 a1_1 t412 t413 t427 t428)) else (some false)) else (some false))) else (if t440 = 0 then (if bt442.2 = 0 then (if t439 = true then (if bt442.1 = true then (some false) else (mummerlaw03_SpansCover.l1 k5 l0 x7_24 x8_2 t429 (wrap64 (x20_5 + 1)) a1_0 a1_1 t412 t413 t427 t428)) else (mummerlaw03_SpansCover.l1 k5 l0 x7_24 x8_2 t429 (wrap64 (x20_5 + 1)) a1_0 a1_1 t412 t413 t427 t428)) else (some false)) else (some false)))) = some r := H
                            have A62 := ak A620
                            clear A620
                            replace H := Option.bind_eq_some_iff.mp H
                            obtain ⟨⟨t442, t443⟩, A630, H⟩ := H
                            replace H : (if t429 = true then ((spans_Within.f k5 ((rd_T24 l0 x20_5).f0) ((rd_T24 l0 x20_5).f1) t427 t428).bind fun bt445 => (if t440 = 0 then (if t443 = 0 then (if t439 = true then (if t442 = true then (if bt445.1 = true then (mummerlaw03_SpansCover.l1 k5 l0 x7_24 x8_2 t429 (wrap64 (x20_5 + 1)) a1_0 a1_1 t412 t413 t427 t428) else (some false)) else (mummerlaw03_SpansCover.l1 k5 l0 x7_24 x8_2 t429 (wrap64 (x20_5 + 1)) a1_0 a1_1 t412 t413 t427 t428)) else (mummerlaw03_SpansCover.l1 k5 l0 x7_24 x8_2 t429 (wrap64 (x20_5 + 1)) a1_0 a1_1 t412 t413 t427 t428)) else (some false)) else (some false))) else (if t440 = 0 then (if t443 = 0 then (if t439 = true then (if t442 = true then (some false) else (mummerlaw03_SpansCover.l1 k5 l0 x7_24 x8_2 t429 (wrap64 (x20_5 + 1)) a1_0 a1_1 t412 t413 t427 t428)) else (mummerlaw03_SpansCover.l1 k5 l0 x7_24 x8_2 t429 (wrap64 (x20_5 + 1)) a1_0 a1_1 t412 t413 t427 t428)) else (some false)) else (some false))) = some r := H
                            have A63 := ak A630
                            clear A630
                            by_cases c64 : t429 = true
                            ·subst c64
                             have H1 : ((spans_Within.f k5 ((rd_T24 l0 x20_5).f0) ((rd_T24 l0 x20_5).f1) t427 t428).bind fun bt445 => (if t440 = 0 then (if t443 = 0 then (if t439 = true then (if t442 = true then (if bt445.1 = true then (mummerlaw03_SpansCover.l1 k5 l0 x7_24 x8_2 true (wrap64 (x20_5 + 1)) a1_0 a1_1 t412 t413 t427 t428) else (some false)) else (mummerlaw03_SpansCover.l1 k5 l0 x7_24 x8_2 true (wrap64 (x20_5 + 1)) a1_0 a1_1 t412 t413 t427 t428)) else (mummerlaw03_SpansCover.l1 k5 l0 x7_24 x8_2 true (wrap64 (x20_5 + 1)) a1_0 a1_1 t412 t413 t427 t428)) else (some false)) else (some false))) = some r := by rw [if_pos rfl] at H; exact H
                             clear H
                             have H := H1
                             clear H1
                             replace H := Option.bind_eq_some_iff.mp H
                             obtain ⟨⟨t445, t446⟩, A650, H⟩ := H
                             replace H : (if t440 = 0 then (if t443 = 0 then (if t439 = true then (if t442 = true then (if t445 = true then (mummerlaw03_SpansCover.l1 k5 l0 x7_24 x8_2 true (wrap64 (x20_5 + 1)) a1_0 a1_1 t412 t413 t427 t428) else (some false)) else (mummerlaw03_SpansCover.l1 k5 l0 x7_24 x8_2 true (wrap64 (x20_5 + 1)) a1_0 a1_1 t412 t413 t427 t428)) else (mummerlaw03_SpansCover.l1 k5 l0 x7_24 x8_2 true (wrap64 (x20_5 + 1)) a1_0 a1_1 t412 t413 t427 t428)) else (some false)) else (some false)) = some r := H
                             have A65 := ak A650
                             clear A650
                             by_cases c66 : t440 = 0
                             ·rw [if_pos c66] at H
                              have c66b0 : (t440 == 0) = true := beq_iff_eq.mpr c66
                              have c66b1 : (t440 != 0) = false := bne_eq_false_iff_eq.mpr c66
                              clear c66
                              by_cases c67 : t443 = 0
                              ·rw [if_pos c67] at H
                               have c67b0 : (t443 == 0) = true := beq_iff_eq.mpr c67
                               have c67b1 : (t443 != 0) = false := bne_eq_false_iff_eq.mpr c67
                               clear c67
                               by_cases c68 : t439 = true
                               ·subst c68
                                have H1 : (if t442 = true then (if t445 = true then (mummerlaw03_SpansCover.l1 k5 l0 x7_24 x8_2 true (wrap64 (x20_5 + 1)) a1_0 a1_1 t412 t413 t427 t428) else (some false)) else (mummerlaw03_SpansCover.l1 k5 l0 x7_24 x8_2 true (wrap64 (x20_5 + 1)) a1_0 a1_1 t412 t413 t427 t428)) = some r := by rw [if_pos rfl] at H; exact H
                                clear H
                                have H := H1
                                clear H1
                                by_cases c69 : t442 = true
                                ·subst c69
                                 have H1 : (if t445 = true then (mummerlaw03_SpansCover.l1 k5 l0 x7_24 x8_2 true (wrap64 (x20_5 + 1)) a1_0 a1_1 t412 t413 t427 t428) else (some false)) = some r := by rw [if_pos rfl] at H; exact H
                                 clear H
                                 have H := H1
                                 clear H1
                                 by_cases c70 : t445 = true
                                 ·subst c70
                                  have H1 : (mummerlaw03_SpansCover.l1 k5 l0 x7_24 x8_2 true (wrap64 (x20_5 + 1)) a1_0 a1_1 t412 t413 t427 t428) = some r := by rw [if_pos rfl] at H; exact H
                                  clear H
                                  have H := H1
                                  clear H1
                                  have H' := ak H
                                  clear H
                                  try go_wp2
                                  have n0_ := ak (bD BK409.out)
                                  have n1_ := ak (bD BK415.out)
                                  have n2_ := ak (bD BK431.out)
                                  have n3_ := ak (wD HB.out)
                                  clear BK409 BK415 BK431 HB
                                  have BK409 := n0_
                                  have BK415 := n1_
                                  have BK431 := n2_
                                  have HB := n3_
                                  clear n0_ n1_ n2_ n3_
                                  have p437 : 0 ≤ (x20_5 : Int) := of_decide_eq_true (by first | (with_reducible assumption) | assumption)
                                  have q437 : x20_5 < (l0.length : Int) := of_decide_eq_true (by first | (with_reducible assumption) | assumption)
                                  obtain ⟨ad437, e437, hx437_0, hx437_1⟩ := at_T24 HR0.out x20_5 p437 q437
                                  have hw437_1 := hx437_1
                                  have hw437_0 := hx437_0
                                  obtain rfl : ad420 = ad437 := (by injection e437)
                                  replace hx437_0 := (HB.out.cell (World.block_lt_of_cell? w _ hx437_0)).trans hx437_0
                                  replace hx437_1 := (HB.out.cell (World.block_lt_of_cell? w _ hx437_1)).trans hx437_1
                                  replace p437 := eq_true p437
                                  replace q437 := eq_true q437
                                  have p438 : 0 ≤ (x8_2 : Int) := of_decide_eq_true (by first | (with_reducible assumption) | assumption)
                                  have q438 : x8_2 < (l0.length : Int) := of_decide_eq_true (by first | (with_reducible assumption) | assumption)
                                  obtain ⟨ad438, e438, hx438_0, hx438_1⟩ := at_T24 HR0.out x8_2 p438 q438
                                  have hw438_1 := hx438_1
                                  have hw438_0 := hx438_0
                                  obtain rfl : ad420 = ad438 := (by injection e438)
                                  replace hx438_0 := (HB.out.cell (World.block_lt_of_cell? w _ hx438_0)).trans hx438_0
                                  replace hx438_1 := (HB.out.cell (World.block_lt_of_cell? w _ hx438_1)).trans hx438_1
                                  replace p438 := eq_true p438
                                  replace q438 := eq_true q438
                                  refine start_ (n := 14) (S := fun w' => w'.cell? (ad420.add ((x20_5).toNat * 2)) = some (.int .i64 ((rd_T24 l0 x20_5).f0)) ∧ w'.cell? ⟨(ad420.add ((x20_5).toNat * 2)).block, (ad420.add ((x20_5).toNat * 2)).off + 1, none⟩ = some (.int .i64 ((rd_T24 l0 x20_5).f1)) ∧ w'.cell? (ad420.add ((x8_2).toNat * 2)) = some (.int .i64 ((rd_T24 l0 x8_2).f0)) ∧ w'.cell? ⟨(ad420.add ((x8_2).toNat * 2)).block, (ad420.add ((x8_2).toNat * 2)).off + 1, none⟩ = some (.int .i64 ((rd_T24 l0 x8_2).f1))) (ds := []) q7_12 (by kernel_rfl) rfl rfl ⟨((HB.out.cell (World.block_lt_of_cell? w _ hw437_0)).trans hw437_0), ((HB.out.cell (World.block_lt_of_cell? w _ hw437_1)).trans hw437_1), ((HB.out.cell (World.block_lt_of_cell? w _ hw438_0)).trans hw438_0), ((HB.out.cell (World.block_lt_of_cell? w _ hw438_1)).trans hw438_1)⟩ (fun hHeld => ?_); refine with_tabW mummerlaw03_SpansCover.tab26 mummerlaw03_SpansCover.bits26 (fun HT_ HW_ => ?_)
                                  generalize wr.drew = w71 at BK409 BK415 BK431 HB hx437_0 hx437_1 hx438_0 hx438_1 hHeld ⊢
                                  refine pure_ (i := 0) (N := some 136) (v := ?_) (a' := ?_) q7_13 rfl rfl (any_of HT_.out (by kernel_rfl)) (fun _ _ _ h => h) (Or.inl ⟨by rfl, ?_⟩) ?_ ?_; rotate_left; ·(intro w'; go_simp; with_reducible rfl)
                                  rotate_left; ·(simp only [Act.put, sA_, s0_, s1_, i64_w, i32_w]; rfl)
                                  refine pure_ (i := 1) (N := some 137) (v := ?_) (a' := ?_) q7_14 rfl rfl (any_of HT_.out (by kernel_rfl)) (fun _ _ _ h => h) (Or.inl ⟨by rfl, ?_⟩) ?_ ?_; rotate_left; ·(intro w'; go_simp; with_reducible rfl)
                                  rotate_left; ·(simp only [Act.put, sA_, s0_, s1_, i64_w, i32_w]; rfl)
                                  refine pure_ (i := 2) (N := some 138) (v := ?_) (a' := ?_) q7_15 rfl rfl (any_of HT_.out (by kernel_rfl)) (fun _ _ _ h => h) (Or.inl ⟨by rfl, ?_⟩) ?_ ?_; rotate_left; ·(intro w'; go_simp; with_reducible rfl)
                                  rotate_left; ·(simp only [Act.put, sA_, s0_, s1_, i64_w, i32_w]; rfl)
                                  refine pure_ (i := 4) (N := some 140) (v := ?_) (a' := ?_) q7_24 rfl rfl (any_of HT_.out (by kernel_rfl)) (fun _ _ _ h => h) (Or.inl ⟨by rfl, ?_⟩) ?_ ?_; rotate_left; ·(intro w'; go_simp; with_reducible rfl)
                                  rotate_left; ·(simp only [Act.put, sA_, s0_, s1_, i64_w, i32_w]; rfl)
                                  refine pure_ (i := 5) (N := some 141) (v := ?_) (a' := ?_) q7_25 rfl rfl (any_of HT_.out (by kernel_rfl)) (fun _ _ _ h => h) (Or.inl ⟨by rfl, ?_⟩) ?_ ?_; rotate_left; ·(intro w'; go_simp; with_reducible rfl)
                                  rotate_left; ·(simp only [Act.put, sA_, s0_, s1_, i64_w, i32_w]; rfl)
                                  refine pure_ (i := 6) (N := some 142) (v := ?_) (a' := ?_) q7_26 rfl rfl (any_of HT_.out (by kernel_rfl)) (fun _ _ _ h => h) (Or.inl ⟨by rfl, ?_⟩) ?_ ?_; rotate_left; ·(intro w'; go_simp; with_reducible rfl)
                                  rotate_left; ·(simp only [Act.put, sA_, s0_, s1_, i64_w, i32_w]; rfl)
                                  refine take_ (i := 3) (N := some 139) (v := ?_) (a' := ?_) q7_17 rfl rfl (take_ofW HT_.out HW_.out (by kernel_rfl)) (fun _ _ _ h => h) (Or.inl ⟨by rfl, ?_⟩) hHeld ?_ ?_; rotate_left; ·(rintro w' ⟨s0, s1, s2, s3⟩; go_simp; with_reducible rfl)
                                  rotate_left; ·(simp only [Act.put, sA_, s0_, s1_, i64_w, i32_w]; rfl)
                                  refine take_ (i := 7) (N := some 143) (v := ?_) (a' := ?_) q7_18 rfl rfl (take_ofW HT_.out HW_.out (by kernel_rfl)) (fun _ _ _ h => h) (Or.inl ⟨by rfl, ?_⟩) hHeld ?_ ?_; rotate_left; ·(rintro w' ⟨s0, s1, s2, s3⟩; go_simp; with_reducible rfl)
                                  rotate_left; ·(simp only [Act.put, sA_, s0_, s1_, i64_w, i32_w]; rfl)
                                  refine one_ (i := 8) (N := some 144) q7_19 rfl rfl (one_of HT_.out (by kernel_rfl)) (by decide) (fun K hK => ?_)
                                  refine goes_ Tryd.func20 (by kernel_rfl) rfl #[.agg #[.int .i64 ((rd_T24 l0 x20_5).f0), .int .i64 ((rd_T24 l0 x20_5).f1)], .agg #[.int .i64 ((rd_T24 l0 x8_2).f0), .int .i64 ((rd_T24 l0 x8_2).f1)]] (by rfl) rfl rfl (by (try simp only [List.map_toArray, List.map_cons, List.map_nil]); first | done | rfl | (simp only [List.length_drop, List.length_take]; rfl)) ?_
                                  with_reducible refine (spans_Within.calls k5 ((rd_T24 l0 x20_5).f0) ((rd_T24 l0 x20_5).f1) ((rd_T24 l0 x8_2).f0) ((rd_T24 l0 x8_2).f1) true t440 _ A62.out).mono ?_
                                  rintro e w72 ⟨rfl, hb⟩
                                  refine ⟨_, rfl, ?_⟩
                                  have n0_ := ak (blk_below (g := gb409) (o := .cells #[.int .i64 a1_0, .int .i64 a1_1] 24 (0, 0)) (by (with_reducible repeat (first | refine bN ?_ _ | refine bD ?_ | refine bA ?_ _)); exact BK409.out) hb)
                                  have n1_ := ak (blk_below (g := gb415) (o := .cells #[.int .i64 t412, .int .i64 t413] 24 (0, 0)) (by (with_reducible repeat (first | refine bN ?_ _ | refine bD ?_ | refine bA ?_ _)); exact BK415.out) hb)
                                  have n2_ := ak (blk_below (g := gb431) (o := .cells #[.int .i64 t427, .int .i64 t428] 24 (0, 0)) (by (with_reducible repeat (first | refine bN ?_ _ | refine bD ?_ | refine bA ?_ _)); exact BK431.out) hb)
                                  have n3_ := ak (below_step (by repeat (first | (with_reducible first | exact HB.out | apply wA | apply wN | apply wD | refine below_set ?_ GE409.out | refine below_set ?_ GE415.out | refine below_set ?_ GE431.out) | exact HB.out)) hb)
                                  clear BK409 BK415 BK431 HB
                                  have BK409 := n0_
                                  have BK415 := n1_
                                  have BK431 := n2_
                                  have HB := n3_
                                  clear n0_ n1_ n2_ n3_
                                  (try clear hb)
                                  (try clear hb2)
                                  (try clear hk)
                                  (try clear hi)
                                  refine hK.out _ _ ⟨((HB.out.cell (World.block_lt_of_cell? w _ hw437_0)).trans hw437_0), ((HB.out.cell (World.block_lt_of_cell? w _ hw437_1)).trans hw437_1), ((HB.out.cell (World.block_lt_of_cell? w _ hw438_0)).trans hw438_0), ((HB.out.cell (World.block_lt_of_cell? w _ hw438_1)).trans hw438_1)⟩ (fun hHeld => ?_)
                                  clear hK K
                                  refine norm_ (a' := ?_) ?_ ?_
                                  rotate_left
                                  ·show Act.put _ (some 144) _ = _
                                   simp only [Act.put, sA_, s0_, s1_, i64_w, i32_w]
                                   rfl
                                  refine pure_ (i := 9) (N := some 135) (v := ?_) (a' := ?_) q7_20 rfl rfl (any_of HT_.out (by kernel_rfl)) (fun _ _ _ h => h) (Or.inl ⟨by rfl, ?_⟩) ?_ ?_; rotate_left; ·(intro w'; go_simp; with_reducible rfl)
                                  rotate_left; ·(simp only [Act.put, sA_, s0_, s1_, i64_w, i32_w]; rfl)
                                  refine pure_ (i := 10) (N := some 145) (v := ?_) (a' := ?_) q7_16 rfl rfl (any_of HT_.out (by kernel_rfl)) (fun _ _ _ h => h) (Or.inl ⟨by rfl, ?_⟩) ?_ ?_; rotate_left; ·(intro w'; go_simp; with_reducible rfl)
                                  rotate_left; ·(simp only [Act.put, sA_, s0_, s1_, i64_w, i32_w]; rfl)
                                  refine pure_ (i := 11) (N := some 146) (v := ?_) (a' := ?_) q7_21 rfl rfl (any_of HT_.out (by kernel_rfl)) (fun _ _ _ h => h) (Or.inl ⟨by rfl, ?_⟩) ?_ ?_; rotate_left; ·(intro w'; go_simp; with_reducible rfl)
                                  rotate_left; ·(simp only [Act.put, sA_, s0_, s1_, i64_w, i32_w]; rfl)
                                  refine pure_ (i := 12) (N := some 21) (v := ?_) (a' := ?_) q7_22 rfl rfl (any_of HT_.out (by kernel_rfl)) (fun _ _ _ h => h) (Or.inl ⟨by rfl, ?_⟩) ?_ ?_; rotate_left; ·(intro w'; go_simp; with_reducible rfl)
                                  rotate_left; ·(simp only [Act.put, sA_, s0_, s1_, i64_w, i32_w]; rfl)
                                  refine pure_ (i := 13) (N := some 22) (v := ?_) (a' := ?_) q7_23 rfl rfl (any_of HT_.out (by kernel_rfl)) (fun _ _ _ h => h) (Or.inl ⟨by rfl, ?_⟩) ?_ ?_; rotate_left; ·(intro w'; go_simp; with_reducible rfl)
                                  rotate_left; ·(simp only [Act.put, sA_, s0_, s1_, i64_w, i32_w]; rfl)
                                  refine done_ (done_of HT_.out (by kernel_rfl)) ?_
                                  try go_wp2
                                  have n0_ := ak (bD BK409.out)
                                  have n1_ := ak (bD BK415.out)
                                  have n2_ := ak (bD BK431.out)
                                  have n3_ := ak (wD HB.out)
                                  clear BK409 BK415 BK431 HB
                                  have BK409 := n0_
                                  have BK415 := n1_
                                  have BK431 := n2_
                                  have HB := n3_
                                  clear n0_ n1_ n2_ n3_
                                  have p441 : 0 ≤ (x20_5 : Int) := of_decide_eq_true (by first | (with_reducible assumption) | assumption)
                                  have q441 : x20_5 < (l0.length : Int) := of_decide_eq_true (by first | (with_reducible assumption) | assumption)
                                  obtain ⟨ad441, e441, hx441_0, hx441_1⟩ := at_T24 HR0.out x20_5 p441 q441
                                  have hw441_1 := hx441_1
                                  have hw441_0 := hx441_0
                                  obtain rfl : ad420 = ad441 := (by injection e441)
                                  replace hx441_0 := (HB.out.cell (World.block_lt_of_cell? w _ hx441_0)).trans hx441_0
                                  replace hx441_1 := (HB.out.cell (World.block_lt_of_cell? w _ hx441_1)).trans hx441_1
                                  replace p441 := eq_true p441
                                  replace q441 := eq_true q441
                                  refine start_ (n := 11) (S := fun w' => w'.cell? ⟨gb409, 0, none⟩ = some (.int .i64 a1_0) ∧ w'.cell? ⟨gb409, 1, none⟩ = some (.int .i64 a1_1) ∧ w'.cell? (ad420.add ((x20_5).toNat * 2)) = some (.int .i64 ((rd_T24 l0 x20_5).f0)) ∧ w'.cell? ⟨(ad420.add ((x20_5).toNat * 2)).block, (ad420.add ((x20_5).toNat * 2)).off + 1, none⟩ = some (.int .i64 ((rd_T24 l0 x20_5).f1))) (ds := []) q7_0 (by kernel_rfl) rfl rfl ⟨(blk_cell BK409.out 0).trans rfl, (blk_cell BK409.out 1).trans rfl, ((HB.out.cell (World.block_lt_of_cell? w _ hw441_0)).trans hw441_0), ((HB.out.cell (World.block_lt_of_cell? w _ hw441_1)).trans hw441_1)⟩ (fun hHeld => ?_); refine with_tabW mummerlaw03_SpansCover.tab27 mummerlaw03_SpansCover.bits27 (fun HT_ HW_ => ?_)
                                  generalize w72.drew = w73 at BK409 BK415 BK431 HB hx441_0 hx441_1 hHeld ⊢
                                  refine pure_ (i := 0) (N := some 148) (v := ?_) (a' := ?_) q7_1 rfl rfl (any_of HT_.out (by kernel_rfl)) (fun _ _ _ h => h) (Or.inl ⟨by rfl, ?_⟩) ?_ ?_; rotate_left; ·(intro w'; go_simp; with_reducible rfl)
                                  rotate_left; ·(simp only [Act.put, sA_, s0_, s1_, i64_w, i32_w]; rfl)
                                  refine pure_ (i := 1) (N := some 149) (v := ?_) (a' := ?_) q7_2 rfl rfl (any_of HT_.out (by kernel_rfl)) (fun _ _ _ h => h) (Or.inl ⟨by rfl, ?_⟩) ?_ ?_; rotate_left; ·(intro w'; go_simp; with_reducible rfl)
                                  rotate_left; ·(simp only [Act.put, sA_, s0_, s1_, i64_w, i32_w]; rfl)
                                  refine pure_ (i := 2) (N := some 150) (v := ?_) (a' := ?_) q7_3 rfl rfl (any_of HT_.out (by kernel_rfl)) (fun _ _ _ h => h) (Or.inl ⟨by rfl, ?_⟩) ?_ ?_; rotate_left; ·(intro w'; go_simp; with_reducible rfl)
                                  rotate_left; ·(simp only [Act.put, sA_, s0_, s1_, i64_w, i32_w]; rfl)
                                  refine take_ (i := 3) (N := some 151) (v := ?_) (a' := ?_) q7_4 rfl rfl (take_ofW HT_.out HW_.out (by kernel_rfl)) (fun _ _ _ h => h) (Or.inl ⟨by rfl, ?_⟩) hHeld ?_ ?_; rotate_left; ·(rintro w' ⟨s0, s1, s2, s3⟩; go_simp; with_reducible rfl)
                                  rotate_left; ·(simp only [Act.put, sA_, s0_, s1_, i64_w, i32_w]; rfl)
                                  refine take_ (i := 4) (N := some 152) (v := ?_) (a' := ?_) q7_5 rfl rfl (take_ofW HT_.out HW_.out (by kernel_rfl)) (fun _ _ _ h => h) (Or.inl ⟨by rfl, ?_⟩) hHeld ?_ ?_; rotate_left; ·(rintro w' ⟨s0, s1, s2, s3⟩; go_simp; with_reducible rfl)
                                  rotate_left; ·(simp only [Act.put, sA_, s0_, s1_, i64_w, i32_w]; rfl)
                                  refine one_ (i := 5) (N := some 153) q7_6 rfl rfl (one_of HT_.out (by kernel_rfl)) (by decide) (fun K hK => ?_)
                                  refine goes_ Tryd.func20 (by kernel_rfl) rfl #[.agg #[.int .i64 ((rd_T24 l0 x20_5).f0), .int .i64 ((rd_T24 l0 x20_5).f1)], .agg #[.int .i64 a1_0, .int .i64 a1_1]] (by rfl) rfl rfl (by (try simp only [List.map_toArray, List.map_cons, List.map_nil]); first | done | rfl | (simp only [List.length_drop, List.length_take]; rfl)) ?_
                                  with_reducible refine (spans_Within.calls k5 ((rd_T24 l0 x20_5).f0) ((rd_T24 l0 x20_5).f1) a1_0 a1_1 true t443 _ A63.out).mono ?_
                                  rintro e w74 ⟨rfl, hb⟩
                                  refine ⟨_, rfl, ?_⟩
                                  have n0_ := ak (blk_below (g := gb409) (o := .cells #[.int .i64 a1_0, .int .i64 a1_1] 24 (0, 0)) (by (with_reducible repeat (first | refine bN ?_ _ | refine bD ?_ | refine bA ?_ _)); exact BK409.out) hb)
                                  have n1_ := ak (blk_below (g := gb415) (o := .cells #[.int .i64 t412, .int .i64 t413] 24 (0, 0)) (by (with_reducible repeat (first | refine bN ?_ _ | refine bD ?_ | refine bA ?_ _)); exact BK415.out) hb)
                                  have n2_ := ak (blk_below (g := gb431) (o := .cells #[.int .i64 t427, .int .i64 t428] 24 (0, 0)) (by (with_reducible repeat (first | refine bN ?_ _ | refine bD ?_ | refine bA ?_ _)); exact BK431.out) hb)
                                  have n3_ := ak (below_step (by repeat (first | (with_reducible first | exact HB.out | apply wA | apply wN | apply wD | refine below_set ?_ GE409.out | refine below_set ?_ GE415.out | refine below_set ?_ GE431.out) | exact HB.out)) hb)
                                  clear BK409 BK415 BK431 HB
                                  have BK409 := n0_
                                  have BK415 := n1_
                                  have BK431 := n2_
                                  have HB := n3_
                                  clear n0_ n1_ n2_ n3_
                                  (try clear hb)
                                  (try clear hb2)
                                  (try clear hk)
                                  (try clear hi)
                                  refine hK.out _ _ ⟨(blk_cell BK409.out 0).trans rfl, (blk_cell BK409.out 1).trans rfl, ((HB.out.cell (World.block_lt_of_cell? w _ hw441_0)).trans hw441_0), ((HB.out.cell (World.block_lt_of_cell? w _ hw441_1)).trans hw441_1)⟩ (fun hHeld => ?_)
                                  clear hK K
                                  refine norm_ (a' := ?_) ?_ ?_
                                  rotate_left
                                  ·show Act.put _ (some 153) _ = _
                                   simp only [Act.put, sA_, s0_, s1_, i64_w, i32_w]
                                   rfl
                                  refine pure_ (i := 6) (N := some 147) (v := ?_) (a' := ?_) q7_7 rfl rfl (any_of HT_.out (by kernel_rfl)) (fun _ _ _ h => h) (Or.inl ⟨by rfl, ?_⟩) ?_ ?_; rotate_left; ·(intro w'; go_simp; with_reducible rfl)
                                  rotate_left; ·(simp only [Act.put, sA_, s0_, s1_, i64_w, i32_w]; rfl)
                                  refine pure_ (i := 7) (N := some 154) (v := ?_) (a' := ?_) q7_8 rfl rfl (any_of HT_.out (by kernel_rfl)) (fun _ _ _ h => h) (Or.inl ⟨by rfl, ?_⟩) ?_ ?_; rotate_left; ·(intro w'; go_simp; with_reducible rfl)
                                  rotate_left; ·(simp only [Act.put, sA_, s0_, s1_, i64_w, i32_w]; rfl)
                                  refine pure_ (i := 8) (N := some 155) (v := ?_) (a' := ?_) q7_9 rfl rfl (any_of HT_.out (by kernel_rfl)) (fun _ _ _ h => h) (Or.inl ⟨by rfl, ?_⟩) ?_ ?_; rotate_left; ·(intro w'; go_simp; with_reducible rfl)
                                  rotate_left; ·(simp only [Act.put, sA_, s0_, s1_, i64_w, i32_w]; rfl)
                                  refine pure_ (i := 9) (N := some 23) (v := ?_) (a' := ?_) q7_10 rfl rfl (any_of HT_.out (by kernel_rfl)) (fun _ _ _ h => h) (Or.inl ⟨by rfl, ?_⟩) ?_ ?_; rotate_left; ·(intro w'; go_simp; with_reducible rfl)
                                  rotate_left; ·(simp only [Act.put, sA_, s0_, s1_, i64_w, i32_w]; rfl)
                                  refine pure_ (i := 10) (N := some 24) (v := ?_) (a' := ?_) q7_11 rfl rfl (any_of HT_.out (by kernel_rfl)) (fun _ _ _ h => h) (Or.inl ⟨by rfl, ?_⟩) ?_ ?_; rotate_left; ·(intro w'; go_simp; with_reducible rfl)
                                  rotate_left; ·(simp only [Act.put, sA_, s0_, s1_, i64_w, i32_w]; rfl)
                                  refine done_ (done_of HT_.out (by kernel_rfl)) ?_
                                  try go_wp2
                                  have n0_ := ak (bD BK409.out)
                                  have n1_ := ak (bD BK415.out)
                                  have n2_ := ak (bD BK431.out)
                                  have n3_ := ak (wD HB.out)
                                  clear BK409 BK415 BK431 HB
                                  have BK409 := n0_
                                  have BK415 := n1_
                                  have BK431 := n2_
                                  have HB := n3_
                                  clear n0_ n1_ n2_ n3_
                                  have p444 : 0 ≤ (x20_5 : Int) := of_decide_eq_true (by first | (with_reducible assumption) | assumption)
                                  have q444 : x20_5 < (l0.length : Int) := of_decide_eq_true (by first | (with_reducible assumption) | assumption)
                                  obtain ⟨ad444, e444, hx444_0, hx444_1⟩ := at_T24 HR0.out x20_5 p444 q444
                                  have hw444_1 := hx444_1
                                  have hw444_0 := hx444_0
                                  obtain rfl : ad420 = ad444 := (by injection e444)
                                  replace hx444_0 := (HB.out.cell (World.block_lt_of_cell? w _ hx444_0)).trans hx444_0
                                  replace hx444_1 := (HB.out.cell (World.block_lt_of_cell? w _ hx444_1)).trans hx444_1
                                  replace p444 := eq_true p444
                                  replace q444 := eq_true q444
                                  refine start_ (n := 10) (S := fun w' => w'.cell? ⟨gb431, 0, none⟩ = some (.int .i64 t427) ∧ w'.cell? ⟨gb431, 1, none⟩ = some (.int .i64 t428) ∧ w'.cell? (ad420.add ((x20_5).toNat * 2)) = some (.int .i64 ((rd_T24 l0 x20_5).f0)) ∧ w'.cell? ⟨(ad420.add ((x20_5).toNat * 2)).block, (ad420.add ((x20_5).toNat * 2)).off + 1, none⟩ = some (.int .i64 ((rd_T24 l0 x20_5).f1))) (ds := []) q7_27 (by kernel_rfl) rfl rfl ⟨(blk_cell BK431.out 0).trans rfl, (blk_cell BK431.out 1).trans rfl, ((HB.out.cell (World.block_lt_of_cell? w _ hw444_0)).trans hw444_0), ((HB.out.cell (World.block_lt_of_cell? w _ hw444_1)).trans hw444_1)⟩ (fun hHeld => ?_); refine with_tabW mummerlaw03_SpansCover.tab30 mummerlaw03_SpansCover.bits30 (fun HT_ HW_ => ?_)
                                  generalize w74.drew = w75 at BK409 BK415 BK431 HB hx444_0 hx444_1 hHeld ⊢
                                  refine pure_ (i := 0) (N := some 158) (v := ?_) (a' := ?_) q7_28 rfl rfl (any_of HT_.out (by kernel_rfl)) (fun _ _ _ h => h) (Or.inl ⟨by rfl, ?_⟩) ?_ ?_; rotate_left; ·(intro w'; go_simp; with_reducible rfl)
                                  rotate_left; ·(simp only [Act.put, sA_, s0_, s1_, i64_w, i32_w]; rfl)
                                  refine pure_ (i := 1) (N := some 159) (v := ?_) (a' := ?_) q7_29 rfl rfl (any_of HT_.out (by kernel_rfl)) (fun _ _ _ h => h) (Or.inl ⟨by rfl, ?_⟩) ?_ ?_; rotate_left; ·(intro w'; go_simp; with_reducible rfl)
                                  rotate_left; ·(simp only [Act.put, sA_, s0_, s1_, i64_w, i32_w]; rfl)
                                  refine pure_ (i := 2) (N := some 160) (v := ?_) (a' := ?_) q7_30 rfl rfl (any_of HT_.out (by kernel_rfl)) (fun _ _ _ h => h) (Or.inl ⟨by rfl, ?_⟩) ?_ ?_; rotate_left; ·(intro w'; go_simp; with_reducible rfl)
                                  rotate_left; ·(simp only [Act.put, sA_, s0_, s1_, i64_w, i32_w]; rfl)
                                  refine take_ (i := 3) (N := some 161) (v := ?_) (a' := ?_) q7_31 rfl rfl (take_ofW HT_.out HW_.out (by kernel_rfl)) (fun _ _ _ h => h) (Or.inl ⟨by rfl, ?_⟩) hHeld ?_ ?_; rotate_left; ·(rintro w' ⟨s0, s1, s2, s3⟩; go_simp; with_reducible rfl)
                                  rotate_left; ·(simp only [Act.put, sA_, s0_, s1_, i64_w, i32_w]; rfl)
                                  refine take_ (i := 4) (N := some 162) (v := ?_) (a' := ?_) q7_32 rfl rfl (take_ofW HT_.out HW_.out (by kernel_rfl)) (fun _ _ _ h => h) (Or.inl ⟨by rfl, ?_⟩) hHeld ?_ ?_; rotate_left; ·(rintro w' ⟨s0, s1, s2, s3⟩; go_simp; with_reducible rfl)
                                  rotate_left; ·(simp only [Act.put, sA_, s0_, s1_, i64_w, i32_w]; rfl)
                                  refine one_ (i := 5) (N := some 163) q7_33 rfl rfl (one_of HT_.out (by kernel_rfl)) (by decide) (fun K hK => ?_)
                                  refine goes_ Tryd.func20 (by kernel_rfl) rfl #[.agg #[.int .i64 ((rd_T24 l0 x20_5).f0), .int .i64 ((rd_T24 l0 x20_5).f1)], .agg #[.int .i64 t427, .int .i64 t428]] (by rfl) rfl rfl (by (try simp only [List.map_toArray, List.map_cons, List.map_nil]); first | done | rfl | (simp only [List.length_drop, List.length_take]; rfl)) ?_
                                  with_reducible refine (spans_Within.calls k5 ((rd_T24 l0 x20_5).f0) ((rd_T24 l0 x20_5).f1) t427 t428 true t446 _ A65.out).mono ?_
                                  rintro e w76 ⟨rfl, hb⟩
                                  refine ⟨_, rfl, ?_⟩
                                  have n0_ := ak (blk_below (g := gb409) (o := .cells #[.int .i64 a1_0, .int .i64 a1_1] 24 (0, 0)) (by (with_reducible repeat (first | refine bN ?_ _ | refine bD ?_ | refine bA ?_ _)); exact BK409.out) hb)
                                  have n1_ := ak (blk_below (g := gb415) (o := .cells #[.int .i64 t412, .int .i64 t413] 24 (0, 0)) (by (with_reducible repeat (first | refine bN ?_ _ | refine bD ?_ | refine bA ?_ _)); exact BK415.out) hb)
                                  have n2_ := ak (blk_below (g := gb431) (o := .cells #[.int .i64 t427, .int .i64 t428] 24 (0, 0)) (by (with_reducible repeat (first | refine bN ?_ _ | refine bD ?_ | refine bA ?_ _)); exact BK431.out) hb)
                                  have n3_ := ak (below_step (by repeat (first | (with_reducible first | exact HB.out | apply wA | apply wN | apply wD | refine below_set ?_ GE409.out | refine below_set ?_ GE415.out | refine below_set ?_ GE431.out) | exact HB.out)) hb)
                                  clear BK409 BK415 BK431 HB
                                  have BK409 := n0_
                                  have BK415 := n1_
                                  have BK431 := n2_
                                  have HB := n3_
                                  clear n0_ n1_ n2_ n3_
                                  (try clear hb)
                                  (try clear hb2)
                                  (try clear hk)
                                  (try clear hi)
                                  refine hK.out _ _ ⟨(blk_cell BK431.out 0).trans rfl, (blk_cell BK431.out 1).trans rfl, ((HB.out.cell (World.block_lt_of_cell? w _ hw444_0)).trans hw444_0), ((HB.out.cell (World.block_lt_of_cell? w _ hw444_1)).trans hw444_1)⟩ (fun hHeld => ?_)
                                  clear hK K
                                  refine norm_ (a' := ?_) ?_ ?_
                                  rotate_left
                                  ·show Act.put _ (some 163) _ = _
                                   simp only [Act.put, sA_, s0_, s1_, i64_w, i32_w]
                                   rfl
                                  refine pure_ (i := 6) (N := some 157) (v := ?_) (a' := ?_) q7_34 rfl rfl (any_of HT_.out (by kernel_rfl)) (fun _ _ _ h => h) (Or.inl ⟨by rfl, ?_⟩) ?_ ?_; rotate_left; ·(intro w'; go_simp; with_reducible rfl)
                                  rotate_left; ·(simp only [Act.put, sA_, s0_, s1_, i64_w, i32_w]; rfl)
                                  refine pure_ (i := 7) (N := some 164) (v := ?_) (a' := ?_) q7_35 rfl rfl (any_of HT_.out (by kernel_rfl)) (fun _ _ _ h => h) (Or.inl ⟨by rfl, ?_⟩) ?_ ?_; rotate_left; ·(intro w'; go_simp; with_reducible rfl)
                                  rotate_left; ·(simp only [Act.put, sA_, s0_, s1_, i64_w, i32_w]; rfl)
                                  refine pure_ (i := 8) (N := some 165) (v := ?_) (a' := ?_) q7_36 rfl rfl (any_of HT_.out (by kernel_rfl)) (fun _ _ _ h => h) (Or.inl ⟨by rfl, ?_⟩) ?_ ?_; rotate_left; ·(intro w'; go_simp; with_reducible rfl)
                                  rotate_left; ·(simp only [Act.put, sA_, s0_, s1_, i64_w, i32_w]; rfl)
                                  refine pure_ (i := 9) (N := some 25) (v := ?_) (a' := ?_) q7_37 rfl rfl (any_of HT_.out (by kernel_rfl)) (fun _ _ _ h => h) (Or.inl ⟨by rfl, ?_⟩) ?_ ?_; rotate_left; ·(intro w'; go_simp; with_reducible rfl)
                                  rotate_left; ·(simp only [Act.put, sA_, s0_, s1_, i64_w, i32_w]; rfl)
                                  refine done_ (done_of HT_.out (by kernel_rfl)) ?_
                                  try go_wp2
                                  go_roundg k5
                                  case measure => have := HJ2.out; have := HK2.out; have := HJ24.out; have := HJ34.out; have := HK5.out; omega
                                  case rel => exact ⟨(wrap64 (x20_5 + 1)), (by first | rfl | (simp; done) | (simp [*]; done)), H', ⟨by have := HJ2.out; have := HK2.out; have := HJ24.out; have := HJ34.out; have := HK5.out; omega⟩, ⟨by (with_reducible repeat (first | refine bN ?_ _ | refine bD ?_ | refine bA ?_ _)); exact BK409.out⟩, ⟨by (with_reducible repeat (first | refine bN ?_ _ | refine bD ?_ | refine bA ?_ _)); exact BK415.out⟩, ⟨by (with_reducible repeat (first | refine bN ?_ _ | refine bD ?_ | refine bA ?_ _)); exact BK431.out⟩, ⟨by repeat (first | (with_reducible first | exact HB.out | apply wA | apply wN | apply wD | refine below_set ?_ GE409.out | refine below_set ?_ GE415.out | refine below_set ?_ GE431.out) | exact HB.out)⟩⟩
                                 ·replace c70 := Bool.eq_false_iff.mpr c70
                                  subst c70
                                  have H1 : (some false) = some r := by rw [if_neg (show ¬ (false = true) by decide)] at H; exact H
                                  clear H
                                  have H := H1
                                  clear H1
                                  exact absurd ((Option.some.inj H).trans hrt.out) (by decide)
                                ·replace c69 := Bool.eq_false_iff.mpr c69
                                 subst c69
                                 have H1 : (mummerlaw03_SpansCover.l1 k5 l0 x7_24 x8_2 true (wrap64 (x20_5 + 1)) a1_0 a1_1 t412 t413 t427 t428) = some r := by rw [if_neg (show ¬ (false = true) by decide)] at H; exact H
                                 clear H
                                 have H := H1
                                 clear H1
                                 have H' := ak H
                                 clear H
                                 try go_wp2
                                 have n0_ := ak (bD BK409.out)
                                 have n1_ := ak (bD BK415.out)
                                 have n2_ := ak (bD BK431.out)
                                 have n3_ := ak (wD HB.out)
                                 clear BK409 BK415 BK431 HB
                                 have BK409 := n0_
                                 have BK415 := n1_
                                 have BK431 := n2_
                                 have HB := n3_
                                 clear n0_ n1_ n2_ n3_
                                 have p437 : 0 ≤ (x20_5 : Int) := of_decide_eq_true (by first | (with_reducible assumption) | assumption)
                                 have q437 : x20_5 < (l0.length : Int) := of_decide_eq_true (by first | (with_reducible assumption) | assumption)
                                 obtain ⟨ad437, e437, hx437_0, hx437_1⟩ := at_T24 HR0.out x20_5 p437 q437
                                 have hw437_1 := hx437_1
                                 have hw437_0 := hx437_0
                                 obtain rfl : ad420 = ad437 := (by injection e437)
                                 replace hx437_0 := (HB.out.cell (World.block_lt_of_cell? w _ hx437_0)).trans hx437_0
                                 replace hx437_1 := (HB.out.cell (World.block_lt_of_cell? w _ hx437_1)).trans hx437_1
                                 replace p437 := eq_true p437
                                 replace q437 := eq_true q437
                                 have p438 : 0 ≤ (x8_2 : Int) := of_decide_eq_true (by first | (with_reducible assumption) | assumption)
                                 have q438 : x8_2 < (l0.length : Int) := of_decide_eq_true (by first | (with_reducible assumption) | assumption)
                                 obtain ⟨ad438, e438, hx438_0, hx438_1⟩ := at_T24 HR0.out x8_2 p438 q438
                                 have hw438_1 := hx438_1
                                 have hw438_0 := hx438_0
                                 obtain rfl : ad420 = ad438 := (by injection e438)
                                 replace hx438_0 := (HB.out.cell (World.block_lt_of_cell? w _ hx438_0)).trans hx438_0
                                 replace hx438_1 := (HB.out.cell (World.block_lt_of_cell? w _ hx438_1)).trans hx438_1
                                 replace p438 := eq_true p438
                                 replace q438 := eq_true q438
                                 refine start_ (n := 14) (S := fun w' => w'.cell? (ad420.add ((x20_5).toNat * 2)) = some (.int .i64 ((rd_T24 l0 x20_5).f0)) ∧ w'.cell? ⟨(ad420.add ((x20_5).toNat * 2)).block, (ad420.add ((x20_5).toNat * 2)).off + 1, none⟩ = some (.int .i64 ((rd_T24 l0 x20_5).f1)) ∧ w'.cell? (ad420.add ((x8_2).toNat * 2)) = some (.int .i64 ((rd_T24 l0 x8_2).f0)) ∧ w'.cell? ⟨(ad420.add ((x8_2).toNat * 2)).block, (ad420.add ((x8_2).toNat * 2)).off + 1, none⟩ = some (.int .i64 ((rd_T24 l0 x8_2).f1))) (ds := []) q7_12 (by kernel_rfl) rfl rfl ⟨((HB.out.cell (World.block_lt_of_cell? w _ hw437_0)).trans hw437_0), ((HB.out.cell (World.block_lt_of_cell? w _ hw437_1)).trans hw437_1), ((HB.out.cell (World.block_lt_of_cell? w _ hw438_0)).trans hw438_0), ((HB.out.cell (World.block_lt_of_cell? w _ hw438_1)).trans hw438_1)⟩ (fun hHeld => ?_); refine with_tabW mummerlaw03_SpansCover.tab26 mummerlaw03_SpansCover.bits26 (fun HT_ HW_ => ?_)
                                 generalize wr.drew = w77 at BK409 BK415 BK431 HB hx437_0 hx437_1 hx438_0 hx438_1 hHeld ⊢
                                 refine pure_ (i := 0) (N := some 136) (v := ?_) (a' := ?_) q7_13 rfl rfl (any_of HT_.out (by kernel_rfl)) (fun _ _ _ h => h) (Or.inl ⟨by rfl, ?_⟩) ?_ ?_; rotate_left; ·(intro w'; go_simp; with_reducible rfl)
                                 rotate_left; ·(simp only [Act.put, sA_, s0_, s1_, i64_w, i32_w]; rfl)
                                 refine pure_ (i := 1) (N := some 137) (v := ?_) (a' := ?_) q7_14 rfl rfl (any_of HT_.out (by kernel_rfl)) (fun _ _ _ h => h) (Or.inl ⟨by rfl, ?_⟩) ?_ ?_; rotate_left; ·(intro w'; go_simp; with_reducible rfl)
                                 rotate_left; ·(simp only [Act.put, sA_, s0_, s1_, i64_w, i32_w]; rfl)
                                 refine pure_ (i := 2) (N := some 138) (v := ?_) (a' := ?_) q7_15 rfl rfl (any_of HT_.out (by kernel_rfl)) (fun _ _ _ h => h) (Or.inl ⟨by rfl, ?_⟩) ?_ ?_; rotate_left; ·(intro w'; go_simp; with_reducible rfl)
                                 rotate_left; ·(simp only [Act.put, sA_, s0_, s1_, i64_w, i32_w]; rfl)
                                 refine pure_ (i := 4) (N := some 140) (v := ?_) (a' := ?_) q7_24 rfl rfl (any_of HT_.out (by kernel_rfl)) (fun _ _ _ h => h) (Or.inl ⟨by rfl, ?_⟩) ?_ ?_; rotate_left; ·(intro w'; go_simp; with_reducible rfl)
                                 rotate_left; ·(simp only [Act.put, sA_, s0_, s1_, i64_w, i32_w]; rfl)
                                 refine pure_ (i := 5) (N := some 141) (v := ?_) (a' := ?_) q7_25 rfl rfl (any_of HT_.out (by kernel_rfl)) (fun _ _ _ h => h) (Or.inl ⟨by rfl, ?_⟩) ?_ ?_; rotate_left; ·(intro w'; go_simp; with_reducible rfl)
                                 rotate_left; ·(simp only [Act.put, sA_, s0_, s1_, i64_w, i32_w]; rfl)
                                 refine pure_ (i := 6) (N := some 142) (v := ?_) (a' := ?_) q7_26 rfl rfl (any_of HT_.out (by kernel_rfl)) (fun _ _ _ h => h) (Or.inl ⟨by rfl, ?_⟩) ?_ ?_; rotate_left; ·(intro w'; go_simp; with_reducible rfl)
                                 rotate_left; ·(simp only [Act.put, sA_, s0_, s1_, i64_w, i32_w]; rfl)
                                 refine take_ (i := 3) (N := some 139) (v := ?_) (a' := ?_) q7_17 rfl rfl (take_ofW HT_.out HW_.out (by kernel_rfl)) (fun _ _ _ h => h) (Or.inl ⟨by rfl, ?_⟩) hHeld ?_ ?_; rotate_left; ·(rintro w' ⟨s0, s1, s2, s3⟩; go_simp; with_reducible rfl)
                                 rotate_left; ·(simp only [Act.put, sA_, s0_, s1_, i64_w, i32_w]; rfl)
                                 refine take_ (i := 7) (N := some 143) (v := ?_) (a' := ?_) q7_18 rfl rfl (take_ofW HT_.out HW_.out (by kernel_rfl)) (fun _ _ _ h => h) (Or.inl ⟨by rfl, ?_⟩) hHeld ?_ ?_; rotate_left; ·(rintro w' ⟨s0, s1, s2, s3⟩; go_simp; with_reducible rfl)
                                 rotate_left; ·(simp only [Act.put, sA_, s0_, s1_, i64_w, i32_w]; rfl)
                                 refine one_ (i := 8) (N := some 144) q7_19 rfl rfl (one_of HT_.out (by kernel_rfl)) (by decide) (fun K hK => ?_)
                                 refine goes_ Tryd.func20 (by kernel_rfl) rfl #[.agg #[.int .i64 ((rd_T24 l0 x20_5).f0), .int .i64 ((rd_T24 l0 x20_5).f1)], .agg #[.int .i64 ((rd_T24 l0 x8_2).f0), .int .i64 ((rd_T24 l0 x8_2).f1)]] (by rfl) rfl rfl (by (try simp only [List.map_toArray, List.map_cons, List.map_nil]); first | done | rfl | (simp only [List.length_drop, List.length_take]; rfl)) ?_
                                 with_reducible refine (spans_Within.calls k5 ((rd_T24 l0 x20_5).f0) ((rd_T24 l0 x20_5).f1) ((rd_T24 l0 x8_2).f0) ((rd_T24 l0 x8_2).f1) true t440 _ A62.out).mono ?_
                                 rintro e w78 ⟨rfl, hb⟩
                                 refine ⟨_, rfl, ?_⟩
                                 have n0_ := ak (blk_below (g := gb409) (o := .cells #[.int .i64 a1_0, .int .i64 a1_1] 24 (0, 0)) (by (with_reducible repeat (first | refine bN ?_ _ | refine bD ?_ | refine bA ?_ _)); exact BK409.out) hb)
                                 have n1_ := ak (blk_below (g := gb415) (o := .cells #[.int .i64 t412, .int .i64 t413] 24 (0, 0)) (by (with_reducible repeat (first | refine bN ?_ _ | refine bD ?_ | refine bA ?_ _)); exact BK415.out) hb)
                                 have n2_ := ak (blk_below (g := gb431) (o := .cells #[.int .i64 t427, .int .i64 t428] 24 (0, 0)) (by (with_reducible repeat (first | refine bN ?_ _ | refine bD ?_ | refine bA ?_ _)); exact BK431.out) hb)
                                 have n3_ := ak (below_step (by repeat (first | (with_reducible first | exact HB.out | apply wA | apply wN | apply wD | refine below_set ?_ GE409.out | refine below_set ?_ GE415.out | refine below_set ?_ GE431.out) | exact HB.out)) hb)
                                 clear BK409 BK415 BK431 HB
                                 have BK409 := n0_
                                 have BK415 := n1_
                                 have BK431 := n2_
                                 have HB := n3_
                                 clear n0_ n1_ n2_ n3_
                                 (try clear hb)
                                 (try clear hb2)
                                 (try clear hk)
                                 (try clear hi)
                                 refine hK.out _ _ ⟨((HB.out.cell (World.block_lt_of_cell? w _ hw437_0)).trans hw437_0), ((HB.out.cell (World.block_lt_of_cell? w _ hw437_1)).trans hw437_1), ((HB.out.cell (World.block_lt_of_cell? w _ hw438_0)).trans hw438_0), ((HB.out.cell (World.block_lt_of_cell? w _ hw438_1)).trans hw438_1)⟩ (fun hHeld => ?_)
                                 clear hK K
                                 refine norm_ (a' := ?_) ?_ ?_
                                 rotate_left
                                 ·show Act.put _ (some 144) _ = _
                                  simp only [Act.put, sA_, s0_, s1_, i64_w, i32_w]
                                  rfl
                                 refine pure_ (i := 9) (N := some 135) (v := ?_) (a' := ?_) q7_20 rfl rfl (any_of HT_.out (by kernel_rfl)) (fun _ _ _ h => h) (Or.inl ⟨by rfl, ?_⟩) ?_ ?_; rotate_left; ·(intro w'; go_simp; with_reducible rfl)
                                 rotate_left; ·(simp only [Act.put, sA_, s0_, s1_, i64_w, i32_w]; rfl)
                                 refine pure_ (i := 10) (N := some 145) (v := ?_) (a' := ?_) q7_16 rfl rfl (any_of HT_.out (by kernel_rfl)) (fun _ _ _ h => h) (Or.inl ⟨by rfl, ?_⟩) ?_ ?_; rotate_left; ·(intro w'; go_simp; with_reducible rfl)
                                 rotate_left; ·(simp only [Act.put, sA_, s0_, s1_, i64_w, i32_w]; rfl)
                                 refine pure_ (i := 11) (N := some 146) (v := ?_) (a' := ?_) q7_21 rfl rfl (any_of HT_.out (by kernel_rfl)) (fun _ _ _ h => h) (Or.inl ⟨by rfl, ?_⟩) ?_ ?_; rotate_left; ·(intro w'; go_simp; with_reducible rfl)
                                 rotate_left; ·(simp only [Act.put, sA_, s0_, s1_, i64_w, i32_w]; rfl)
                                 refine pure_ (i := 12) (N := some 21) (v := ?_) (a' := ?_) q7_22 rfl rfl (any_of HT_.out (by kernel_rfl)) (fun _ _ _ h => h) (Or.inl ⟨by rfl, ?_⟩) ?_ ?_; rotate_left; ·(intro w'; go_simp; with_reducible rfl)
                                 rotate_left; ·(simp only [Act.put, sA_, s0_, s1_, i64_w, i32_w]; rfl)
                                 refine pure_ (i := 13) (N := some 22) (v := ?_) (a' := ?_) q7_23 rfl rfl (any_of HT_.out (by kernel_rfl)) (fun _ _ _ h => h) (Or.inl ⟨by rfl, ?_⟩) ?_ ?_; rotate_left; ·(intro w'; go_simp; with_reducible rfl)
                                 rotate_left; ·(simp only [Act.put, sA_, s0_, s1_, i64_w, i32_w]; rfl)
                                 refine done_ (done_of HT_.out (by kernel_rfl)) ?_
                                 try go_wp2
                                 have n0_ := ak (bD BK409.out)
                                 have n1_ := ak (bD BK415.out)
                                 have n2_ := ak (bD BK431.out)
                                 have n3_ := ak (wD HB.out)
                                 clear BK409 BK415 BK431 HB
                                 have BK409 := n0_
                                 have BK415 := n1_
                                 have BK431 := n2_
                                 have HB := n3_
                                 clear n0_ n1_ n2_ n3_
                                 have p441 : 0 ≤ (x20_5 : Int) := of_decide_eq_true (by first | (with_reducible assumption) | assumption)
                                 have q441 : x20_5 < (l0.length : Int) := of_decide_eq_true (by first | (with_reducible assumption) | assumption)
                                 obtain ⟨ad441, e441, hx441_0, hx441_1⟩ := at_T24 HR0.out x20_5 p441 q441
                                 have hw441_1 := hx441_1
                                 have hw441_0 := hx441_0
                                 obtain rfl : ad420 = ad441 := (by injection e441)
                                 replace hx441_0 := (HB.out.cell (World.block_lt_of_cell? w _ hx441_0)).trans hx441_0
                                 replace hx441_1 := (HB.out.cell (World.block_lt_of_cell? w _ hx441_1)).trans hx441_1
                                 replace p441 := eq_true p441
                                 replace q441 := eq_true q441
                                 refine start_ (n := 11) (S := fun w' => w'.cell? ⟨gb409, 0, none⟩ = some (.int .i64 a1_0) ∧ w'.cell? ⟨gb409, 1, none⟩ = some (.int .i64 a1_1) ∧ w'.cell? (ad420.add ((x20_5).toNat * 2)) = some (.int .i64 ((rd_T24 l0 x20_5).f0)) ∧ w'.cell? ⟨(ad420.add ((x20_5).toNat * 2)).block, (ad420.add ((x20_5).toNat * 2)).off + 1, none⟩ = some (.int .i64 ((rd_T24 l0 x20_5).f1))) (ds := []) q7_0 (by kernel_rfl) rfl rfl ⟨(blk_cell BK409.out 0).trans rfl, (blk_cell BK409.out 1).trans rfl, ((HB.out.cell (World.block_lt_of_cell? w _ hw441_0)).trans hw441_0), ((HB.out.cell (World.block_lt_of_cell? w _ hw441_1)).trans hw441_1)⟩ (fun hHeld => ?_); refine with_tabW mummerlaw03_SpansCover.tab27 mummerlaw03_SpansCover.bits27 (fun HT_ HW_ => ?_)
                                 generalize w78.drew = w79 at BK409 BK415 BK431 HB hx441_0 hx441_1 hHeld ⊢
                                 refine pure_ (i := 0) (N := some 148) (v := ?_) (a' := ?_) q7_1 rfl rfl (any_of HT_.out (by kernel_rfl)) (fun _ _ _ h => h) (Or.inl ⟨by rfl, ?_⟩) ?_ ?_; rotate_left; ·(intro w'; go_simp; with_reducible rfl)
                                 rotate_left; ·(simp only [Act.put, sA_, s0_, s1_, i64_w, i32_w]; rfl)
                                 refine pure_ (i := 1) (N := some 149) (v := ?_) (a' := ?_) q7_2 rfl rfl (any_of HT_.out (by kernel_rfl)) (fun _ _ _ h => h) (Or.inl ⟨by rfl, ?_⟩) ?_ ?_; rotate_left; ·(intro w'; go_simp; with_reducible rfl)
                                 rotate_left; ·(simp only [Act.put, sA_, s0_, s1_, i64_w, i32_w]; rfl)
                                 refine pure_ (i := 2) (N := some 150) (v := ?_) (a' := ?_) q7_3 rfl rfl (any_of HT_.out (by kernel_rfl)) (fun _ _ _ h => h) (Or.inl ⟨by rfl, ?_⟩) ?_ ?_; rotate_left; ·(intro w'; go_simp; with_reducible rfl)
                                 rotate_left; ·(simp only [Act.put, sA_, s0_, s1_, i64_w, i32_w]; rfl)
                                 refine take_ (i := 3) (N := some 151) (v := ?_) (a' := ?_) q7_4 rfl rfl (take_ofW HT_.out HW_.out (by kernel_rfl)) (fun _ _ _ h => h) (Or.inl ⟨by rfl, ?_⟩) hHeld ?_ ?_; rotate_left; ·(rintro w' ⟨s0, s1, s2, s3⟩; go_simp; with_reducible rfl)
                                 rotate_left; ·(simp only [Act.put, sA_, s0_, s1_, i64_w, i32_w]; rfl)
                                 refine take_ (i := 4) (N := some 152) (v := ?_) (a' := ?_) q7_5 rfl rfl (take_ofW HT_.out HW_.out (by kernel_rfl)) (fun _ _ _ h => h) (Or.inl ⟨by rfl, ?_⟩) hHeld ?_ ?_; rotate_left; ·(rintro w' ⟨s0, s1, s2, s3⟩; go_simp; with_reducible rfl)
                                 rotate_left; ·(simp only [Act.put, sA_, s0_, s1_, i64_w, i32_w]; rfl)
                                 refine one_ (i := 5) (N := some 153) q7_6 rfl rfl (one_of HT_.out (by kernel_rfl)) (by decide) (fun K hK => ?_)
                                 refine goes_ Tryd.func20 (by kernel_rfl) rfl #[.agg #[.int .i64 ((rd_T24 l0 x20_5).f0), .int .i64 ((rd_T24 l0 x20_5).f1)], .agg #[.int .i64 a1_0, .int .i64 a1_1]] (by rfl) rfl rfl (by (try simp only [List.map_toArray, List.map_cons, List.map_nil]); first | done | rfl | (simp only [List.length_drop, List.length_take]; rfl)) ?_
                                 with_reducible refine (spans_Within.calls k5 ((rd_T24 l0 x20_5).f0) ((rd_T24 l0 x20_5).f1) a1_0 a1_1 false t443 _ A63.out).mono ?_
                                 rintro e w80 ⟨rfl, hb⟩
                                 refine ⟨_, rfl, ?_⟩
                                 have n0_ := ak (blk_below (g := gb409) (o := .cells #[.int .i64 a1_0, .int .i64 a1_1] 24 (0, 0)) (by (with_reducible repeat (first | refine bN ?_ _ | refine bD ?_ | refine bA ?_ _)); exact BK409.out) hb)
                                 have n1_ := ak (blk_below (g := gb415) (o := .cells #[.int .i64 t412, .int .i64 t413] 24 (0, 0)) (by (with_reducible repeat (first | refine bN ?_ _ | refine bD ?_ | refine bA ?_ _)); exact BK415.out) hb)
                                 have n2_ := ak (blk_below (g := gb431) (o := .cells #[.int .i64 t427, .int .i64 t428] 24 (0, 0)) (by (with_reducible repeat (first | refine bN ?_ _ | refine bD ?_ | refine bA ?_ _)); exact BK431.out) hb)
                                 have n3_ := ak (below_step (by repeat (first | (with_reducible first | exact HB.out | apply wA | apply wN | apply wD | refine below_set ?_ GE409.out | refine below_set ?_ GE415.out | refine below_set ?_ GE431.out) | exact HB.out)) hb)
                                 clear BK409 BK415 BK431 HB
                                 have BK409 := n0_
                                 have BK415 := n1_
                                 have BK431 := n2_
                                 have HB := n3_
                                 clear n0_ n1_ n2_ n3_
                                 (try clear hb)
                                 (try clear hb2)
                                 (try clear hk)
                                 (try clear hi)
                                 refine hK.out _ _ ⟨(blk_cell BK409.out 0).trans rfl, (blk_cell BK409.out 1).trans rfl, ((HB.out.cell (World.block_lt_of_cell? w _ hw441_0)).trans hw441_0), ((HB.out.cell (World.block_lt_of_cell? w _ hw441_1)).trans hw441_1)⟩ (fun hHeld => ?_)
                                 clear hK K
                                 refine norm_ (a' := ?_) ?_ ?_
                                 rotate_left
                                 ·show Act.put _ (some 153) _ = _
                                  simp only [Act.put, sA_, s0_, s1_, i64_w, i32_w]
                                  rfl
                                 refine pure_ (i := 6) (N := some 147) (v := ?_) (a' := ?_) q7_7 rfl rfl (any_of HT_.out (by kernel_rfl)) (fun _ _ _ h => h) (Or.inl ⟨by rfl, ?_⟩) ?_ ?_; rotate_left; ·(intro w'; go_simp; with_reducible rfl)
                                 rotate_left; ·(simp only [Act.put, sA_, s0_, s1_, i64_w, i32_w]; rfl)
                                 refine pure_ (i := 7) (N := some 154) (v := ?_) (a' := ?_) q7_8 rfl rfl (any_of HT_.out (by kernel_rfl)) (fun _ _ _ h => h) (Or.inl ⟨by rfl, ?_⟩) ?_ ?_; rotate_left; ·(intro w'; go_simp; with_reducible rfl)
                                 rotate_left; ·(simp only [Act.put, sA_, s0_, s1_, i64_w, i32_w]; rfl)
                                 refine pure_ (i := 8) (N := some 155) (v := ?_) (a' := ?_) q7_9 rfl rfl (any_of HT_.out (by kernel_rfl)) (fun _ _ _ h => h) (Or.inl ⟨by rfl, ?_⟩) ?_ ?_; rotate_left; ·(intro w'; go_simp; with_reducible rfl)
                                 rotate_left; ·(simp only [Act.put, sA_, s0_, s1_, i64_w, i32_w]; rfl)
                                 refine pure_ (i := 9) (N := some 23) (v := ?_) (a' := ?_) q7_10 rfl rfl (any_of HT_.out (by kernel_rfl)) (fun _ _ _ h => h) (Or.inl ⟨by rfl, ?_⟩) ?_ ?_; rotate_left; ·(intro w'; go_simp; with_reducible rfl)
                                 rotate_left; ·(simp only [Act.put, sA_, s0_, s1_, i64_w, i32_w]; rfl)
                                 refine pure_ (i := 10) (N := some 24) (v := ?_) (a' := ?_) q7_11 rfl rfl (any_of HT_.out (by kernel_rfl)) (fun _ _ _ h => h) (Or.inl ⟨by rfl, ?_⟩) ?_ ?_; rotate_left; ·(intro w'; go_simp; with_reducible rfl)
                                 rotate_left; ·(simp only [Act.put, sA_, s0_, s1_, i64_w, i32_w]; rfl)
                                 refine done_ (done_of HT_.out (by kernel_rfl)) ?_
                                 try go_wp2
                                 have n0_ := ak (bD BK409.out)
                                 have n1_ := ak (bD BK415.out)
                                 have n2_ := ak (bD BK431.out)
                                 have n3_ := ak (wD HB.out)
                                 clear BK409 BK415 BK431 HB
                                 have BK409 := n0_
                                 have BK415 := n1_
                                 have BK431 := n2_
                                 have HB := n3_
                                 clear n0_ n1_ n2_ n3_
                                 have p444 : 0 ≤ (x20_5 : Int) := of_decide_eq_true (by first | (with_reducible assumption) | assumption)
                                 have q444 : x20_5 < (l0.length : Int) := of_decide_eq_true (by first | (with_reducible assumption) | assumption)
                                 obtain ⟨ad444, e444, hx444_0, hx444_1⟩ := at_T24 HR0.out x20_5 p444 q444
                                 have hw444_1 := hx444_1
                                 have hw444_0 := hx444_0
                                 obtain rfl : ad420 = ad444 := (by injection e444)
                                 replace hx444_0 := (HB.out.cell (World.block_lt_of_cell? w _ hx444_0)).trans hx444_0
                                 replace hx444_1 := (HB.out.cell (World.block_lt_of_cell? w _ hx444_1)).trans hx444_1
                                 replace p444 := eq_true p444
                                 replace q444 := eq_true q444
                                 refine start_ (n := 10) (S := fun w' => w'.cell? ⟨gb431, 0, none⟩ = some (.int .i64 t427) ∧ w'.cell? ⟨gb431, 1, none⟩ = some (.int .i64 t428) ∧ w'.cell? (ad420.add ((x20_5).toNat * 2)) = some (.int .i64 ((rd_T24 l0 x20_5).f0)) ∧ w'.cell? ⟨(ad420.add ((x20_5).toNat * 2)).block, (ad420.add ((x20_5).toNat * 2)).off + 1, none⟩ = some (.int .i64 ((rd_T24 l0 x20_5).f1))) (ds := []) q7_27 (by kernel_rfl) rfl rfl ⟨(blk_cell BK431.out 0).trans rfl, (blk_cell BK431.out 1).trans rfl, ((HB.out.cell (World.block_lt_of_cell? w _ hw444_0)).trans hw444_0), ((HB.out.cell (World.block_lt_of_cell? w _ hw444_1)).trans hw444_1)⟩ (fun hHeld => ?_); refine with_tabW mummerlaw03_SpansCover.tab30 mummerlaw03_SpansCover.bits30 (fun HT_ HW_ => ?_)
                                 generalize w80.drew = w81 at BK409 BK415 BK431 HB hx444_0 hx444_1 hHeld ⊢
                                 refine pure_ (i := 0) (N := some 158) (v := ?_) (a' := ?_) q7_28 rfl rfl (any_of HT_.out (by kernel_rfl)) (fun _ _ _ h => h) (Or.inl ⟨by rfl, ?_⟩) ?_ ?_; rotate_left; ·(intro w'; go_simp; with_reducible rfl)
                                 rotate_left; ·(simp only [Act.put, sA_, s0_, s1_, i64_w, i32_w]; rfl)
                                 refine pure_ (i := 1) (N := some 159) (v := ?_) (a' := ?_) q7_29 rfl rfl (any_of HT_.out (by kernel_rfl)) (fun _ _ _ h => h) (Or.inl ⟨by rfl, ?_⟩) ?_ ?_; rotate_left; ·(intro w'; go_simp; with_reducible rfl)
                                 rotate_left; ·(simp only [Act.put, sA_, s0_, s1_, i64_w, i32_w]; rfl)
                                 refine pure_ (i := 2) (N := some 160) (v := ?_) (a' := ?_) q7_30 rfl rfl (any_of HT_.out (by kernel_rfl)) (fun _ _ _ h => h) (Or.inl ⟨by rfl, ?_⟩) ?_ ?_; rotate_left; ·(intro w'; go_simp; with_reducible rfl)
                                 rotate_left; ·(simp only [Act.put, sA_, s0_, s1_, i64_w, i32_w]; rfl)
                                 refine take_ (i := 3) (N := some 161) (v := ?_) (a' := ?_) q7_31 rfl rfl (take_ofW HT_.out HW_.out (by kernel_rfl)) (fun _ _ _ h => h) (Or.inl ⟨by rfl, ?_⟩) hHeld ?_ ?_; rotate_left; ·(rintro w' ⟨s0, s1, s2, s3⟩; go_simp; with_reducible rfl)
                                 rotate_left; ·(simp only [Act.put, sA_, s0_, s1_, i64_w, i32_w]; rfl)
                                 refine take_ (i := 4) (N := some 162) (v := ?_) (a' := ?_) q7_32 rfl rfl (take_ofW HT_.out HW_.out (by kernel_rfl)) (fun _ _ _ h => h) (Or.inl ⟨by rfl, ?_⟩) hHeld ?_ ?_; rotate_left; ·(rintro w' ⟨s0, s1, s2, s3⟩; go_simp; with_reducible rfl)
                                 rotate_left; ·(simp only [Act.put, sA_, s0_, s1_, i64_w, i32_w]; rfl)
                                 refine one_ (i := 5) (N := some 163) q7_33 rfl rfl (one_of HT_.out (by kernel_rfl)) (by decide) (fun K hK => ?_)
                                 refine goes_ Tryd.func20 (by kernel_rfl) rfl #[.agg #[.int .i64 ((rd_T24 l0 x20_5).f0), .int .i64 ((rd_T24 l0 x20_5).f1)], .agg #[.int .i64 t427, .int .i64 t428]] (by rfl) rfl rfl (by (try simp only [List.map_toArray, List.map_cons, List.map_nil]); first | done | rfl | (simp only [List.length_drop, List.length_take]; rfl)) ?_
                                 with_reducible refine (spans_Within.calls k5 ((rd_T24 l0 x20_5).f0) ((rd_T24 l0 x20_5).f1) t427 t428 t445 t446 _ A65.out).mono ?_
                                 rintro e w82 ⟨rfl, hb⟩
                                 refine ⟨_, rfl, ?_⟩
                                 have n0_ := ak (blk_below (g := gb409) (o := .cells #[.int .i64 a1_0, .int .i64 a1_1] 24 (0, 0)) (by (with_reducible repeat (first | refine bN ?_ _ | refine bD ?_ | refine bA ?_ _)); exact BK409.out) hb)
                                 have n1_ := ak (blk_below (g := gb415) (o := .cells #[.int .i64 t412, .int .i64 t413] 24 (0, 0)) (by (with_reducible repeat (first | refine bN ?_ _ | refine bD ?_ | refine bA ?_ _)); exact BK415.out) hb)
                                 have n2_ := ak (blk_below (g := gb431) (o := .cells #[.int .i64 t427, .int .i64 t428] 24 (0, 0)) (by (with_reducible repeat (first | refine bN ?_ _ | refine bD ?_ | refine bA ?_ _)); exact BK431.out) hb)
                                 have n3_ := ak (below_step (by repeat (first | (with_reducible first | exact HB.out | apply wA | apply wN | apply wD | refine below_set ?_ GE409.out | refine below_set ?_ GE415.out | refine below_set ?_ GE431.out) | exact HB.out)) hb)
                                 clear BK409 BK415 BK431 HB
                                 have BK409 := n0_
                                 have BK415 := n1_
                                 have BK431 := n2_
                                 have HB := n3_
                                 clear n0_ n1_ n2_ n3_
                                 (try clear hb)
                                 (try clear hb2)
                                 (try clear hk)
                                 (try clear hi)
                                 refine hK.out _ _ ⟨(blk_cell BK431.out 0).trans rfl, (blk_cell BK431.out 1).trans rfl, ((HB.out.cell (World.block_lt_of_cell? w _ hw444_0)).trans hw444_0), ((HB.out.cell (World.block_lt_of_cell? w _ hw444_1)).trans hw444_1)⟩ (fun hHeld => ?_)
                                 clear hK K
                                 refine norm_ (a' := ?_) ?_ ?_
                                 rotate_left
                                 ·show Act.put _ (some 163) _ = _
                                  simp only [Act.put, sA_, s0_, s1_, i64_w, i32_w]
                                  rfl
                                 refine pure_ (i := 6) (N := some 157) (v := ?_) (a' := ?_) q7_34 rfl rfl (any_of HT_.out (by kernel_rfl)) (fun _ _ _ h => h) (Or.inl ⟨by rfl, ?_⟩) ?_ ?_; rotate_left; ·(intro w'; go_simp; with_reducible rfl)
                                 rotate_left; ·(simp only [Act.put, sA_, s0_, s1_, i64_w, i32_w]; rfl)
                                 refine pure_ (i := 7) (N := some 164) (v := ?_) (a' := ?_) q7_35 rfl rfl (any_of HT_.out (by kernel_rfl)) (fun _ _ _ h => h) (Or.inl ⟨by rfl, ?_⟩) ?_ ?_; rotate_left; ·(intro w'; go_simp; with_reducible rfl)
                                 rotate_left; ·(simp only [Act.put, sA_, s0_, s1_, i64_w, i32_w]; rfl)
                                 refine pure_ (i := 8) (N := some 165) (v := ?_) (a' := ?_) q7_36 rfl rfl (any_of HT_.out (by kernel_rfl)) (fun _ _ _ h => h) (Or.inl ⟨by rfl, ?_⟩) ?_ ?_; rotate_left; ·(intro w'; go_simp; with_reducible rfl)
                                 rotate_left; ·(simp only [Act.put, sA_, s0_, s1_, i64_w, i32_w]; rfl)
                                 refine pure_ (i := 9) (N := some 25) (v := ?_) (a' := ?_) q7_37 rfl rfl (any_of HT_.out (by kernel_rfl)) (fun _ _ _ h => h) (Or.inl ⟨by rfl, ?_⟩) ?_ ?_; rotate_left; ·(intro w'; go_simp; with_reducible rfl)
                                 rotate_left; ·(simp only [Act.put, sA_, s0_, s1_, i64_w, i32_w]; rfl)
                                 refine done_ (done_of HT_.out (by kernel_rfl)) ?_
                                 try go_wp2
                                 go_roundg k5
                                 case measure => have := HJ2.out; have := HK2.out; have := HJ24.out; have := HJ34.out; have := HK5.out; omega
                                 case rel => exact ⟨(wrap64 (x20_5 + 1)), (by first | rfl | (simp; done) | (simp [*]; done)), H', ⟨by have := HJ2.out; have := HK2.out; have := HJ24.out; have := HJ34.out; have := HK5.out; omega⟩, ⟨by (with_reducible repeat (first | refine bN ?_ _ | refine bD ?_ | refine bA ?_ _)); exact BK409.out⟩, ⟨by (with_reducible repeat (first | refine bN ?_ _ | refine bD ?_ | refine bA ?_ _)); exact BK415.out⟩, ⟨by (with_reducible repeat (first | refine bN ?_ _ | refine bD ?_ | refine bA ?_ _)); exact BK431.out⟩, ⟨by repeat (first | (with_reducible first | exact HB.out | apply wA | apply wN | apply wD | refine below_set ?_ GE409.out | refine below_set ?_ GE415.out | refine below_set ?_ GE431.out) | exact HB.out)⟩⟩
                               ·replace c68 := Bool.eq_false_iff.mpr c68
                                subst c68
                                have H1 : (mummerlaw03_SpansCover.l1 k5 l0 x7_24 x8_2 true (wrap64 (x20_5 + 1)) a1_0 a1_1 t412 t413 t427 t428) = some r := by rw [if_neg (show ¬ (false = true) by decide)] at H; exact H
                                clear H
                                have H := H1
                                clear H1
                                have H' := ak H
                                clear H
                                try go_wp2
                                have n0_ := ak (bD BK409.out)
                                have n1_ := ak (bD BK415.out)
                                have n2_ := ak (bD BK431.out)
                                have n3_ := ak (wD HB.out)
                                clear BK409 BK415 BK431 HB
                                have BK409 := n0_
                                have BK415 := n1_
                                have BK431 := n2_
                                have HB := n3_
                                clear n0_ n1_ n2_ n3_
                                have p437 : 0 ≤ (x20_5 : Int) := of_decide_eq_true (by first | (with_reducible assumption) | assumption)
                                have q437 : x20_5 < (l0.length : Int) := of_decide_eq_true (by first | (with_reducible assumption) | assumption)
                                obtain ⟨ad437, e437, hx437_0, hx437_1⟩ := at_T24 HR0.out x20_5 p437 q437
                                have hw437_1 := hx437_1
                                have hw437_0 := hx437_0
                                obtain rfl : ad420 = ad437 := (by injection e437)
                                replace hx437_0 := (HB.out.cell (World.block_lt_of_cell? w _ hx437_0)).trans hx437_0
                                replace hx437_1 := (HB.out.cell (World.block_lt_of_cell? w _ hx437_1)).trans hx437_1
                                replace p437 := eq_true p437
                                replace q437 := eq_true q437
                                have p438 : 0 ≤ (x8_2 : Int) := of_decide_eq_true (by first | (with_reducible assumption) | assumption)
                                have q438 : x8_2 < (l0.length : Int) := of_decide_eq_true (by first | (with_reducible assumption) | assumption)
                                obtain ⟨ad438, e438, hx438_0, hx438_1⟩ := at_T24 HR0.out x8_2 p438 q438
                                have hw438_1 := hx438_1
                                have hw438_0 := hx438_0
                                obtain rfl : ad420 = ad438 := (by injection e438)
                                replace hx438_0 := (HB.out.cell (World.block_lt_of_cell? w _ hx438_0)).trans hx438_0
                                replace hx438_1 := (HB.out.cell (World.block_lt_of_cell? w _ hx438_1)).trans hx438_1
                                replace p438 := eq_true p438
                                replace q438 := eq_true q438
                                refine start_ (n := 14) (S := fun w' => w'.cell? (ad420.add ((x20_5).toNat * 2)) = some (.int .i64 ((rd_T24 l0 x20_5).f0)) ∧ w'.cell? ⟨(ad420.add ((x20_5).toNat * 2)).block, (ad420.add ((x20_5).toNat * 2)).off + 1, none⟩ = some (.int .i64 ((rd_T24 l0 x20_5).f1)) ∧ w'.cell? (ad420.add ((x8_2).toNat * 2)) = some (.int .i64 ((rd_T24 l0 x8_2).f0)) ∧ w'.cell? ⟨(ad420.add ((x8_2).toNat * 2)).block, (ad420.add ((x8_2).toNat * 2)).off + 1, none⟩ = some (.int .i64 ((rd_T24 l0 x8_2).f1))) (ds := []) q7_12 (by kernel_rfl) rfl rfl ⟨((HB.out.cell (World.block_lt_of_cell? w _ hw437_0)).trans hw437_0), ((HB.out.cell (World.block_lt_of_cell? w _ hw437_1)).trans hw437_1), ((HB.out.cell (World.block_lt_of_cell? w _ hw438_0)).trans hw438_0), ((HB.out.cell (World.block_lt_of_cell? w _ hw438_1)).trans hw438_1)⟩ (fun hHeld => ?_); refine with_tabW mummerlaw03_SpansCover.tab26 mummerlaw03_SpansCover.bits26 (fun HT_ HW_ => ?_)
                                generalize wr.drew = w83 at BK409 BK415 BK431 HB hx437_0 hx437_1 hx438_0 hx438_1 hHeld ⊢
                                refine pure_ (i := 0) (N := some 136) (v := ?_) (a' := ?_) q7_13 rfl rfl (any_of HT_.out (by kernel_rfl)) (fun _ _ _ h => h) (Or.inl ⟨by rfl, ?_⟩) ?_ ?_; rotate_left; ·(intro w'; go_simp; with_reducible rfl)
                                rotate_left; ·(simp only [Act.put, sA_, s0_, s1_, i64_w, i32_w]; rfl)
                                refine pure_ (i := 1) (N := some 137) (v := ?_) (a' := ?_) q7_14 rfl rfl (any_of HT_.out (by kernel_rfl)) (fun _ _ _ h => h) (Or.inl ⟨by rfl, ?_⟩) ?_ ?_; rotate_left; ·(intro w'; go_simp; with_reducible rfl)
                                rotate_left; ·(simp only [Act.put, sA_, s0_, s1_, i64_w, i32_w]; rfl)
                                refine pure_ (i := 2) (N := some 138) (v := ?_) (a' := ?_) q7_15 rfl rfl (any_of HT_.out (by kernel_rfl)) (fun _ _ _ h => h) (Or.inl ⟨by rfl, ?_⟩) ?_ ?_; rotate_left; ·(intro w'; go_simp; with_reducible rfl)
                                rotate_left; ·(simp only [Act.put, sA_, s0_, s1_, i64_w, i32_w]; rfl)
                                refine pure_ (i := 4) (N := some 140) (v := ?_) (a' := ?_) q7_24 rfl rfl (any_of HT_.out (by kernel_rfl)) (fun _ _ _ h => h) (Or.inl ⟨by rfl, ?_⟩) ?_ ?_; rotate_left; ·(intro w'; go_simp; with_reducible rfl)
                                rotate_left; ·(simp only [Act.put, sA_, s0_, s1_, i64_w, i32_w]; rfl)
                                refine pure_ (i := 5) (N := some 141) (v := ?_) (a' := ?_) q7_25 rfl rfl (any_of HT_.out (by kernel_rfl)) (fun _ _ _ h => h) (Or.inl ⟨by rfl, ?_⟩) ?_ ?_; rotate_left; ·(intro w'; go_simp; with_reducible rfl)
                                rotate_left; ·(simp only [Act.put, sA_, s0_, s1_, i64_w, i32_w]; rfl)
                                refine pure_ (i := 6) (N := some 142) (v := ?_) (a' := ?_) q7_26 rfl rfl (any_of HT_.out (by kernel_rfl)) (fun _ _ _ h => h) (Or.inl ⟨by rfl, ?_⟩) ?_ ?_; rotate_left; ·(intro w'; go_simp; with_reducible rfl)
                                rotate_left; ·(simp only [Act.put, sA_, s0_, s1_, i64_w, i32_w]; rfl)
                                refine take_ (i := 3) (N := some 139) (v := ?_) (a' := ?_) q7_17 rfl rfl (take_ofW HT_.out HW_.out (by kernel_rfl)) (fun _ _ _ h => h) (Or.inl ⟨by rfl, ?_⟩) hHeld ?_ ?_; rotate_left; ·(rintro w' ⟨s0, s1, s2, s3⟩; go_simp; with_reducible rfl)
                                rotate_left; ·(simp only [Act.put, sA_, s0_, s1_, i64_w, i32_w]; rfl)
                                refine take_ (i := 7) (N := some 143) (v := ?_) (a' := ?_) q7_18 rfl rfl (take_ofW HT_.out HW_.out (by kernel_rfl)) (fun _ _ _ h => h) (Or.inl ⟨by rfl, ?_⟩) hHeld ?_ ?_; rotate_left; ·(rintro w' ⟨s0, s1, s2, s3⟩; go_simp; with_reducible rfl)
                                rotate_left; ·(simp only [Act.put, sA_, s0_, s1_, i64_w, i32_w]; rfl)
                                refine one_ (i := 8) (N := some 144) q7_19 rfl rfl (one_of HT_.out (by kernel_rfl)) (by decide) (fun K hK => ?_)
                                refine goes_ Tryd.func20 (by kernel_rfl) rfl #[.agg #[.int .i64 ((rd_T24 l0 x20_5).f0), .int .i64 ((rd_T24 l0 x20_5).f1)], .agg #[.int .i64 ((rd_T24 l0 x8_2).f0), .int .i64 ((rd_T24 l0 x8_2).f1)]] (by rfl) rfl rfl (by (try simp only [List.map_toArray, List.map_cons, List.map_nil]); first | done | rfl | (simp only [List.length_drop, List.length_take]; rfl)) ?_
                                with_reducible refine (spans_Within.calls k5 ((rd_T24 l0 x20_5).f0) ((rd_T24 l0 x20_5).f1) ((rd_T24 l0 x8_2).f0) ((rd_T24 l0 x8_2).f1) false t440 _ A62.out).mono ?_
                                rintro e w84 ⟨rfl, hb⟩
                                refine ⟨_, rfl, ?_⟩
                                have n0_ := ak (blk_below (g := gb409) (o := .cells #[.int .i64 a1_0, .int .i64 a1_1] 24 (0, 0)) (by (with_reducible repeat (first | refine bN ?_ _ | refine bD ?_ | refine bA ?_ _)); exact BK409.out) hb)
                                have n1_ := ak (blk_below (g := gb415) (o := .cells #[.int .i64 t412, .int .i64 t413] 24 (0, 0)) (by (with_reducible repeat (first | refine bN ?_ _ | refine bD ?_ | refine bA ?_ _)); exact BK415.out) hb)
                                have n2_ := ak (blk_below (g := gb431) (o := .cells #[.int .i64 t427, .int .i64 t428] 24 (0, 0)) (by (with_reducible repeat (first | refine bN ?_ _ | refine bD ?_ | refine bA ?_ _)); exact BK431.out) hb)
                                have n3_ := ak (below_step (by repeat (first | (with_reducible first | exact HB.out | apply wA | apply wN | apply wD | refine below_set ?_ GE409.out | refine below_set ?_ GE415.out | refine below_set ?_ GE431.out) | exact HB.out)) hb)
                                clear BK409 BK415 BK431 HB
                                have BK409 := n0_
                                have BK415 := n1_
                                have BK431 := n2_
                                have HB := n3_
                                clear n0_ n1_ n2_ n3_
                                (try clear hb)
                                (try clear hb2)
                                (try clear hk)
                                (try clear hi)
                                refine hK.out _ _ ⟨((HB.out.cell (World.block_lt_of_cell? w _ hw437_0)).trans hw437_0), ((HB.out.cell (World.block_lt_of_cell? w _ hw437_1)).trans hw437_1), ((HB.out.cell (World.block_lt_of_cell? w _ hw438_0)).trans hw438_0), ((HB.out.cell (World.block_lt_of_cell? w _ hw438_1)).trans hw438_1)⟩ (fun hHeld => ?_)
                                clear hK K
                                refine norm_ (a' := ?_) ?_ ?_
                                rotate_left
                                ·show Act.put _ (some 144) _ = _
                                 simp only [Act.put, sA_, s0_, s1_, i64_w, i32_w]
                                 rfl
                                refine pure_ (i := 9) (N := some 135) (v := ?_) (a' := ?_) q7_20 rfl rfl (any_of HT_.out (by kernel_rfl)) (fun _ _ _ h => h) (Or.inl ⟨by rfl, ?_⟩) ?_ ?_; rotate_left; ·(intro w'; go_simp; with_reducible rfl)
                                rotate_left; ·(simp only [Act.put, sA_, s0_, s1_, i64_w, i32_w]; rfl)
                                refine pure_ (i := 10) (N := some 145) (v := ?_) (a' := ?_) q7_16 rfl rfl (any_of HT_.out (by kernel_rfl)) (fun _ _ _ h => h) (Or.inl ⟨by rfl, ?_⟩) ?_ ?_; rotate_left; ·(intro w'; go_simp; with_reducible rfl)
                                rotate_left; ·(simp only [Act.put, sA_, s0_, s1_, i64_w, i32_w]; rfl)
                                refine pure_ (i := 11) (N := some 146) (v := ?_) (a' := ?_) q7_21 rfl rfl (any_of HT_.out (by kernel_rfl)) (fun _ _ _ h => h) (Or.inl ⟨by rfl, ?_⟩) ?_ ?_; rotate_left; ·(intro w'; go_simp; with_reducible rfl)
                                rotate_left; ·(simp only [Act.put, sA_, s0_, s1_, i64_w, i32_w]; rfl)
                                refine pure_ (i := 12) (N := some 21) (v := ?_) (a' := ?_) q7_22 rfl rfl (any_of HT_.out (by kernel_rfl)) (fun _ _ _ h => h) (Or.inl ⟨by rfl, ?_⟩) ?_ ?_; rotate_left; ·(intro w'; go_simp; with_reducible rfl)
                                rotate_left; ·(simp only [Act.put, sA_, s0_, s1_, i64_w, i32_w]; rfl)
                                refine pure_ (i := 13) (N := some 22) (v := ?_) (a' := ?_) q7_23 rfl rfl (any_of HT_.out (by kernel_rfl)) (fun _ _ _ h => h) (Or.inl ⟨by rfl, ?_⟩) ?_ ?_; rotate_left; ·(intro w'; go_simp; with_reducible rfl)
                                rotate_left; ·(simp only [Act.put, sA_, s0_, s1_, i64_w, i32_w]; rfl)
                                refine done_ (done_of HT_.out (by kernel_rfl)) ?_
                                try go_wp2
                                have n0_ := ak (bD BK409.out)
                                have n1_ := ak (bD BK415.out)
                                have n2_ := ak (bD BK431.out)
                                have n3_ := ak (wD HB.out)
                                clear BK409 BK415 BK431 HB
                                have BK409 := n0_
                                have BK415 := n1_
                                have BK431 := n2_
                                have HB := n3_
                                clear n0_ n1_ n2_ n3_
                                have p441 : 0 ≤ (x20_5 : Int) := of_decide_eq_true (by first | (with_reducible assumption) | assumption)
                                have q441 : x20_5 < (l0.length : Int) := of_decide_eq_true (by first | (with_reducible assumption) | assumption)
                                obtain ⟨ad441, e441, hx441_0, hx441_1⟩ := at_T24 HR0.out x20_5 p441 q441
                                have hw441_1 := hx441_1
                                have hw441_0 := hx441_0
                                obtain rfl : ad420 = ad441 := (by injection e441)
                                replace hx441_0 := (HB.out.cell (World.block_lt_of_cell? w _ hx441_0)).trans hx441_0
                                replace hx441_1 := (HB.out.cell (World.block_lt_of_cell? w _ hx441_1)).trans hx441_1
                                replace p441 := eq_true p441
                                replace q441 := eq_true q441
                                refine start_ (n := 11) (S := fun w' => w'.cell? ⟨gb409, 0, none⟩ = some (.int .i64 a1_0) ∧ w'.cell? ⟨gb409, 1, none⟩ = some (.int .i64 a1_1) ∧ w'.cell? (ad420.add ((x20_5).toNat * 2)) = some (.int .i64 ((rd_T24 l0 x20_5).f0)) ∧ w'.cell? ⟨(ad420.add ((x20_5).toNat * 2)).block, (ad420.add ((x20_5).toNat * 2)).off + 1, none⟩ = some (.int .i64 ((rd_T24 l0 x20_5).f1))) (ds := []) q7_0 (by kernel_rfl) rfl rfl ⟨(blk_cell BK409.out 0).trans rfl, (blk_cell BK409.out 1).trans rfl, ((HB.out.cell (World.block_lt_of_cell? w _ hw441_0)).trans hw441_0), ((HB.out.cell (World.block_lt_of_cell? w _ hw441_1)).trans hw441_1)⟩ (fun hHeld => ?_); refine with_tabW mummerlaw03_SpansCover.tab27 mummerlaw03_SpansCover.bits27 (fun HT_ HW_ => ?_)
                                generalize w84.drew = w85 at BK409 BK415 BK431 HB hx441_0 hx441_1 hHeld ⊢
                                refine pure_ (i := 0) (N := some 148) (v := ?_) (a' := ?_) q7_1 rfl rfl (any_of HT_.out (by kernel_rfl)) (fun _ _ _ h => h) (Or.inl ⟨by rfl, ?_⟩) ?_ ?_; rotate_left; ·(intro w'; go_simp; with_reducible rfl)
                                rotate_left; ·(simp only [Act.put, sA_, s0_, s1_, i64_w, i32_w]; rfl)
                                refine pure_ (i := 1) (N := some 149) (v := ?_) (a' := ?_) q7_2 rfl rfl (any_of HT_.out (by kernel_rfl)) (fun _ _ _ h => h) (Or.inl ⟨by rfl, ?_⟩) ?_ ?_; rotate_left; ·(intro w'; go_simp; with_reducible rfl)
                                rotate_left; ·(simp only [Act.put, sA_, s0_, s1_, i64_w, i32_w]; rfl)
                                refine pure_ (i := 2) (N := some 150) (v := ?_) (a' := ?_) q7_3 rfl rfl (any_of HT_.out (by kernel_rfl)) (fun _ _ _ h => h) (Or.inl ⟨by rfl, ?_⟩) ?_ ?_; rotate_left; ·(intro w'; go_simp; with_reducible rfl)
                                rotate_left; ·(simp only [Act.put, sA_, s0_, s1_, i64_w, i32_w]; rfl)
                                refine take_ (i := 3) (N := some 151) (v := ?_) (a' := ?_) q7_4 rfl rfl (take_ofW HT_.out HW_.out (by kernel_rfl)) (fun _ _ _ h => h) (Or.inl ⟨by rfl, ?_⟩) hHeld ?_ ?_; rotate_left; ·(rintro w' ⟨s0, s1, s2, s3⟩; go_simp; with_reducible rfl)
                                rotate_left; ·(simp only [Act.put, sA_, s0_, s1_, i64_w, i32_w]; rfl)
                                refine take_ (i := 4) (N := some 152) (v := ?_) (a' := ?_) q7_5 rfl rfl (take_ofW HT_.out HW_.out (by kernel_rfl)) (fun _ _ _ h => h) (Or.inl ⟨by rfl, ?_⟩) hHeld ?_ ?_; rotate_left; ·(rintro w' ⟨s0, s1, s2, s3⟩; go_simp; with_reducible rfl)
                                rotate_left; ·(simp only [Act.put, sA_, s0_, s1_, i64_w, i32_w]; rfl)
                                refine one_ (i := 5) (N := some 153) q7_6 rfl rfl (one_of HT_.out (by kernel_rfl)) (by decide) (fun K hK => ?_)
                                refine goes_ Tryd.func20 (by kernel_rfl) rfl #[.agg #[.int .i64 ((rd_T24 l0 x20_5).f0), .int .i64 ((rd_T24 l0 x20_5).f1)], .agg #[.int .i64 a1_0, .int .i64 a1_1]] (by rfl) rfl rfl (by (try simp only [List.map_toArray, List.map_cons, List.map_nil]); first | done | rfl | (simp only [List.length_drop, List.length_take]; rfl)) ?_
                                with_reducible refine (spans_Within.calls k5 ((rd_T24 l0 x20_5).f0) ((rd_T24 l0 x20_5).f1) a1_0 a1_1 t442 t443 _ A63.out).mono ?_
                                rintro e w86 ⟨rfl, hb⟩
                                refine ⟨_, rfl, ?_⟩
                                have n0_ := ak (blk_below (g := gb409) (o := .cells #[.int .i64 a1_0, .int .i64 a1_1] 24 (0, 0)) (by (with_reducible repeat (first | refine bN ?_ _ | refine bD ?_ | refine bA ?_ _)); exact BK409.out) hb)
                                have n1_ := ak (blk_below (g := gb415) (o := .cells #[.int .i64 t412, .int .i64 t413] 24 (0, 0)) (by (with_reducible repeat (first | refine bN ?_ _ | refine bD ?_ | refine bA ?_ _)); exact BK415.out) hb)
                                have n2_ := ak (blk_below (g := gb431) (o := .cells #[.int .i64 t427, .int .i64 t428] 24 (0, 0)) (by (with_reducible repeat (first | refine bN ?_ _ | refine bD ?_ | refine bA ?_ _)); exact BK431.out) hb)
                                have n3_ := ak (below_step (by repeat (first | (with_reducible first | exact HB.out | apply wA | apply wN | apply wD | refine below_set ?_ GE409.out | refine below_set ?_ GE415.out | refine below_set ?_ GE431.out) | exact HB.out)) hb)
                                clear BK409 BK415 BK431 HB
                                have BK409 := n0_
                                have BK415 := n1_
                                have BK431 := n2_
                                have HB := n3_
                                clear n0_ n1_ n2_ n3_
                                (try clear hb)
                                (try clear hb2)
                                (try clear hk)
                                (try clear hi)
                                refine hK.out _ _ ⟨(blk_cell BK409.out 0).trans rfl, (blk_cell BK409.out 1).trans rfl, ((HB.out.cell (World.block_lt_of_cell? w _ hw441_0)).trans hw441_0), ((HB.out.cell (World.block_lt_of_cell? w _ hw441_1)).trans hw441_1)⟩ (fun hHeld => ?_)
                                clear hK K
                                refine norm_ (a' := ?_) ?_ ?_
                                rotate_left
                                ·show Act.put _ (some 153) _ = _
                                 simp only [Act.put, sA_, s0_, s1_, i64_w, i32_w]
                                 rfl
                                refine pure_ (i := 6) (N := some 147) (v := ?_) (a' := ?_) q7_7 rfl rfl (any_of HT_.out (by kernel_rfl)) (fun _ _ _ h => h) (Or.inl ⟨by rfl, ?_⟩) ?_ ?_; rotate_left; ·(intro w'; go_simp; with_reducible rfl)
                                rotate_left; ·(simp only [Act.put, sA_, s0_, s1_, i64_w, i32_w]; rfl)
                                refine pure_ (i := 7) (N := some 154) (v := ?_) (a' := ?_) q7_8 rfl rfl (any_of HT_.out (by kernel_rfl)) (fun _ _ _ h => h) (Or.inl ⟨by rfl, ?_⟩) ?_ ?_; rotate_left; ·(intro w'; go_simp; with_reducible rfl)
                                rotate_left; ·(simp only [Act.put, sA_, s0_, s1_, i64_w, i32_w]; rfl)
                                refine pure_ (i := 8) (N := some 155) (v := ?_) (a' := ?_) q7_9 rfl rfl (any_of HT_.out (by kernel_rfl)) (fun _ _ _ h => h) (Or.inl ⟨by rfl, ?_⟩) ?_ ?_; rotate_left; ·(intro w'; go_simp; with_reducible rfl)
                                rotate_left; ·(simp only [Act.put, sA_, s0_, s1_, i64_w, i32_w]; rfl)
                                refine pure_ (i := 9) (N := some 23) (v := ?_) (a' := ?_) q7_10 rfl rfl (any_of HT_.out (by kernel_rfl)) (fun _ _ _ h => h) (Or.inl ⟨by rfl, ?_⟩) ?_ ?_; rotate_left; ·(intro w'; go_simp; with_reducible rfl)
                                rotate_left; ·(simp only [Act.put, sA_, s0_, s1_, i64_w, i32_w]; rfl)
                                refine pure_ (i := 10) (N := some 24) (v := ?_) (a' := ?_) q7_11 rfl rfl (any_of HT_.out (by kernel_rfl)) (fun _ _ _ h => h) (Or.inl ⟨by rfl, ?_⟩) ?_ ?_; rotate_left; ·(intro w'; go_simp; with_reducible rfl)
                                rotate_left; ·(simp only [Act.put, sA_, s0_, s1_, i64_w, i32_w]; rfl)
                                refine done_ (done_of HT_.out (by kernel_rfl)) ?_
                                try go_wp2
                                have n0_ := ak (bD BK409.out)
                                have n1_ := ak (bD BK415.out)
                                have n2_ := ak (bD BK431.out)
                                have n3_ := ak (wD HB.out)
                                clear BK409 BK415 BK431 HB
                                have BK409 := n0_
                                have BK415 := n1_
                                have BK431 := n2_
                                have HB := n3_
                                clear n0_ n1_ n2_ n3_
                                have p444 : 0 ≤ (x20_5 : Int) := of_decide_eq_true (by first | (with_reducible assumption) | assumption)
                                have q444 : x20_5 < (l0.length : Int) := of_decide_eq_true (by first | (with_reducible assumption) | assumption)
                                obtain ⟨ad444, e444, hx444_0, hx444_1⟩ := at_T24 HR0.out x20_5 p444 q444
                                have hw444_1 := hx444_1
                                have hw444_0 := hx444_0
                                obtain rfl : ad420 = ad444 := (by injection e444)
                                replace hx444_0 := (HB.out.cell (World.block_lt_of_cell? w _ hx444_0)).trans hx444_0
                                replace hx444_1 := (HB.out.cell (World.block_lt_of_cell? w _ hx444_1)).trans hx444_1
                                replace p444 := eq_true p444
                                replace q444 := eq_true q444
                                refine start_ (n := 10) (S := fun w' => w'.cell? ⟨gb431, 0, none⟩ = some (.int .i64 t427) ∧ w'.cell? ⟨gb431, 1, none⟩ = some (.int .i64 t428) ∧ w'.cell? (ad420.add ((x20_5).toNat * 2)) = some (.int .i64 ((rd_T24 l0 x20_5).f0)) ∧ w'.cell? ⟨(ad420.add ((x20_5).toNat * 2)).block, (ad420.add ((x20_5).toNat * 2)).off + 1, none⟩ = some (.int .i64 ((rd_T24 l0 x20_5).f1))) (ds := []) q7_27 (by kernel_rfl) rfl rfl ⟨(blk_cell BK431.out 0).trans rfl, (blk_cell BK431.out 1).trans rfl, ((HB.out.cell (World.block_lt_of_cell? w _ hw444_0)).trans hw444_0), ((HB.out.cell (World.block_lt_of_cell? w _ hw444_1)).trans hw444_1)⟩ (fun hHeld => ?_); refine with_tabW mummerlaw03_SpansCover.tab30 mummerlaw03_SpansCover.bits30 (fun HT_ HW_ => ?_)
                                generalize w86.drew = w87 at BK409 BK415 BK431 HB hx444_0 hx444_1 hHeld ⊢
                                refine pure_ (i := 0) (N := some 158) (v := ?_) (a' := ?_) q7_28 rfl rfl (any_of HT_.out (by kernel_rfl)) (fun _ _ _ h => h) (Or.inl ⟨by rfl, ?_⟩) ?_ ?_; rotate_left; ·(intro w'; go_simp; with_reducible rfl)
                                rotate_left; ·(simp only [Act.put, sA_, s0_, s1_, i64_w, i32_w]; rfl)
                                refine pure_ (i := 1) (N := some 159) (v := ?_) (a' := ?_) q7_29 rfl rfl (any_of HT_.out (by kernel_rfl)) (fun _ _ _ h => h) (Or.inl ⟨by rfl, ?_⟩) ?_ ?_; rotate_left; ·(intro w'; go_simp; with_reducible rfl)
                                rotate_left; ·(simp only [Act.put, sA_, s0_, s1_, i64_w, i32_w]; rfl)
                                refine pure_ (i := 2) (N := some 160) (v := ?_) (a' := ?_) q7_30 rfl rfl (any_of HT_.out (by kernel_rfl)) (fun _ _ _ h => h) (Or.inl ⟨by rfl, ?_⟩) ?_ ?_; rotate_left; ·(intro w'; go_simp; with_reducible rfl)
                                rotate_left; ·(simp only [Act.put, sA_, s0_, s1_, i64_w, i32_w]; rfl)
                                refine take_ (i := 3) (N := some 161) (v := ?_) (a' := ?_) q7_31 rfl rfl (take_ofW HT_.out HW_.out (by kernel_rfl)) (fun _ _ _ h => h) (Or.inl ⟨by rfl, ?_⟩) hHeld ?_ ?_; rotate_left; ·(rintro w' ⟨s0, s1, s2, s3⟩; go_simp; with_reducible rfl)
                                rotate_left; ·(simp only [Act.put, sA_, s0_, s1_, i64_w, i32_w]; rfl)
                                refine take_ (i := 4) (N := some 162) (v := ?_) (a' := ?_) q7_32 rfl rfl (take_ofW HT_.out HW_.out (by kernel_rfl)) (fun _ _ _ h => h) (Or.inl ⟨by rfl, ?_⟩) hHeld ?_ ?_; rotate_left; ·(rintro w' ⟨s0, s1, s2, s3⟩; go_simp; with_reducible rfl)
                                rotate_left; ·(simp only [Act.put, sA_, s0_, s1_, i64_w, i32_w]; rfl)
                                refine one_ (i := 5) (N := some 163) q7_33 rfl rfl (one_of HT_.out (by kernel_rfl)) (by decide) (fun K hK => ?_)
                                refine goes_ Tryd.func20 (by kernel_rfl) rfl #[.agg #[.int .i64 ((rd_T24 l0 x20_5).f0), .int .i64 ((rd_T24 l0 x20_5).f1)], .agg #[.int .i64 t427, .int .i64 t428]] (by rfl) rfl rfl (by (try simp only [List.map_toArray, List.map_cons, List.map_nil]); first | done | rfl | (simp only [List.length_drop, List.length_take]; rfl)) ?_
                                with_reducible refine (spans_Within.calls k5 ((rd_T24 l0 x20_5).f0) ((rd_T24 l0 x20_5).f1) t427 t428 t445 t446 _ A65.out).mono ?_
                                rintro e w88 ⟨rfl, hb⟩
                                refine ⟨_, rfl, ?_⟩
                                have n0_ := ak (blk_below (g := gb409) (o := .cells #[.int .i64 a1_0, .int .i64 a1_1] 24 (0, 0)) (by (with_reducible repeat (first | refine bN ?_ _ | refine bD ?_ | refine bA ?_ _)); exact BK409.out) hb)
                                have n1_ := ak (blk_below (g := gb415) (o := .cells #[.int .i64 t412, .int .i64 t413] 24 (0, 0)) (by (with_reducible repeat (first | refine bN ?_ _ | refine bD ?_ | refine bA ?_ _)); exact BK415.out) hb)
                                have n2_ := ak (blk_below (g := gb431) (o := .cells #[.int .i64 t427, .int .i64 t428] 24 (0, 0)) (by (with_reducible repeat (first | refine bN ?_ _ | refine bD ?_ | refine bA ?_ _)); exact BK431.out) hb)
                                have n3_ := ak (below_step (by repeat (first | (with_reducible first | exact HB.out | apply wA | apply wN | apply wD | refine below_set ?_ GE409.out | refine below_set ?_ GE415.out | refine below_set ?_ GE431.out) | exact HB.out)) hb)
                                clear BK409 BK415 BK431 HB
                                have BK409 := n0_
                                have BK415 := n1_
                                have BK431 := n2_
                                have HB := n3_
                                clear n0_ n1_ n2_ n3_
                                (try clear hb)
                                (try clear hb2)
                                (try clear hk)
                                (try clear hi)
                                refine hK.out _ _ ⟨(blk_cell BK431.out 0).trans rfl, (blk_cell BK431.out 1).trans rfl, ((HB.out.cell (World.block_lt_of_cell? w _ hw444_0)).trans hw444_0), ((HB.out.cell (World.block_lt_of_cell? w _ hw444_1)).trans hw444_1)⟩ (fun hHeld => ?_)
                                clear hK K
                                refine norm_ (a' := ?_) ?_ ?_
                                rotate_left
                                ·show Act.put _ (some 163) _ = _
                                 simp only [Act.put, sA_, s0_, s1_, i64_w, i32_w]
                                 rfl
                                refine pure_ (i := 6) (N := some 157) (v := ?_) (a' := ?_) q7_34 rfl rfl (any_of HT_.out (by kernel_rfl)) (fun _ _ _ h => h) (Or.inl ⟨by rfl, ?_⟩) ?_ ?_; rotate_left; ·(intro w'; go_simp; with_reducible rfl)
                                rotate_left; ·(simp only [Act.put, sA_, s0_, s1_, i64_w, i32_w]; rfl)
                                refine pure_ (i := 7) (N := some 164) (v := ?_) (a' := ?_) q7_35 rfl rfl (any_of HT_.out (by kernel_rfl)) (fun _ _ _ h => h) (Or.inl ⟨by rfl, ?_⟩) ?_ ?_; rotate_left; ·(intro w'; go_simp; with_reducible rfl)
                                rotate_left; ·(simp only [Act.put, sA_, s0_, s1_, i64_w, i32_w]; rfl)
                                refine pure_ (i := 8) (N := some 165) (v := ?_) (a' := ?_) q7_36 rfl rfl (any_of HT_.out (by kernel_rfl)) (fun _ _ _ h => h) (Or.inl ⟨by rfl, ?_⟩) ?_ ?_; rotate_left; ·(intro w'; go_simp; with_reducible rfl)
                                rotate_left; ·(simp only [Act.put, sA_, s0_, s1_, i64_w, i32_w]; rfl)
                                refine pure_ (i := 9) (N := some 25) (v := ?_) (a' := ?_) q7_37 rfl rfl (any_of HT_.out (by kernel_rfl)) (fun _ _ _ h => h) (Or.inl ⟨by rfl, ?_⟩) ?_ ?_; rotate_left; ·(intro w'; go_simp; with_reducible rfl)
                                rotate_left; ·(simp only [Act.put, sA_, s0_, s1_, i64_w, i32_w]; rfl)
                                refine done_ (done_of HT_.out (by kernel_rfl)) ?_
                                try go_wp2
                                go_roundg k5
                                case measure => have := HJ2.out; have := HK2.out; have := HJ24.out; have := HJ34.out; have := HK5.out; omega
                                case rel => exact ⟨(wrap64 (x20_5 + 1)), (by first | rfl | (simp; done) | (simp [*]; done)), H', ⟨by have := HJ2.out; have := HK2.out; have := HJ24.out; have := HJ34.out; have := HK5.out; omega⟩, ⟨by (with_reducible repeat (first | refine bN ?_ _ | refine bD ?_ | refine bA ?_ _)); exact BK409.out⟩, ⟨by (with_reducible repeat (first | refine bN ?_ _ | refine bD ?_ | refine bA ?_ _)); exact BK415.out⟩, ⟨by (with_reducible repeat (first | refine bN ?_ _ | refine bD ?_ | refine bA ?_ _)); exact BK431.out⟩, ⟨by repeat (first | (with_reducible first | exact HB.out | apply wA | apply wN | apply wD | refine below_set ?_ GE409.out | refine below_set ?_ GE415.out | refine below_set ?_ GE431.out) | exact HB.out)⟩⟩
                              ·rw [if_neg c67] at H
                               have c67b0 : (t443 == 0) = false := beq_eq_false_iff_ne.mpr c67
                               have c67b1 : (t443 != 0) = true := bne_iff_ne.mpr c67
                               exact absurd ((Option.some.inj H).trans hrt.out) (by decide)
                             ·rw [if_neg c66] at H
                              have c66b0 : (t440 == 0) = false := beq_eq_false_iff_ne.mpr c66
                              have c66b1 : (t440 != 0) = true := bne_iff_ne.mpr c66
                              exact absurd ((Option.some.inj H).trans hrt.out) (by decide)
                            ·replace c64 := Bool.eq_false_iff.mpr c64
                             subst c64
                             have H1 : (if t440 = 0 then (if t443 = 0 then (if t439 = true then (if t442 = true then (some false) else (mummerlaw03_SpansCover.l1 k5 l0 x7_24 x8_2 false (wrap64 (x20_5 + 1)) a1_0 a1_1 t412 t413 t427 t428)) else (mummerlaw03_SpansCover.l1 k5 l0 x7_24 x8_2 false (wrap64 (x20_5 + 1)) a1_0 a1_1 t412 t413 t427 t428)) else (some false)) else (some false)) = some r := by rw [if_neg (show ¬ (false = true) by decide)] at H; exact H
                             clear H
                             have H := H1
                             clear H1
                             by_cases c89 : t440 = 0
                             ·rw [if_pos c89] at H
                              have c89b0 : (t440 == 0) = true := beq_iff_eq.mpr c89
                              have c89b1 : (t440 != 0) = false := bne_eq_false_iff_eq.mpr c89
                              clear c89
                              by_cases c90 : t443 = 0
                              ·rw [if_pos c90] at H
                               have c90b0 : (t443 == 0) = true := beq_iff_eq.mpr c90
                               have c90b1 : (t443 != 0) = false := bne_eq_false_iff_eq.mpr c90
                               clear c90
                               by_cases c91 : t439 = true
                               ·subst c91
                                have H1 : (if t442 = true then (some false) else (mummerlaw03_SpansCover.l1 k5 l0 x7_24 x8_2 false (wrap64 (x20_5 + 1)) a1_0 a1_1 t412 t413 t427 t428)) = some r := by rw [if_pos rfl] at H; exact H
                                clear H
                                have H := H1
                                clear H1
                                by_cases c92 : t442 = true
                                ·subst c92
                                 have H1 : (some false) = some r := by rw [if_pos rfl] at H; exact H
                                 clear H
                                 have H := H1
                                 clear H1
                                 exact absurd ((Option.some.inj H).trans hrt.out) (by decide)
                                ·replace c92 := Bool.eq_false_iff.mpr c92
                                 subst c92
                                 have H1 : (mummerlaw03_SpansCover.l1 k5 l0 x7_24 x8_2 false (wrap64 (x20_5 + 1)) a1_0 a1_1 t412 t413 t427 t428) = some r := by rw [if_neg (show ¬ (false = true) by decide)] at H; exact H
                                 clear H
                                 have H := H1
                                 clear H1
                                 have H' := ak H
                                 clear H
                                 try go_wp2
                                 have n0_ := ak (bD BK409.out)
                                 have n1_ := ak (bD BK415.out)
                                 have n2_ := ak (bD BK431.out)
                                 have n3_ := ak (wD HB.out)
                                 clear BK409 BK415 BK431 HB
                                 have BK409 := n0_
                                 have BK415 := n1_
                                 have BK431 := n2_
                                 have HB := n3_
                                 clear n0_ n1_ n2_ n3_
                                 have p437 : 0 ≤ (x20_5 : Int) := of_decide_eq_true (by first | (with_reducible assumption) | assumption)
                                 have q437 : x20_5 < (l0.length : Int) := of_decide_eq_true (by first | (with_reducible assumption) | assumption)
                                 obtain ⟨ad437, e437, hx437_0, hx437_1⟩ := at_T24 HR0.out x20_5 p437 q437
                                 have hw437_1 := hx437_1
                                 have hw437_0 := hx437_0
                                 obtain rfl : ad420 = ad437 := (by injection e437)
                                 replace hx437_0 := (HB.out.cell (World.block_lt_of_cell? w _ hx437_0)).trans hx437_0
                                 replace hx437_1 := (HB.out.cell (World.block_lt_of_cell? w _ hx437_1)).trans hx437_1
                                 replace p437 := eq_true p437
                                 replace q437 := eq_true q437
                                 have p438 : 0 ≤ (x8_2 : Int) := of_decide_eq_true (by first | (with_reducible assumption) | assumption)
                                 have q438 : x8_2 < (l0.length : Int) := of_decide_eq_true (by first | (with_reducible assumption) | assumption)
                                 obtain ⟨ad438, e438, hx438_0, hx438_1⟩ := at_T24 HR0.out x8_2 p438 q438
                                 have hw438_1 := hx438_1
                                 have hw438_0 := hx438_0
                                 obtain rfl : ad420 = ad438 := (by injection e438)
                                 replace hx438_0 := (HB.out.cell (World.block_lt_of_cell? w _ hx438_0)).trans hx438_0
                                 replace hx438_1 := (HB.out.cell (World.block_lt_of_cell? w _ hx438_1)).trans hx438_1
                                 replace p438 := eq_true p438
                                 replace q438 := eq_true q438
                                 refine start_ (n := 14) (S := fun w' => w'.cell? (ad420.add ((x20_5).toNat * 2)) = some (.int .i64 ((rd_T24 l0 x20_5).f0)) ∧ w'.cell? ⟨(ad420.add ((x20_5).toNat * 2)).block, (ad420.add ((x20_5).toNat * 2)).off + 1, none⟩ = some (.int .i64 ((rd_T24 l0 x20_5).f1)) ∧ w'.cell? (ad420.add ((x8_2).toNat * 2)) = some (.int .i64 ((rd_T24 l0 x8_2).f0)) ∧ w'.cell? ⟨(ad420.add ((x8_2).toNat * 2)).block, (ad420.add ((x8_2).toNat * 2)).off + 1, none⟩ = some (.int .i64 ((rd_T24 l0 x8_2).f1))) (ds := []) q7_12 (by kernel_rfl) rfl rfl ⟨((HB.out.cell (World.block_lt_of_cell? w _ hw437_0)).trans hw437_0), ((HB.out.cell (World.block_lt_of_cell? w _ hw437_1)).trans hw437_1), ((HB.out.cell (World.block_lt_of_cell? w _ hw438_0)).trans hw438_0), ((HB.out.cell (World.block_lt_of_cell? w _ hw438_1)).trans hw438_1)⟩ (fun hHeld => ?_); refine with_tabW mummerlaw03_SpansCover.tab26 mummerlaw03_SpansCover.bits26 (fun HT_ HW_ => ?_)
                                 generalize wr.drew = w93 at BK409 BK415 BK431 HB hx437_0 hx437_1 hx438_0 hx438_1 hHeld ⊢
                                 refine pure_ (i := 0) (N := some 136) (v := ?_) (a' := ?_) q7_13 rfl rfl (any_of HT_.out (by kernel_rfl)) (fun _ _ _ h => h) (Or.inl ⟨by rfl, ?_⟩) ?_ ?_; rotate_left; ·(intro w'; go_simp; with_reducible rfl)
                                 rotate_left; ·(simp only [Act.put, sA_, s0_, s1_, i64_w, i32_w]; rfl)
                                 refine pure_ (i := 1) (N := some 137) (v := ?_) (a' := ?_) q7_14 rfl rfl (any_of HT_.out (by kernel_rfl)) (fun _ _ _ h => h) (Or.inl ⟨by rfl, ?_⟩) ?_ ?_; rotate_left; ·(intro w'; go_simp; with_reducible rfl)
                                 rotate_left; ·(simp only [Act.put, sA_, s0_, s1_, i64_w, i32_w]; rfl)
                                 refine pure_ (i := 2) (N := some 138) (v := ?_) (a' := ?_) q7_15 rfl rfl (any_of HT_.out (by kernel_rfl)) (fun _ _ _ h => h) (Or.inl ⟨by rfl, ?_⟩) ?_ ?_; rotate_left; ·(intro w'; go_simp; with_reducible rfl)
                                 rotate_left; ·(simp only [Act.put, sA_, s0_, s1_, i64_w, i32_w]; rfl)
                                 refine pure_ (i := 4) (N := some 140) (v := ?_) (a' := ?_) q7_24 rfl rfl (any_of HT_.out (by kernel_rfl)) (fun _ _ _ h => h) (Or.inl ⟨by rfl, ?_⟩) ?_ ?_; rotate_left; ·(intro w'; go_simp; with_reducible rfl)
                                 rotate_left; ·(simp only [Act.put, sA_, s0_, s1_, i64_w, i32_w]; rfl)
                                 refine pure_ (i := 5) (N := some 141) (v := ?_) (a' := ?_) q7_25 rfl rfl (any_of HT_.out (by kernel_rfl)) (fun _ _ _ h => h) (Or.inl ⟨by rfl, ?_⟩) ?_ ?_; rotate_left; ·(intro w'; go_simp; with_reducible rfl)
                                 rotate_left; ·(simp only [Act.put, sA_, s0_, s1_, i64_w, i32_w]; rfl)
                                 refine pure_ (i := 6) (N := some 142) (v := ?_) (a' := ?_) q7_26 rfl rfl (any_of HT_.out (by kernel_rfl)) (fun _ _ _ h => h) (Or.inl ⟨by rfl, ?_⟩) ?_ ?_; rotate_left; ·(intro w'; go_simp; with_reducible rfl)
                                 rotate_left; ·(simp only [Act.put, sA_, s0_, s1_, i64_w, i32_w]; rfl)
                                 refine take_ (i := 3) (N := some 139) (v := ?_) (a' := ?_) q7_17 rfl rfl (take_ofW HT_.out HW_.out (by kernel_rfl)) (fun _ _ _ h => h) (Or.inl ⟨by rfl, ?_⟩) hHeld ?_ ?_; rotate_left; ·(rintro w' ⟨s0, s1, s2, s3⟩; go_simp; with_reducible rfl)
                                 rotate_left; ·(simp only [Act.put, sA_, s0_, s1_, i64_w, i32_w]; rfl)
                                 refine take_ (i := 7) (N := some 143) (v := ?_) (a' := ?_) q7_18 rfl rfl (take_ofW HT_.out HW_.out (by kernel_rfl)) (fun _ _ _ h => h) (Or.inl ⟨by rfl, ?_⟩) hHeld ?_ ?_; rotate_left; ·(rintro w' ⟨s0, s1, s2, s3⟩; go_simp; with_reducible rfl)
                                 rotate_left; ·(simp only [Act.put, sA_, s0_, s1_, i64_w, i32_w]; rfl)
                                 refine one_ (i := 8) (N := some 144) q7_19 rfl rfl (one_of HT_.out (by kernel_rfl)) (by decide) (fun K hK => ?_)
                                 refine goes_ Tryd.func20 (by kernel_rfl) rfl #[.agg #[.int .i64 ((rd_T24 l0 x20_5).f0), .int .i64 ((rd_T24 l0 x20_5).f1)], .agg #[.int .i64 ((rd_T24 l0 x8_2).f0), .int .i64 ((rd_T24 l0 x8_2).f1)]] (by rfl) rfl rfl (by (try simp only [List.map_toArray, List.map_cons, List.map_nil]); first | done | rfl | (simp only [List.length_drop, List.length_take]; rfl)) ?_
                                 with_reducible refine (spans_Within.calls k5 ((rd_T24 l0 x20_5).f0) ((rd_T24 l0 x20_5).f1) ((rd_T24 l0 x8_2).f0) ((rd_T24 l0 x8_2).f1) true t440 _ A62.out).mono ?_
                                 rintro e w94 ⟨rfl, hb⟩
                                 refine ⟨_, rfl, ?_⟩
                                 have n0_ := ak (blk_below (g := gb409) (o := .cells #[.int .i64 a1_0, .int .i64 a1_1] 24 (0, 0)) (by (with_reducible repeat (first | refine bN ?_ _ | refine bD ?_ | refine bA ?_ _)); exact BK409.out) hb)
                                 have n1_ := ak (blk_below (g := gb415) (o := .cells #[.int .i64 t412, .int .i64 t413] 24 (0, 0)) (by (with_reducible repeat (first | refine bN ?_ _ | refine bD ?_ | refine bA ?_ _)); exact BK415.out) hb)
                                 have n2_ := ak (blk_below (g := gb431) (o := .cells #[.int .i64 t427, .int .i64 t428] 24 (0, 0)) (by (with_reducible repeat (first | refine bN ?_ _ | refine bD ?_ | refine bA ?_ _)); exact BK431.out) hb)
                                 have n3_ := ak (below_step (by repeat (first | (with_reducible first | exact HB.out | apply wA | apply wN | apply wD | refine below_set ?_ GE409.out | refine below_set ?_ GE415.out | refine below_set ?_ GE431.out) | exact HB.out)) hb)
                                 clear BK409 BK415 BK431 HB
                                 have BK409 := n0_
                                 have BK415 := n1_
                                 have BK431 := n2_
                                 have HB := n3_
                                 clear n0_ n1_ n2_ n3_
                                 (try clear hb)
                                 (try clear hb2)
                                 (try clear hk)
                                 (try clear hi)
                                 refine hK.out _ _ ⟨((HB.out.cell (World.block_lt_of_cell? w _ hw437_0)).trans hw437_0), ((HB.out.cell (World.block_lt_of_cell? w _ hw437_1)).trans hw437_1), ((HB.out.cell (World.block_lt_of_cell? w _ hw438_0)).trans hw438_0), ((HB.out.cell (World.block_lt_of_cell? w _ hw438_1)).trans hw438_1)⟩ (fun hHeld => ?_)
                                 clear hK K
                                 refine norm_ (a' := ?_) ?_ ?_
                                 rotate_left
                                 ·show Act.put _ (some 144) _ = _
                                  simp only [Act.put, sA_, s0_, s1_, i64_w, i32_w]
                                  rfl
                                 refine pure_ (i := 9) (N := some 135) (v := ?_) (a' := ?_) q7_20 rfl rfl (any_of HT_.out (by kernel_rfl)) (fun _ _ _ h => h) (Or.inl ⟨by rfl, ?_⟩) ?_ ?_; rotate_left; ·(intro w'; go_simp; with_reducible rfl)
                                 rotate_left; ·(simp only [Act.put, sA_, s0_, s1_, i64_w, i32_w]; rfl)
                                 refine pure_ (i := 10) (N := some 145) (v := ?_) (a' := ?_) q7_16 rfl rfl (any_of HT_.out (by kernel_rfl)) (fun _ _ _ h => h) (Or.inl ⟨by rfl, ?_⟩) ?_ ?_; rotate_left; ·(intro w'; go_simp; with_reducible rfl)
                                 rotate_left; ·(simp only [Act.put, sA_, s0_, s1_, i64_w, i32_w]; rfl)
                                 refine pure_ (i := 11) (N := some 146) (v := ?_) (a' := ?_) q7_21 rfl rfl (any_of HT_.out (by kernel_rfl)) (fun _ _ _ h => h) (Or.inl ⟨by rfl, ?_⟩) ?_ ?_; rotate_left; ·(intro w'; go_simp; with_reducible rfl)
                                 rotate_left; ·(simp only [Act.put, sA_, s0_, s1_, i64_w, i32_w]; rfl)
                                 refine pure_ (i := 12) (N := some 21) (v := ?_) (a' := ?_) q7_22 rfl rfl (any_of HT_.out (by kernel_rfl)) (fun _ _ _ h => h) (Or.inl ⟨by rfl, ?_⟩) ?_ ?_; rotate_left; ·(intro w'; go_simp; with_reducible rfl)
                                 rotate_left; ·(simp only [Act.put, sA_, s0_, s1_, i64_w, i32_w]; rfl)
                                 refine pure_ (i := 13) (N := some 22) (v := ?_) (a' := ?_) q7_23 rfl rfl (any_of HT_.out (by kernel_rfl)) (fun _ _ _ h => h) (Or.inl ⟨by rfl, ?_⟩) ?_ ?_; rotate_left; ·(intro w'; go_simp; with_reducible rfl)
                                 rotate_left; ·(simp only [Act.put, sA_, s0_, s1_, i64_w, i32_w]; rfl)
                                 refine done_ (done_of HT_.out (by kernel_rfl)) ?_
                                 try go_wp2
                                 have n0_ := ak (bD BK409.out)
                                 have n1_ := ak (bD BK415.out)
                                 have n2_ := ak (bD BK431.out)
                                 have n3_ := ak (wD HB.out)
                                 clear BK409 BK415 BK431 HB
                                 have BK409 := n0_
                                 have BK415 := n1_
                                 have BK431 := n2_
                                 have HB := n3_
                                 clear n0_ n1_ n2_ n3_
                                 have p441 : 0 ≤ (x20_5 : Int) := of_decide_eq_true (by first | (with_reducible assumption) | assumption)
                                 have q441 : x20_5 < (l0.length : Int) := of_decide_eq_true (by first | (with_reducible assumption) | assumption)
                                 obtain ⟨ad441, e441, hx441_0, hx441_1⟩ := at_T24 HR0.out x20_5 p441 q441
                                 have hw441_1 := hx441_1
                                 have hw441_0 := hx441_0
                                 obtain rfl : ad420 = ad441 := (by injection e441)
                                 replace hx441_0 := (HB.out.cell (World.block_lt_of_cell? w _ hx441_0)).trans hx441_0
                                 replace hx441_1 := (HB.out.cell (World.block_lt_of_cell? w _ hx441_1)).trans hx441_1
                                 replace p441 := eq_true p441
                                 replace q441 := eq_true q441
                                 refine start_ (n := 11) (S := fun w' => w'.cell? ⟨gb409, 0, none⟩ = some (.int .i64 a1_0) ∧ w'.cell? ⟨gb409, 1, none⟩ = some (.int .i64 a1_1) ∧ w'.cell? (ad420.add ((x20_5).toNat * 2)) = some (.int .i64 ((rd_T24 l0 x20_5).f0)) ∧ w'.cell? ⟨(ad420.add ((x20_5).toNat * 2)).block, (ad420.add ((x20_5).toNat * 2)).off + 1, none⟩ = some (.int .i64 ((rd_T24 l0 x20_5).f1))) (ds := []) q7_0 (by kernel_rfl) rfl rfl ⟨(blk_cell BK409.out 0).trans rfl, (blk_cell BK409.out 1).trans rfl, ((HB.out.cell (World.block_lt_of_cell? w _ hw441_0)).trans hw441_0), ((HB.out.cell (World.block_lt_of_cell? w _ hw441_1)).trans hw441_1)⟩ (fun hHeld => ?_); refine with_tabW mummerlaw03_SpansCover.tab27 mummerlaw03_SpansCover.bits27 (fun HT_ HW_ => ?_)
                                 generalize w94.drew = w95 at BK409 BK415 BK431 HB hx441_0 hx441_1 hHeld ⊢
                                 refine pure_ (i := 0) (N := some 148) (v := ?_) (a' := ?_) q7_1 rfl rfl (any_of HT_.out (by kernel_rfl)) (fun _ _ _ h => h) (Or.inl ⟨by rfl, ?_⟩) ?_ ?_; rotate_left; ·(intro w'; go_simp; with_reducible rfl)
                                 rotate_left; ·(simp only [Act.put, sA_, s0_, s1_, i64_w, i32_w]; rfl)
                                 refine pure_ (i := 1) (N := some 149) (v := ?_) (a' := ?_) q7_2 rfl rfl (any_of HT_.out (by kernel_rfl)) (fun _ _ _ h => h) (Or.inl ⟨by rfl, ?_⟩) ?_ ?_; rotate_left; ·(intro w'; go_simp; with_reducible rfl)
                                 rotate_left; ·(simp only [Act.put, sA_, s0_, s1_, i64_w, i32_w]; rfl)
                                 refine pure_ (i := 2) (N := some 150) (v := ?_) (a' := ?_) q7_3 rfl rfl (any_of HT_.out (by kernel_rfl)) (fun _ _ _ h => h) (Or.inl ⟨by rfl, ?_⟩) ?_ ?_; rotate_left; ·(intro w'; go_simp; with_reducible rfl)
                                 rotate_left; ·(simp only [Act.put, sA_, s0_, s1_, i64_w, i32_w]; rfl)
                                 refine take_ (i := 3) (N := some 151) (v := ?_) (a' := ?_) q7_4 rfl rfl (take_ofW HT_.out HW_.out (by kernel_rfl)) (fun _ _ _ h => h) (Or.inl ⟨by rfl, ?_⟩) hHeld ?_ ?_; rotate_left; ·(rintro w' ⟨s0, s1, s2, s3⟩; go_simp; with_reducible rfl)
                                 rotate_left; ·(simp only [Act.put, sA_, s0_, s1_, i64_w, i32_w]; rfl)
                                 refine take_ (i := 4) (N := some 152) (v := ?_) (a' := ?_) q7_5 rfl rfl (take_ofW HT_.out HW_.out (by kernel_rfl)) (fun _ _ _ h => h) (Or.inl ⟨by rfl, ?_⟩) hHeld ?_ ?_; rotate_left; ·(rintro w' ⟨s0, s1, s2, s3⟩; go_simp; with_reducible rfl)
                                 rotate_left; ·(simp only [Act.put, sA_, s0_, s1_, i64_w, i32_w]; rfl)
                                 refine one_ (i := 5) (N := some 153) q7_6 rfl rfl (one_of HT_.out (by kernel_rfl)) (by decide) (fun K hK => ?_)
                                 refine goes_ Tryd.func20 (by kernel_rfl) rfl #[.agg #[.int .i64 ((rd_T24 l0 x20_5).f0), .int .i64 ((rd_T24 l0 x20_5).f1)], .agg #[.int .i64 a1_0, .int .i64 a1_1]] (by rfl) rfl rfl (by (try simp only [List.map_toArray, List.map_cons, List.map_nil]); first | done | rfl | (simp only [List.length_drop, List.length_take]; rfl)) ?_
                                 with_reducible refine (spans_Within.calls k5 ((rd_T24 l0 x20_5).f0) ((rd_T24 l0 x20_5).f1) a1_0 a1_1 false t443 _ A63.out).mono ?_
                                 rintro e w96 ⟨rfl, hb⟩
                                 refine ⟨_, rfl, ?_⟩
                                 have n0_ := ak (blk_below (g := gb409) (o := .cells #[.int .i64 a1_0, .int .i64 a1_1] 24 (0, 0)) (by (with_reducible repeat (first | refine bN ?_ _ | refine bD ?_ | refine bA ?_ _)); exact BK409.out) hb)
                                 have n1_ := ak (blk_below (g := gb415) (o := .cells #[.int .i64 t412, .int .i64 t413] 24 (0, 0)) (by (with_reducible repeat (first | refine bN ?_ _ | refine bD ?_ | refine bA ?_ _)); exact BK415.out) hb)
                                 have n2_ := ak (blk_below (g := gb431) (o := .cells #[.int .i64 t427, .int .i64 t428] 24 (0, 0)) (by (with_reducible repeat (first | refine bN ?_ _ | refine bD ?_ | refine bA ?_ _)); exact BK431.out) hb)
                                 have n3_ := ak (below_step (by repeat (first | (with_reducible first | exact HB.out | apply wA | apply wN | apply wD | refine below_set ?_ GE409.out | refine below_set ?_ GE415.out | refine below_set ?_ GE431.out) | exact HB.out)) hb)
                                 clear BK409 BK415 BK431 HB
                                 have BK409 := n0_
                                 have BK415 := n1_
                                 have BK431 := n2_
                                 have HB := n3_
                                 clear n0_ n1_ n2_ n3_
                                 (try clear hb)
                                 (try clear hb2)
                                 (try clear hk)
                                 (try clear hi)
                                 refine hK.out _ _ ⟨(blk_cell BK409.out 0).trans rfl, (blk_cell BK409.out 1).trans rfl, ((HB.out.cell (World.block_lt_of_cell? w _ hw441_0)).trans hw441_0), ((HB.out.cell (World.block_lt_of_cell? w _ hw441_1)).trans hw441_1)⟩ (fun hHeld => ?_)
                                 clear hK K
                                 refine norm_ (a' := ?_) ?_ ?_
                                 rotate_left
                                 ·show Act.put _ (some 153) _ = _
                                  simp only [Act.put, sA_, s0_, s1_, i64_w, i32_w]
                                  rfl
                                 refine pure_ (i := 6) (N := some 147) (v := ?_) (a' := ?_) q7_7 rfl rfl (any_of HT_.out (by kernel_rfl)) (fun _ _ _ h => h) (Or.inl ⟨by rfl, ?_⟩) ?_ ?_; rotate_left; ·(intro w'; go_simp; with_reducible rfl)
                                 rotate_left; ·(simp only [Act.put, sA_, s0_, s1_, i64_w, i32_w]; rfl)
                                 refine pure_ (i := 7) (N := some 154) (v := ?_) (a' := ?_) q7_8 rfl rfl (any_of HT_.out (by kernel_rfl)) (fun _ _ _ h => h) (Or.inl ⟨by rfl, ?_⟩) ?_ ?_; rotate_left; ·(intro w'; go_simp; with_reducible rfl)
                                 rotate_left; ·(simp only [Act.put, sA_, s0_, s1_, i64_w, i32_w]; rfl)
                                 refine pure_ (i := 8) (N := some 155) (v := ?_) (a' := ?_) q7_9 rfl rfl (any_of HT_.out (by kernel_rfl)) (fun _ _ _ h => h) (Or.inl ⟨by rfl, ?_⟩) ?_ ?_; rotate_left; ·(intro w'; go_simp; with_reducible rfl)
                                 rotate_left; ·(simp only [Act.put, sA_, s0_, s1_, i64_w, i32_w]; rfl)
                                 refine pure_ (i := 9) (N := some 23) (v := ?_) (a' := ?_) q7_10 rfl rfl (any_of HT_.out (by kernel_rfl)) (fun _ _ _ h => h) (Or.inl ⟨by rfl, ?_⟩) ?_ ?_; rotate_left; ·(intro w'; go_simp; with_reducible rfl)
                                 rotate_left; ·(simp only [Act.put, sA_, s0_, s1_, i64_w, i32_w]; rfl)
                                 refine pure_ (i := 10) (N := some 24) (v := ?_) (a' := ?_) q7_11 rfl rfl (any_of HT_.out (by kernel_rfl)) (fun _ _ _ h => h) (Or.inl ⟨by rfl, ?_⟩) ?_ ?_; rotate_left; ·(intro w'; go_simp; with_reducible rfl)
                                 rotate_left; ·(simp only [Act.put, sA_, s0_, s1_, i64_w, i32_w]; rfl)
                                 refine done_ (done_of HT_.out (by kernel_rfl)) ?_
                                 try go_wp2
                                 go_roundg k5
                                 case measure => have := HJ2.out; have := HK2.out; have := HJ24.out; have := HJ34.out; have := HK5.out; omega
                                 case rel => exact ⟨(wrap64 (x20_5 + 1)), (by first | rfl | (simp; done) | (simp [*]; done)), H', ⟨by have := HJ2.out; have := HK2.out; have := HJ24.out; have := HJ34.out; have := HK5.out; omega⟩, ⟨by (with_reducible repeat (first | refine bN ?_ _ | refine bD ?_ | refine bA ?_ _)); exact BK409.out⟩, ⟨by (with_reducible repeat (first | refine bN ?_ _ | refine bD ?_ | refine bA ?_ _)); exact BK415.out⟩, ⟨by (with_reducible repeat (first | refine bN ?_ _ | refine bD ?_ | refine bA ?_ _)); exact BK431.out⟩, ⟨by repeat (first | (with_reducible first | exact HB.out | apply wA | apply wN | apply wD | refine below_set ?_ GE409.out | refine below_set ?_ GE415.out | refine below_set ?_ GE431.out) | exact HB.out)⟩⟩
                               ·replace c91 := Bool.eq_false_iff.mpr c91
                                subst c91
                                have H1 : (mummerlaw03_SpansCover.l1 k5 l0 x7_24 x8_2 false (wrap64 (x20_5 + 1)) a1_0 a1_1 t412 t413 t427 t428) = some r := by rw [if_neg (show ¬ (false = true) by decide)] at H; exact H
                                clear H
                                have H := H1
                                clear H1
                                have H' := ak H
                                clear H
                                try go_wp2
                                have n0_ := ak (bD BK409.out)
                                have n1_ := ak (bD BK415.out)
                                have n2_ := ak (bD BK431.out)
                                have n3_ := ak (wD HB.out)
                                clear BK409 BK415 BK431 HB
                                have BK409 := n0_
                                have BK415 := n1_
                                have BK431 := n2_
                                have HB := n3_
                                clear n0_ n1_ n2_ n3_
                                have p437 : 0 ≤ (x20_5 : Int) := of_decide_eq_true (by first | (with_reducible assumption) | assumption)
                                have q437 : x20_5 < (l0.length : Int) := of_decide_eq_true (by first | (with_reducible assumption) | assumption)
                                obtain ⟨ad437, e437, hx437_0, hx437_1⟩ := at_T24 HR0.out x20_5 p437 q437
                                have hw437_1 := hx437_1
                                have hw437_0 := hx437_0
                                obtain rfl : ad420 = ad437 := (by injection e437)
                                replace hx437_0 := (HB.out.cell (World.block_lt_of_cell? w _ hx437_0)).trans hx437_0
                                replace hx437_1 := (HB.out.cell (World.block_lt_of_cell? w _ hx437_1)).trans hx437_1
                                replace p437 := eq_true p437
                                replace q437 := eq_true q437
                                have p438 : 0 ≤ (x8_2 : Int) := of_decide_eq_true (by first | (with_reducible assumption) | assumption)
                                have q438 : x8_2 < (l0.length : Int) := of_decide_eq_true (by first | (with_reducible assumption) | assumption)
                                obtain ⟨ad438, e438, hx438_0, hx438_1⟩ := at_T24 HR0.out x8_2 p438 q438
                                have hw438_1 := hx438_1
                                have hw438_0 := hx438_0
                                obtain rfl : ad420 = ad438 := (by injection e438)
                                replace hx438_0 := (HB.out.cell (World.block_lt_of_cell? w _ hx438_0)).trans hx438_0
                                replace hx438_1 := (HB.out.cell (World.block_lt_of_cell? w _ hx438_1)).trans hx438_1
                                replace p438 := eq_true p438
                                replace q438 := eq_true q438
                                refine start_ (n := 14) (S := fun w' => w'.cell? (ad420.add ((x20_5).toNat * 2)) = some (.int .i64 ((rd_T24 l0 x20_5).f0)) ∧ w'.cell? ⟨(ad420.add ((x20_5).toNat * 2)).block, (ad420.add ((x20_5).toNat * 2)).off + 1, none⟩ = some (.int .i64 ((rd_T24 l0 x20_5).f1)) ∧ w'.cell? (ad420.add ((x8_2).toNat * 2)) = some (.int .i64 ((rd_T24 l0 x8_2).f0)) ∧ w'.cell? ⟨(ad420.add ((x8_2).toNat * 2)).block, (ad420.add ((x8_2).toNat * 2)).off + 1, none⟩ = some (.int .i64 ((rd_T24 l0 x8_2).f1))) (ds := []) q7_12 (by kernel_rfl) rfl rfl ⟨((HB.out.cell (World.block_lt_of_cell? w _ hw437_0)).trans hw437_0), ((HB.out.cell (World.block_lt_of_cell? w _ hw437_1)).trans hw437_1), ((HB.out.cell (World.block_lt_of_cell? w _ hw438_0)).trans hw438_0), ((HB.out.cell (World.block_lt_of_cell? w _ hw438_1)).trans hw438_1)⟩ (fun hHeld => ?_); refine with_tabW mummerlaw03_SpansCover.tab26 mummerlaw03_SpansCover.bits26 (fun HT_ HW_ => ?_)
                                generalize wr.drew = w97 at BK409 BK415 BK431 HB hx437_0 hx437_1 hx438_0 hx438_1 hHeld ⊢
                                refine pure_ (i := 0) (N := some 136) (v := ?_) (a' := ?_) q7_13 rfl rfl (any_of HT_.out (by kernel_rfl)) (fun _ _ _ h => h) (Or.inl ⟨by rfl, ?_⟩) ?_ ?_; rotate_left; ·(intro w'; go_simp; with_reducible rfl)
                                rotate_left; ·(simp only [Act.put, sA_, s0_, s1_, i64_w, i32_w]; rfl)
                                refine pure_ (i := 1) (N := some 137) (v := ?_) (a' := ?_) q7_14 rfl rfl (any_of HT_.out (by kernel_rfl)) (fun _ _ _ h => h) (Or.inl ⟨by rfl, ?_⟩) ?_ ?_; rotate_left; ·(intro w'; go_simp; with_reducible rfl)
                                rotate_left; ·(simp only [Act.put, sA_, s0_, s1_, i64_w, i32_w]; rfl)
                                refine pure_ (i := 2) (N := some 138) (v := ?_) (a' := ?_) q7_15 rfl rfl (any_of HT_.out (by kernel_rfl)) (fun _ _ _ h => h) (Or.inl ⟨by rfl, ?_⟩) ?_ ?_; rotate_left; ·(intro w'; go_simp; with_reducible rfl)
                                rotate_left; ·(simp only [Act.put, sA_, s0_, s1_, i64_w, i32_w]; rfl)
                                refine pure_ (i := 4) (N := some 140) (v := ?_) (a' := ?_) q7_24 rfl rfl (any_of HT_.out (by kernel_rfl)) (fun _ _ _ h => h) (Or.inl ⟨by rfl, ?_⟩) ?_ ?_; rotate_left; ·(intro w'; go_simp; with_reducible rfl)
                                rotate_left; ·(simp only [Act.put, sA_, s0_, s1_, i64_w, i32_w]; rfl)
                                refine pure_ (i := 5) (N := some 141) (v := ?_) (a' := ?_) q7_25 rfl rfl (any_of HT_.out (by kernel_rfl)) (fun _ _ _ h => h) (Or.inl ⟨by rfl, ?_⟩) ?_ ?_; rotate_left; ·(intro w'; go_simp; with_reducible rfl)
                                rotate_left; ·(simp only [Act.put, sA_, s0_, s1_, i64_w, i32_w]; rfl)
                                refine pure_ (i := 6) (N := some 142) (v := ?_) (a' := ?_) q7_26 rfl rfl (any_of HT_.out (by kernel_rfl)) (fun _ _ _ h => h) (Or.inl ⟨by rfl, ?_⟩) ?_ ?_; rotate_left; ·(intro w'; go_simp; with_reducible rfl)
                                rotate_left; ·(simp only [Act.put, sA_, s0_, s1_, i64_w, i32_w]; rfl)
                                refine take_ (i := 3) (N := some 139) (v := ?_) (a' := ?_) q7_17 rfl rfl (take_ofW HT_.out HW_.out (by kernel_rfl)) (fun _ _ _ h => h) (Or.inl ⟨by rfl, ?_⟩) hHeld ?_ ?_; rotate_left; ·(rintro w' ⟨s0, s1, s2, s3⟩; go_simp; with_reducible rfl)
                                rotate_left; ·(simp only [Act.put, sA_, s0_, s1_, i64_w, i32_w]; rfl)
                                refine take_ (i := 7) (N := some 143) (v := ?_) (a' := ?_) q7_18 rfl rfl (take_ofW HT_.out HW_.out (by kernel_rfl)) (fun _ _ _ h => h) (Or.inl ⟨by rfl, ?_⟩) hHeld ?_ ?_; rotate_left; ·(rintro w' ⟨s0, s1, s2, s3⟩; go_simp; with_reducible rfl)
                                rotate_left; ·(simp only [Act.put, sA_, s0_, s1_, i64_w, i32_w]; rfl)
                                refine one_ (i := 8) (N := some 144) q7_19 rfl rfl (one_of HT_.out (by kernel_rfl)) (by decide) (fun K hK => ?_)
                                refine goes_ Tryd.func20 (by kernel_rfl) rfl #[.agg #[.int .i64 ((rd_T24 l0 x20_5).f0), .int .i64 ((rd_T24 l0 x20_5).f1)], .agg #[.int .i64 ((rd_T24 l0 x8_2).f0), .int .i64 ((rd_T24 l0 x8_2).f1)]] (by rfl) rfl rfl (by (try simp only [List.map_toArray, List.map_cons, List.map_nil]); first | done | rfl | (simp only [List.length_drop, List.length_take]; rfl)) ?_
                                with_reducible refine (spans_Within.calls k5 ((rd_T24 l0 x20_5).f0) ((rd_T24 l0 x20_5).f1) ((rd_T24 l0 x8_2).f0) ((rd_T24 l0 x8_2).f1) false t440 _ A62.out).mono ?_
                                rintro e w98 ⟨rfl, hb⟩
                                refine ⟨_, rfl, ?_⟩
                                have n0_ := ak (blk_below (g := gb409) (o := .cells #[.int .i64 a1_0, .int .i64 a1_1] 24 (0, 0)) (by (with_reducible repeat (first | refine bN ?_ _ | refine bD ?_ | refine bA ?_ _)); exact BK409.out) hb)
                                have n1_ := ak (blk_below (g := gb415) (o := .cells #[.int .i64 t412, .int .i64 t413] 24 (0, 0)) (by (with_reducible repeat (first | refine bN ?_ _ | refine bD ?_ | refine bA ?_ _)); exact BK415.out) hb)
                                have n2_ := ak (blk_below (g := gb431) (o := .cells #[.int .i64 t427, .int .i64 t428] 24 (0, 0)) (by (with_reducible repeat (first | refine bN ?_ _ | refine bD ?_ | refine bA ?_ _)); exact BK431.out) hb)
                                have n3_ := ak (below_step (by repeat (first | (with_reducible first | exact HB.out | apply wA | apply wN | apply wD | refine below_set ?_ GE409.out | refine below_set ?_ GE415.out | refine below_set ?_ GE431.out) | exact HB.out)) hb)
                                clear BK409 BK415 BK431 HB
                                have BK409 := n0_
                                have BK415 := n1_
                                have BK431 := n2_
                                have HB := n3_
                                clear n0_ n1_ n2_ n3_
                                (try clear hb)
                                (try clear hb2)
                                (try clear hk)
                                (try clear hi)
                                refine hK.out _ _ ⟨((HB.out.cell (World.block_lt_of_cell? w _ hw437_0)).trans hw437_0), ((HB.out.cell (World.block_lt_of_cell? w _ hw437_1)).trans hw437_1), ((HB.out.cell (World.block_lt_of_cell? w _ hw438_0)).trans hw438_0), ((HB.out.cell (World.block_lt_of_cell? w _ hw438_1)).trans hw438_1)⟩ (fun hHeld => ?_)
                                clear hK K
                                refine norm_ (a' := ?_) ?_ ?_
                                rotate_left
                                ·show Act.put _ (some 144) _ = _
                                 simp only [Act.put, sA_, s0_, s1_, i64_w, i32_w]
                                 rfl
                                refine pure_ (i := 9) (N := some 135) (v := ?_) (a' := ?_) q7_20 rfl rfl (any_of HT_.out (by kernel_rfl)) (fun _ _ _ h => h) (Or.inl ⟨by rfl, ?_⟩) ?_ ?_; rotate_left; ·(intro w'; go_simp; with_reducible rfl)
                                rotate_left; ·(simp only [Act.put, sA_, s0_, s1_, i64_w, i32_w]; rfl)
                                refine pure_ (i := 10) (N := some 145) (v := ?_) (a' := ?_) q7_16 rfl rfl (any_of HT_.out (by kernel_rfl)) (fun _ _ _ h => h) (Or.inl ⟨by rfl, ?_⟩) ?_ ?_; rotate_left; ·(intro w'; go_simp; with_reducible rfl)
                                rotate_left; ·(simp only [Act.put, sA_, s0_, s1_, i64_w, i32_w]; rfl)
                                refine pure_ (i := 11) (N := some 146) (v := ?_) (a' := ?_) q7_21 rfl rfl (any_of HT_.out (by kernel_rfl)) (fun _ _ _ h => h) (Or.inl ⟨by rfl, ?_⟩) ?_ ?_; rotate_left; ·(intro w'; go_simp; with_reducible rfl)
                                rotate_left; ·(simp only [Act.put, sA_, s0_, s1_, i64_w, i32_w]; rfl)
                                refine pure_ (i := 12) (N := some 21) (v := ?_) (a' := ?_) q7_22 rfl rfl (any_of HT_.out (by kernel_rfl)) (fun _ _ _ h => h) (Or.inl ⟨by rfl, ?_⟩) ?_ ?_; rotate_left; ·(intro w'; go_simp; with_reducible rfl)
                                rotate_left; ·(simp only [Act.put, sA_, s0_, s1_, i64_w, i32_w]; rfl)
                                refine pure_ (i := 13) (N := some 22) (v := ?_) (a' := ?_) q7_23 rfl rfl (any_of HT_.out (by kernel_rfl)) (fun _ _ _ h => h) (Or.inl ⟨by rfl, ?_⟩) ?_ ?_; rotate_left; ·(intro w'; go_simp; with_reducible rfl)
                                rotate_left; ·(simp only [Act.put, sA_, s0_, s1_, i64_w, i32_w]; rfl)
                                refine done_ (done_of HT_.out (by kernel_rfl)) ?_
                                try go_wp2
                                have n0_ := ak (bD BK409.out)
                                have n1_ := ak (bD BK415.out)
                                have n2_ := ak (bD BK431.out)
                                have n3_ := ak (wD HB.out)
                                clear BK409 BK415 BK431 HB
                                have BK409 := n0_
                                have BK415 := n1_
                                have BK431 := n2_
                                have HB := n3_
                                clear n0_ n1_ n2_ n3_
                                have p441 : 0 ≤ (x20_5 : Int) := of_decide_eq_true (by first | (with_reducible assumption) | assumption)
                                have q441 : x20_5 < (l0.length : Int) := of_decide_eq_true (by first | (with_reducible assumption) | assumption)
                                obtain ⟨ad441, e441, hx441_0, hx441_1⟩ := at_T24 HR0.out x20_5 p441 q441
                                have hw441_1 := hx441_1
                                have hw441_0 := hx441_0
                                obtain rfl : ad420 = ad441 := (by injection e441)
                                replace hx441_0 := (HB.out.cell (World.block_lt_of_cell? w _ hx441_0)).trans hx441_0
                                replace hx441_1 := (HB.out.cell (World.block_lt_of_cell? w _ hx441_1)).trans hx441_1
                                replace p441 := eq_true p441
                                replace q441 := eq_true q441
                                refine start_ (n := 11) (S := fun w' => w'.cell? ⟨gb409, 0, none⟩ = some (.int .i64 a1_0) ∧ w'.cell? ⟨gb409, 1, none⟩ = some (.int .i64 a1_1) ∧ w'.cell? (ad420.add ((x20_5).toNat * 2)) = some (.int .i64 ((rd_T24 l0 x20_5).f0)) ∧ w'.cell? ⟨(ad420.add ((x20_5).toNat * 2)).block, (ad420.add ((x20_5).toNat * 2)).off + 1, none⟩ = some (.int .i64 ((rd_T24 l0 x20_5).f1))) (ds := []) q7_0 (by kernel_rfl) rfl rfl ⟨(blk_cell BK409.out 0).trans rfl, (blk_cell BK409.out 1).trans rfl, ((HB.out.cell (World.block_lt_of_cell? w _ hw441_0)).trans hw441_0), ((HB.out.cell (World.block_lt_of_cell? w _ hw441_1)).trans hw441_1)⟩ (fun hHeld => ?_); refine with_tabW mummerlaw03_SpansCover.tab27 mummerlaw03_SpansCover.bits27 (fun HT_ HW_ => ?_)
                                generalize w98.drew = w99 at BK409 BK415 BK431 HB hx441_0 hx441_1 hHeld ⊢
                                refine pure_ (i := 0) (N := some 148) (v := ?_) (a' := ?_) q7_1 rfl rfl (any_of HT_.out (by kernel_rfl)) (fun _ _ _ h => h) (Or.inl ⟨by rfl, ?_⟩) ?_ ?_; rotate_left; ·(intro w'; go_simp; with_reducible rfl)
                                rotate_left; ·(simp only [Act.put, sA_, s0_, s1_, i64_w, i32_w]; rfl)
                                refine pure_ (i := 1) (N := some 149) (v := ?_) (a' := ?_) q7_2 rfl rfl (any_of HT_.out (by kernel_rfl)) (fun _ _ _ h => h) (Or.inl ⟨by rfl, ?_⟩) ?_ ?_; rotate_left; ·(intro w'; go_simp; with_reducible rfl)
                                rotate_left; ·(simp only [Act.put, sA_, s0_, s1_, i64_w, i32_w]; rfl)
                                refine pure_ (i := 2) (N := some 150) (v := ?_) (a' := ?_) q7_3 rfl rfl (any_of HT_.out (by kernel_rfl)) (fun _ _ _ h => h) (Or.inl ⟨by rfl, ?_⟩) ?_ ?_; rotate_left; ·(intro w'; go_simp; with_reducible rfl)
                                rotate_left; ·(simp only [Act.put, sA_, s0_, s1_, i64_w, i32_w]; rfl)
                                refine take_ (i := 3) (N := some 151) (v := ?_) (a' := ?_) q7_4 rfl rfl (take_ofW HT_.out HW_.out (by kernel_rfl)) (fun _ _ _ h => h) (Or.inl ⟨by rfl, ?_⟩) hHeld ?_ ?_; rotate_left; ·(rintro w' ⟨s0, s1, s2, s3⟩; go_simp; with_reducible rfl)
                                rotate_left; ·(simp only [Act.put, sA_, s0_, s1_, i64_w, i32_w]; rfl)
                                refine take_ (i := 4) (N := some 152) (v := ?_) (a' := ?_) q7_5 rfl rfl (take_ofW HT_.out HW_.out (by kernel_rfl)) (fun _ _ _ h => h) (Or.inl ⟨by rfl, ?_⟩) hHeld ?_ ?_; rotate_left; ·(rintro w' ⟨s0, s1, s2, s3⟩; go_simp; with_reducible rfl)
                                rotate_left; ·(simp only [Act.put, sA_, s0_, s1_, i64_w, i32_w]; rfl)
                                refine one_ (i := 5) (N := some 153) q7_6 rfl rfl (one_of HT_.out (by kernel_rfl)) (by decide) (fun K hK => ?_)
                                refine goes_ Tryd.func20 (by kernel_rfl) rfl #[.agg #[.int .i64 ((rd_T24 l0 x20_5).f0), .int .i64 ((rd_T24 l0 x20_5).f1)], .agg #[.int .i64 a1_0, .int .i64 a1_1]] (by rfl) rfl rfl (by (try simp only [List.map_toArray, List.map_cons, List.map_nil]); first | done | rfl | (simp only [List.length_drop, List.length_take]; rfl)) ?_
                                with_reducible refine (spans_Within.calls k5 ((rd_T24 l0 x20_5).f0) ((rd_T24 l0 x20_5).f1) a1_0 a1_1 t442 t443 _ A63.out).mono ?_
                                rintro e w100 ⟨rfl, hb⟩
                                refine ⟨_, rfl, ?_⟩
                                have n0_ := ak (blk_below (g := gb409) (o := .cells #[.int .i64 a1_0, .int .i64 a1_1] 24 (0, 0)) (by (with_reducible repeat (first | refine bN ?_ _ | refine bD ?_ | refine bA ?_ _)); exact BK409.out) hb)
                                have n1_ := ak (blk_below (g := gb415) (o := .cells #[.int .i64 t412, .int .i64 t413] 24 (0, 0)) (by (with_reducible repeat (first | refine bN ?_ _ | refine bD ?_ | refine bA ?_ _)); exact BK415.out) hb)
                                have n2_ := ak (blk_below (g := gb431) (o := .cells #[.int .i64 t427, .int .i64 t428] 24 (0, 0)) (by (with_reducible repeat (first | refine bN ?_ _ | refine bD ?_ | refine bA ?_ _)); exact BK431.out) hb)
                                have n3_ := ak (below_step (by repeat (first | (with_reducible first | exact HB.out | apply wA | apply wN | apply wD | refine below_set ?_ GE409.out | refine below_set ?_ GE415.out | refine below_set ?_ GE431.out) | exact HB.out)) hb)
                                clear BK409 BK415 BK431 HB
                                have BK409 := n0_
                                have BK415 := n1_
                                have BK431 := n2_
                                have HB := n3_
                                clear n0_ n1_ n2_ n3_
                                (try clear hb)
                                (try clear hb2)
                                (try clear hk)
                                (try clear hi)
                                refine hK.out _ _ ⟨(blk_cell BK409.out 0).trans rfl, (blk_cell BK409.out 1).trans rfl, ((HB.out.cell (World.block_lt_of_cell? w _ hw441_0)).trans hw441_0), ((HB.out.cell (World.block_lt_of_cell? w _ hw441_1)).trans hw441_1)⟩ (fun hHeld => ?_)
                                clear hK K
                                refine norm_ (a' := ?_) ?_ ?_
                                rotate_left
                                ·show Act.put _ (some 153) _ = _
                                 simp only [Act.put, sA_, s0_, s1_, i64_w, i32_w]
                                 rfl
                                refine pure_ (i := 6) (N := some 147) (v := ?_) (a' := ?_) q7_7 rfl rfl (any_of HT_.out (by kernel_rfl)) (fun _ _ _ h => h) (Or.inl ⟨by rfl, ?_⟩) ?_ ?_; rotate_left; ·(intro w'; go_simp; with_reducible rfl)
                                rotate_left; ·(simp only [Act.put, sA_, s0_, s1_, i64_w, i32_w]; rfl)
                                refine pure_ (i := 7) (N := some 154) (v := ?_) (a' := ?_) q7_8 rfl rfl (any_of HT_.out (by kernel_rfl)) (fun _ _ _ h => h) (Or.inl ⟨by rfl, ?_⟩) ?_ ?_; rotate_left; ·(intro w'; go_simp; with_reducible rfl)
                                rotate_left; ·(simp only [Act.put, sA_, s0_, s1_, i64_w, i32_w]; rfl)
                                refine pure_ (i := 8) (N := some 155) (v := ?_) (a' := ?_) q7_9 rfl rfl (any_of HT_.out (by kernel_rfl)) (fun _ _ _ h => h) (Or.inl ⟨by rfl, ?_⟩) ?_ ?_; rotate_left; ·(intro w'; go_simp; with_reducible rfl)
                                rotate_left; ·(simp only [Act.put, sA_, s0_, s1_, i64_w, i32_w]; rfl)
                                refine pure_ (i := 9) (N := some 23) (v := ?_) (a' := ?_) q7_10 rfl rfl (any_of HT_.out (by kernel_rfl)) (fun _ _ _ h => h) (Or.inl ⟨by rfl, ?_⟩) ?_ ?_; rotate_left; ·(intro w'; go_simp; with_reducible rfl)
                                rotate_left; ·(simp only [Act.put, sA_, s0_, s1_, i64_w, i32_w]; rfl)
                                refine pure_ (i := 10) (N := some 24) (v := ?_) (a' := ?_) q7_11 rfl rfl (any_of HT_.out (by kernel_rfl)) (fun _ _ _ h => h) (Or.inl ⟨by rfl, ?_⟩) ?_ ?_; rotate_left; ·(intro w'; go_simp; with_reducible rfl)
                                rotate_left; ·(simp only [Act.put, sA_, s0_, s1_, i64_w, i32_w]; rfl)
                                refine done_ (done_of HT_.out (by kernel_rfl)) ?_
                                try go_wp2
                                go_roundg k5
                                case measure => have := HJ2.out; have := HK2.out; have := HJ24.out; have := HJ34.out; have := HK5.out; omega
                                case rel => exact ⟨(wrap64 (x20_5 + 1)), (by first | rfl | (simp; done) | (simp [*]; done)), H', ⟨by have := HJ2.out; have := HK2.out; have := HJ24.out; have := HJ34.out; have := HK5.out; omega⟩, ⟨by (with_reducible repeat (first | refine bN ?_ _ | refine bD ?_ | refine bA ?_ _)); exact BK409.out⟩, ⟨by (with_reducible repeat (first | refine bN ?_ _ | refine bD ?_ | refine bA ?_ _)); exact BK415.out⟩, ⟨by (with_reducible repeat (first | refine bN ?_ _ | refine bD ?_ | refine bA ?_ _)); exact BK431.out⟩, ⟨by repeat (first | (with_reducible first | exact HB.out | apply wA | apply wN | apply wD | refine below_set ?_ GE409.out | refine below_set ?_ GE415.out | refine below_set ?_ GE431.out) | exact HB.out)⟩⟩
                              ·rw [if_neg c90] at H
                               have c90b0 : (t443 == 0) = false := beq_eq_false_iff_ne.mpr c90
                               have c90b1 : (t443 != 0) = true := bne_iff_ne.mpr c90
                               exact absurd ((Option.some.inj H).trans hrt.out) (by decide)
                             ·rw [if_neg c89] at H
                              have c89b0 : (t440 == 0) = false := beq_eq_false_iff_ne.mpr c89
                              have c89b1 : (t440 != 0) = true := bne_iff_ne.mpr c89
                              exact absurd ((Option.some.inj H).trans hrt.out) (by decide)
                           ·rw [if_neg c61] at H
                            exact absurd H (by simp)
                          ·rw [if_neg c60] at H
                           exact absurd H (by simp)
                         ·rw [if_neg c59] at H
                          exact absurd H (by simp)
                        ·rw [if_neg c58] at H
                         have c58b0 : decide (x20_5 < (l0.length : Int)) = false := decide_eq_false c58
                         clear c58
                         have H' := ak H
                         clear H
                         go_wp2
                         go_roundg k5
                         case measure => have := HJ2.out; have := HK2.out; have := HJ24.out; have := HJ34.out; have := HK5.out; omega
                         case rel => exact ⟨(x7_24), (wrap64 (x8_2 + 1)), (by first | rfl | (simp; done) | (simp [*]; done)), (by first | rfl | (simp; done) | (simp [*]; done)), H', ⟨by have := HJ2.out; have := HK2.out; have := HJ24.out; have := HJ34.out; have := HK5.out; omega⟩, ⟨by (with_reducible repeat (first | refine bN ?_ _ | refine bD ?_ | refine bA ?_ _)); exact BK409.out⟩, ⟨by (with_reducible repeat (first | refine bN ?_ _ | refine bD ?_ | refine bA ?_ _)); exact BK415.out⟩, ⟨by repeat (first | (with_reducible first | exact HB.out | apply wA | apply wN | apply wD | refine below_set ?_ GE409.out | refine below_set ?_ GE415.out | refine below_set ?_ GE431.out) | exact HB.out)⟩⟩
                  ·rw [if_neg c34] at H
                   have c34b0 : (t430 == 0) = false := beq_eq_false_iff_ne.mpr c34
                   have c34b1 : (t430 != 0) = true := bne_iff_ne.mpr c34
                   exact absurd ((Option.some.inj H).trans hrt.out) (by decide)
                 ·rw [if_neg c32] at H
                  exact absurd H (by simp)
                ·rw [if_neg c31] at H
                 exact absurd H (by simp)
            ·replace c24 := Bool.eq_false_iff.mpr c24
             subst c24
             have H1 : (some false) = some r := by rw [if_neg (show ¬ (false = true) by decide)] at H; exact H
             clear H
             have H := H1
             clear H1
             exact absurd ((Option.some.inj H).trans hrt.out) (by decide)
           ·rw [if_neg c23] at H
            have c23b0 : (t425 == 0) = false := beq_eq_false_iff_ne.mpr c23
            have c23b1 : (t425 != 0) = true := bne_iff_ne.mpr c23
            exact absurd ((Option.some.inj H).trans hrt.out) (by decide)
          ·rw [if_neg c22] at H
           have c22b0 : (t422 == 0) = false := beq_eq_false_iff_ne.mpr c22
           have c22b1 : (t422 != 0) = true := bne_iff_ne.mpr c22
           exact absurd ((Option.some.inj H).trans hrt.out) (by decide)
         ·rw [if_neg c19] at H
          exact absurd H (by simp)
        ·rw [if_neg c18] at H
         have c18b0 : decide (x8_2 < (l0.length : Int)) = false := decide_eq_false c18
         clear c18
         replace H := Option.bind_eq_some_iff.mp H
         obtain ⟨⟨t417, t418⟩, A1010, H⟩ := H
         replace H : (if t418 = 0 then (if (t417 == x7_2) = true then ((mummerlaw03_awake.f k2).bind fun t419 => (some t419)) else (some false)) else (some false)) = some r := H
         have A101 := ak A1010
         clear A1010
         by_cases c102 : t418 = 0
         ·rw [if_pos c102] at H
          have c102b0 : (t418 == 0) = true := beq_iff_eq.mpr c102
          have c102b1 : (t418 != 0) = false := bne_eq_false_iff_eq.mpr c102
          clear c102
          by_cases c103 : (t417 == x7_2) = true
          ·rw [if_pos c103] at H
           have c103b0 : (t417 == x7_2) = true := c103
           (try (have c103b1 : decide (t417 = x7_2) = true := by simpa using c103))
           (try (have c103b2 : (t417 == x7_2) = true := by simpa using c103))
           clear c103
           replace H := Option.bind_eq_some_iff.mp H
           obtain ⟨t419, A1040, H⟩ := H
           replace H : (some t419) = some r := H
           have A104 := ak A1040
           clear A1040
           obtain rfl := Option.some.inj H
           have hnb105 := NB415_409.out
           have hnc105 := NB409_415.out
           have hcz106_0 : wr.cell? ⟨gb415, 0, none⟩ = some (.int .i64 t412) := (blk_cell BK415.out 0).trans rfl
           have hcz106_1 : wr.cell? ⟨gb415, 1, none⟩ = some (.int .i64 t413) := (blk_cell BK415.out 1).trans rfl
           have hfz106_0 := blk_frozen BK415.out 0
           have hfz106_1 := blk_frozen BK415.out 1
           have hcz107_0 : wr.cell? ⟨gb409, 0, none⟩ = some (.int .i64 a1_0) := (blk_cell BK409.out 0).trans rfl
           have hcz107_1 : wr.cell? ⟨gb409, 1, none⟩ = some (.int .i64 a1_1) := (blk_cell BK409.out 1).trans rfl
           have hfz107_0 := blk_frozen BK409.out 0
           have hfz107_1 := blk_frozen BK409.out 1
           go_wp2_with (first | ((with_reducible refine gate_callee (f := 20) rfl ?_); refine goesL_ (some 185) rfl rfl Tryd.func20 (by kernel_rfl) rfl #[.agg #[.int .i64 t412, .int .i64 t413], .agg #[.int .i64 a1_0, .int .i64 a1_1]] rfl (by (try simp only [List.map_toArray, List.map_cons, List.map_nil]); first | done | rfl | (simp only [List.length_drop, List.length_take]; rfl)) ?_; (with_reducible refine (spans_Within.calls k2 t412 t413 a1_0 a1_1 t417 t418 _ A101.out).mono ?_); rintro e w108 ⟨rfl, hb⟩; refine ⟨_, rfl, ?_⟩; have n0_ := ak (blk_below (g := gb409) (o := .cells #[.int .i64 a1_0, .int .i64 a1_1] 24 (0, 0)) (by (with_reducible repeat (first | refine bN ?_ _ | refine bD ?_ | refine bA ?_ _)); exact BK409.out) hb); have n1_ := ak (blk_below (g := gb415) (o := .cells #[.int .i64 t412, .int .i64 t413] 24 (0, 0)) (by (with_reducible repeat (first | refine bN ?_ _ | refine bD ?_ | refine bA ?_ _)); exact BK415.out) hb); have n2_ := ak (below_step (by repeat (first | (with_reducible first | exact HB.out | apply wA | apply wN | apply wD | refine below_set ?_ GE409.out | refine below_set ?_ GE415.out) | exact HB.out)) hb); clear BK409; clear BK415; clear HB; have BK409 := n0_; have BK415 := n1_; have HB := n2_; clear n0_ n1_ n2_; (try clear hb); (try clear hb2); (try clear hk); (try clear hi)) | (go_at_call 12; (with_reducible refine (mummerlaw03_awake.calls k2  t419 _ hrt A104.out ⟨Sc.Tab.stay HT.out (by repeat (first | (with_reducible first | exact HB.out | apply wA | apply wN | apply wD) | exact HB.out | (refine below_set ?_ (by assumption)) | (refine below_set ?_ (Aside0.out (by assumption)))))⟩).mono ?_); rintro e w109 ⟨rfl, hb⟩; have n0_ := ak (blk_below (g := gb409) (o := .cells #[.int .i64 a1_0, .int .i64 a1_1] 24 (0, 0)) (by (with_reducible repeat (first | refine bN ?_ _ | refine bD ?_ | refine bA ?_ _)); exact BK409.out) hb); have n1_ := ak (blk_below (g := gb415) (o := .cells #[.int .i64 t412, .int .i64 t413] 24 (0, 0)) (by (with_reducible repeat (first | refine bN ?_ _ | refine bD ?_ | refine bA ?_ _)); exact BK415.out) hb); have n2_ := ak (below_step (by repeat (first | (with_reducible first | exact HB.out | apply wA | apply wN | apply wD | refine below_set ?_ GE409.out | refine below_set ?_ GE415.out) | exact HB.out)) hb); clear BK409; clear BK415; clear HB; have BK409 := n0_; have BK415 := n1_; have HB := n2_; clear n0_ n1_ n2_; (try clear hb); (try clear hb2); (try clear hk); (try clear hi)))
           go_ret
           exact ⟨by first | rfl | (simp [errW_none, errW_some] <;> rfl) | (simp [*, errW_none, errW_some] <;> rfl), by repeat (first | (with_reducible first | exact HB.out | apply wA | apply wN | apply wD | refine below_set ?_ GE409.out | refine below_set ?_ GE415.out) | exact HB.out)⟩
          ·rw [if_neg c103] at H
           have c103b0 : (t417 == x7_2) = false := by simpa using c103
           (try (have c103b1 : decide (t417 = x7_2) = false := by simpa using c103))
           (try (have c103b2 : (t417 == x7_2) = false := by simpa using c103))
           (try (have c103b3 : ¬ (t417 = x7_2) := by simpa using c103))
           clear c103
           exact absurd ((Option.some.inj H).trans hrt.out) (by decide)
         ·rw [if_neg c102] at H
          have c102b0 : (t418 == 0) = false := beq_eq_false_iff_ne.mpr c102
          have c102b1 : (t418 != 0) = true := bne_iff_ne.mpr c102
          exact absurd ((Option.some.inj H).trans hrt.out) (by decide)
     ·rw [if_neg c13] at H
      have c13b0 : (t414 == 0) = false := beq_eq_false_iff_ne.mpr c13
      have c13b1 : (t414 != 0) = true := bne_iff_ne.mpr c13
      by_cases c110 : (t412 == 0 && (t413 == 0)) = true
      ·rw [if_pos c110] at H
       have c110b0 : (t412 == 0 && (t413 == 0)) = true := c110
       (try (have c110b1 : decide (t412 = 0 && (t413 == 0)) = true := by simpa using c110))
       (try (have c110b2 : (t412 == 0 && (t413 == 0)) = true := by simpa using c110))
       clear c110
       replace H := Option.bind_eq_some_iff.mp H
       obtain ⟨t416, A1110, H⟩ := H
       replace H : (some t416) = some r := H
       have A111 := ak A1110
       clear A1110
       obtain rfl := Option.some.inj H
       go_wp2_with (first | ((with_reducible refine gate_callee (f := 23) rfl ?_); refine goesL_ (some 38) rfl rfl Tryd.func23 (by kernel_rfl) rfl #[.slice A0 l0.length c0] rfl (by (try simp only [List.map_toArray, List.map_cons, List.map_nil]); first | done | rfl | (simp only [List.length_drop, List.length_take]; rfl)) ?_; (with_reducible refine (spans_Cover.calls kj2 _ _ l0 t412 t413 t414 _ ?side1 ?side2 A12.out).mono ?_); (case side1 => repeat (first | exact (Kd.C_below HR0.out HB.out) | (with_reducible refine Kd.C_alloc ?_ _) | (with_reducible refine Kd.C_drewN ?_ _) | (with_reducible refine Kd.C_drew ?_))); (case side2 => exact HC0.out); rintro e w112 ⟨rfl, hb⟩; refine ⟨_, rfl, ?_⟩; have n0_ := ak (blk_below (g := gb409) (o := .cells #[.int .i64 a1_0, .int .i64 a1_1] 24 (0, 0)) (by (with_reducible repeat (first | refine bN ?_ _ | refine bD ?_ | refine bA ?_ _)); exact BK409.out) hb); have n1_ := ak (below_step (by repeat (first | (with_reducible first | exact HB.out | apply wA | apply wN | apply wD | refine below_set ?_ GE409.out) | exact HB.out)) hb); clear BK409; clear HB; have BK409 := n0_; have HB := n1_; clear n0_ n1_; (try clear hb); (try clear hb2); (try clear hk); (try clear hi)) | ((with_reducible refine gate_dst (N := 5) rfl ?_); refine box_event ?hg (N := 5) ?hd (cs := #[.int .i64 0, .int .i64 0]) (t := 24) ?hr ?_; (case hd => rfl); (case hg => rfl); (case hr => first | (go_simp; done) | (go_simp; rfl)); intro gb415 hg w113 hbox hb; have n0_ := ak (blk_below (g := gb409) (o := .cells #[.int .i64 a1_0, .int .i64 a1_1] 24 (0, 0)) (by (with_reducible repeat (first | refine bN ?_ _ | refine bD ?_ | refine bA ?_ _)); exact BK409.out) hb); have n1_ := ak (below_step (by repeat (first | (with_reducible first | exact HB.out | apply wA | apply wN | apply wD | refine below_set ?_ GE409.out) | exact HB.out)) hb); have n2_ := ak (hbox); have n3_ := ak ((by rw [hg]; exact (below_size (by repeat (first | (with_reducible first | exact HB.out | apply wA | apply wN | apply wD | refine below_set ?_ GE409.out) | exact HB.out))) : w.heap.size ≤ gb415)); have n4_ := ak ((by rw [hg]; exact (below_size (by repeat (first | (with_reducible first | exact HB.out | apply wA | apply wN | apply wD | refine below_set ?_ GE409.out) | exact HB.out))) : w.heap.size ≤ gb415)); have n5_ := ak ((by rw [hg]; exact Nat.ne_of_lt (blk_lt (g := gb409) (o := .cells #[.int .i64 a1_0, .int .i64 a1_1] 24 (0, 0)) (by (with_reducible repeat (first | refine bN ?_ _ | refine bD ?_ | refine bA ?_ _)); exact BK409.out)) : gb409 ≠ gb415)); have n6_ := ak ((by rw [hg]; exact Nat.ne_of_gt (blk_lt (g := gb409) (o := .cells #[.int .i64 a1_0, .int .i64 a1_1] 24 (0, 0)) (by (with_reducible repeat (first | refine bN ?_ _ | refine bD ?_ | refine bA ?_ _)); exact BK409.out)) : gb415 ≠ gb409)); clear BK409; clear HB; have BK409 := n0_; have HB := n1_; have BK415 := n2_; have GW415 := n3_; have GE415 := n4_; have NB409_415 := n5_; have NB415_409 := n6_; clear n0_ n1_ n2_ n3_ n4_ n5_ n6_; clear hb hbox hg; have hnb114 := NB415_409.out; have hnc114 := NB409_415.out; have hcz115_0 : w113.cell? ⟨gb415, 0, none⟩ = some (.int .i64 0) := (blk_cell BK415.out 0).trans rfl; have hcz115_1 : w113.cell? ⟨gb415, 1, none⟩ = some (.int .i64 0) := (blk_cell BK415.out 1).trans rfl; have hfz115_0 := blk_frozen BK415.out 0; have hfz115_1 := blk_frozen BK415.out 1) | (go_at_call 12; (with_reducible refine (mummerlaw03_awake.calls kj2  t416 _ hrt A111.out ⟨Sc.Tab.stay HT.out (by repeat (first | (with_reducible first | exact HB.out | apply wA | apply wN | apply wD) | exact HB.out | (refine below_set ?_ (by assumption)) | (refine below_set ?_ (Aside0.out (by assumption)))))⟩).mono ?_); rintro e w116 ⟨rfl, hb⟩; have n0_ := ak (blk_below (g := gb409) (o := .cells #[.int .i64 a1_0, .int .i64 a1_1] 24 (0, 0)) (by (with_reducible repeat (first | refine bN ?_ _ | refine bD ?_ | refine bA ?_ _)); refine blk_far ?_ NB409_415.out _; (with_reducible repeat (first | refine bN ?_ _ | refine bD ?_ | refine bA ?_ _)); refine blk_far ?_ NB409_415.out _; (with_reducible repeat (first | refine bN ?_ _ | refine bD ?_ | refine bA ?_ _)); exact BK409.out) hb); have n1_ := ak (blk_below (g := gb415) (o := .cells #[.int .i64 t412, .int .i64 t413] 24 (0, 0)) (by (with_reducible repeat (first | refine bN ?_ _ | refine bD ?_ | refine bA ?_ _)); refine blk_put (cs := #[.int .i64 t412, .int .i64 0]) ?_ 1 _ rfl; (with_reducible repeat (first | refine bN ?_ _ | refine bD ?_ | refine bA ?_ _)); refine blk_put (cs := #[.int .i64 0, .int .i64 0]) ?_ 0 _ rfl; (with_reducible repeat (first | refine bN ?_ _ | refine bD ?_ | refine bA ?_ _)); exact BK415.out) hb); have n2_ := ak (below_step (by repeat (first | (with_reducible first | exact HB.out | apply wA | apply wN | apply wD | refine below_set ?_ GE409.out | refine below_set ?_ GE415.out) | exact HB.out)) hb); clear BK409; clear BK415; clear HB; have BK409 := n0_; have BK415 := n1_; have HB := n2_; clear n0_ n1_ n2_; (try clear hb); (try clear hb2); (try clear hk); (try clear hi)))
       go_ret
       exact ⟨by first | rfl | (simp [errW_none, errW_some] <;> rfl) | (simp [*, errW_none, errW_some] <;> rfl), by repeat (first | (with_reducible first | exact HB.out | apply wA | apply wN | apply wD | refine below_set ?_ GE409.out | refine below_set ?_ GE415.out) | exact HB.out)⟩
      ·rw [if_neg c110] at H
       have c110b0 : (t412 == 0 && (t413 == 0)) = false := by simpa using c110
       (try (have c110b1 : decide (t412 = 0 && (t413 == 0)) = false := by simpa using c110))
       (try (have c110b2 : (t412 == 0 && (t413 == 0)) = false := by simpa using c110))
       (try (have c110b3 : ¬ (t412 = 0 && (t413 == 0)) := by simpa using c110))
       clear c110
       exact absurd ((Option.some.inj H).trans hrt.out) (by decide)
end Go.Proofs.YtnkfdobcmfdhfaaDoor.P
namespace Go.Proofs.YtnkfdobcmfdhfaaDoor.P
open Go.RowKit Go.Proofs.YtnkfdobcmfdhfaaDoorW.PrintWords Go.Proofs.YtnkfdobcmfdhfaaDoorW.PrintLast Sc
set_option linter.unusedVariables false
set_option linter.unusedSimpArgs false
set_option maxRecDepth 20000
theorem awake60 : mummerlaw03_awake.f 60 = some true := by decide +kernel
theorem awake_f (k : Nat) (h : 60 ≤ k) : mummerlaw03_awake.f k = some true := by
  induction h with
  | refl => exact awake60
  | step _ ih => exact mummerlaw03_awake.mono _ _ ih
end Go.Proofs.YtnkfdobcmfdhfaaDoor.P
