import Derived.Test.YtciaocdpojnmcaaGreatDoorKI34
import Derived.Test.YtciaocdpojnmcaaGreatDoorKI35
namespace Go.Proofs.YtciaocdpojnmcaaGreatDoor.P
open Go.RowKit Go.Proofs.YtciaocdpojnmcaaGreatDoorW.PrintWords Go.Proofs.YtciaocdpojnmcaaGreatDoorW.PrintLast Go.Proofs.YtciaocdpojnmcaaGreatDoorW.PrintMore
attribute [local go_sem] max2_int min2_int max_two min_two max_three min_three max_four min_four   -- for this text's walks alone
set_option linter.unusedVariables false
set_option linter.unusedSimpArgs false
mutual
def mummerlaw01_WordsInverse.j0 : Nat → ByteArray → List (S47) → Bool → List Int → Int → Option (Bool)
  | 0, _, _, _, _, _ => none
  | k + 1, x0, x1, x37, x354000, x354001 => if x37 = true then ((mummerlaw01_shown.f k).bind fun t355 => (some t355)) else ((words_Split.f x0).bind fun bt356 => (if bt356.2 = 0 then ((words_Join.f k bt356.1).bind fun bt360 => (if bt360.1.toList = x0.toList then (if bt360.2 = 0 then (mummerlaw01_WordsInverse.j1 k x0 x1 x354000 x354001) else (some false)) else (some false))) else (mummerlaw01_WordsInverse.j1 k x0 x1 x354000 x354001)))
def mummerlaw01_WordsInverse.j1 : Nat → ByteArray → List (S47) → List Int → Int → Option (Bool)
  | 0, _, _, _, _ => none
  | k + 1, x0, x1, x354000, x354001 => (words_Join.f k x1).bind fun bt362 => (if bt362.2 = 0 then ((words_Split.f bt362.1).bind fun bt364 => (if bt364.2 = 0 then ((mummerref01_Same.f k bt364.1 x1).bind fun t368 => (if t368 = true then (mummerlaw01_WordsInverse.j2 k x0 x354000 x354001) else (some false))) else (some false))) else (mummerlaw01_WordsInverse.j2 k x0 x354000 x354001))
def mummerlaw01_WordsInverse.j2 : Nat → ByteArray → List Int → Int → Option (Bool)
  | 0, _, _, _ => none
  | k + 1, x0, x354000, x354001 => (words_Quote.f k x0).bind fun t369 => ((words_Unquote.f k t369).bind fun bt370 => ((words_Unquote.f k x0).bind fun bt372 => (if bt370.1.toList = x0.toList then (if bt370.2 = 0 then (if bt372.2 = 0 then ((words_Quote.f k bt372.1).bind fun t374 => (mummerlaw01_WordsInverse.j3 k x0 (t374.toList != x0.toList) x354000 x354001)) else (mummerlaw01_WordsInverse.j3 k x0 false x354000 x354001)) else (some false)) else (some false))))
def mummerlaw01_WordsInverse.j3 : Nat → ByteArray → Bool → List Int → Int → Option (Bool)
  | 0, _, _, _, _ => none
  | k + 1, x0, x105, x354000, x354001 => if x105 = true then (some false) else ((words_List.f x354000).bind fun bt375 => (if bt375.2 = 0 then ((words_ParseList.f k bt375.1).bind fun bt377 => (if bt377.2 = 0 then ((mummerlaw01_lists.f k bt377.1 x354000).bind fun t381 => (if t381 = true then (mummerlaw01_WordsInverse.j4 k x0 x354000 x354001) else (some false))) else (some false))) else (mummerlaw01_WordsInverse.j4 k x0 x354000 x354001)))
def mummerlaw01_WordsInverse.j4 : Nat → ByteArray → List Int → Int → Option (Bool)
  | 0, _, _, _ => none
  | k + 1, x0, x354000, x354001 => (words_ParseList.f k x0).bind fun bt382 => (if bt382.2 = 0 then ((words_List.f bt382.1).bind fun bt386 => (if bt386.2 = 0 then (if bt386.1.toList = x0.toList then (mummerlaw01_WordsInverse.j5 k x0 x354000 x354001) else (some false)) else (some false))) else (mummerlaw01_WordsInverse.j5 k x0 x354000 x354001))
def mummerlaw01_WordsInverse.j5 : Nat → ByteArray → List Int → Int → Option (Bool)
  | 0, _, _, _ => none
  | k + 1, x0, x354000, x354001 => (words_Digits.f x354001).bind fun t388 => ((words_Int.f t388 x354001 x354001).bind fun bt389 => ((words_Int.f x0 (-9223372036854775808) 9223372036854775807).bind fun bt391 => (if bt389.1 = x354001 then (if bt389.2 = 0 then (if bt391.2 = 0 then ((words_Digits.f bt391.1).bind fun t393 => (if t393.toList = x0.toList then ((mummerlaw01_shown.f k).bind fun t394 => (some t394)) else (some false))) else ((mummerlaw01_shown.f k).bind fun t395 => (some t395))) else (some false)) else (some false))))
end
def mummerlaw01_WordsInverse.f (k : Nat) (a0 : ByteArray) (l1 : List (S47)) (l2_0 : List Int) (a2_1 : Int) : Option (Bool) := if (a0.size : Int) > 3000 then (mummerlaw01_WordsInverse.j0 k a0 l1 true l2_0 a2_1) else ((mummerlaw01_far.f k l1).bind fun t354 => (if t354 = true then (mummerlaw01_WordsInverse.j0 k a0 l1 true l2_0 a2_1) else (mummerlaw01_WordsInverse.j0 k a0 l1 (decide ((l2_0.length : Int) > 510)) l2_0 a2_1)))
def mummerlaw01_WordsInverse.T27 : Bool × List (List Nat × List Nat) := (true, [([], []), ([0], [0]), ([1], [1]), ([], []), ([3], [3]), ([], []), ([5], [5]), ([2, 4, 6, 2], [2, 4, 6]), ([7], [7]), ([8], [8]), ([8], [8]), ([9, 7, 0, 1, 2, 3, 4, 5, 6, 7, 8, 9], [9]), ([10, 11, 0, 1, 2, 3, 4, 5, 6, 7, 8, 9, 10, 11], [10])])
def mummerlaw01_WordsInverse.B27 : List Nat := [0, 1, 3, 0, 8, 0, 32, 127, 255, 511, 511, 1023, 4095]
theorem mummerlaw01_WordsInverse.tab27 : rtab .any (opsOf Tryz.f3 27) = mummerlaw01_WordsInverse.T27 := by kernel_rfl
theorem mummerlaw01_WordsInverse.bits27 : waitsOk mummerlaw01_WordsInverse.T27.2 mummerlaw01_WordsInverse.B27 = true := by kernel_rfl
set_option maxHeartbeats 8000000 in
set_option maxRecDepth 100000 in
theorem mummerlaw01_WordsInverse.calls (k : Nat) (a0 : ByteArray) (A1 : Option Addr) (c1 : Nat) (l1 : List (S47)) (A2_0 : Option Addr) (c2_0 : Nat) (l2_0 : List Int) (a2_1 : Int) (r : Bool) (w : World) (hr1 : Kd.C k47 w A1 l1.length l1) (hc1 : l1.length ≤ c1) (hr2_0 : Kd.C (Kd.int .i64) w A2_0 l2_0.length l2_0) (hc2_0 : l2_0.length ≤ c2_0) (hrt : Aside0 (r = true)) (h : mummerlaw01_WordsInverse.f k a0 l1 l2_0 a2_1 = some r) (HT : Aside0 (Wd.All w)) :
    Calls Tryz.prog 3 #[.string a0, .slice A1 l1.length c1, .agg #[.slice A2_0 l2_0.length c2_0, .int .i64 a2_1]] w fun e w' => e = .returned (.bool r) ∧ Below w.heap.size w w' := by
  have hu25 := Tryz.underlying25
  have HR1 := ak hr1
  have HC1 := ak hc1
  clear hr1 hc1
  have HR2_0 := ak hr2_0
  have HC2_0 := ak hc2_0
  clear hr2_0 hc2_0
  have HB := ak (Below.refl w.heap.size w)
  have H : (if (a0.size : Int) > 3000 then (mummerlaw01_WordsInverse.j0 k a0 l1 true l2_0 a2_1) else ((mummerlaw01_far.f k l1).bind fun t354 => (if t354 = true then (mummerlaw01_WordsInverse.j0 k a0 l1 true l2_0 a2_1) else (mummerlaw01_WordsInverse.j0 k a0 l1 (decide ((l2_0.length : Int) > 510)) l2_0 a2_1)))) = some r := h
  clear h
  have HC4 := ak H
  clear H
  go_enter Tryz.func3, Tryz.ntmps3
  go_upto_region 1 with (first | ((with_reducible refine gate_dst (N := 5) rfl ?_); (try (refine gate_guard (by rfl) ?_; dsimp only)); refine box_event ?hg (N := 5) ?hd (cs := #[.slice A2_0 l2_0.length c2_0, .int .i64 a2_1]) (t := 25) ?hr ?_; (case hd => rfl); (case hg => rfl); (case hr => first | (go_simp; done) | (go_simp; rfl)); intro gb353 hg w5 hbox hb; have n0_ := ak (below_step (by repeat (first | (with_reducible first | exact HB.out | apply wA | apply wN | apply wD) | exact HB.out)) hb); have n1_ := ak (hbox); have n2_ := ak ((by rw [hg]; exact (below_size (by repeat (first | (with_reducible first | exact HB.out | apply wA | apply wN | apply wD) | exact HB.out))) : w.heap.size ≤ gb353)); have n3_ := ak ((by rw [hg]; exact (below_size (by repeat (first | (with_reducible first | exact HB.out | apply wA | apply wN | apply wD) | exact HB.out))) : w.heap.size ≤ gb353)); clear HB; have HB := n0_; have BK353 := n1_; have GW353 := n2_; have GE353 := n3_; clear n0_ n1_ n2_ n3_; clear hb hbox hg))
  (try simp only [Act.put, List.setIfInBounds_toArray, List.set_cons_zero, List.set_cons_succ])
  go_cut [37] (fun v37 wc => ∃ (kq : Nat) (x37_3 : Bool), v37 = .bool x37_3 ∧ Aside0 (mummerlaw01_WordsInverse.j0 kq a0 l1 x37_3 l2_0 a2_1 = some r) ∧ Aside0 (kq ≤ k) ∧ Aside0 (wc.heap[gb353]? = some (.cells #[(.slice A2_0 l2_0.length c2_0), .int .i64 a2_1] 25 (0, 0))) ∧ Aside0 (Below w.heap.size w wc))
  case first =>
    have H := HC4.out
    clear HC4
    by_cases c6 : (a0.size : Int) > 3000
    · rw [if_pos c6] at H
      have c6b0 : decide (3000 < (a0.size : Int)) = true := decide_eq_true c6
      have c6b1 : decide (3000 < a0.size) = true := decide_eq_true (by omega)
      clear c6
      (first | rw [c6b0] | (simp only [i64_w, i32_w]; rw [c6b0]) | skip)
      have H' := ak H
      clear H
      go_wp2
      go_meet
      case rel => exact ⟨_, (true), (by first | rfl | (simp; done) | (simp [*]; done)), H', ⟨by first | omega | exact Nat.le_refl _⟩, ⟨by (with_reducible repeat (first | refine bN ?_ _ | refine bD ?_ | refine bA ?_ _)); exact BK353.out⟩, ⟨by repeat (first | (with_reducible first | exact HB.out | apply wA | apply wN | apply wD | refine below_set ?_ GE353.out) | exact HB.out)⟩⟩
    · rw [if_neg c6] at H
      have c6b0 : decide (3000 < (a0.size : Int)) = false := decide_eq_false c6
      have c6b1 : decide (3000 < a0.size) = false := decide_eq_false (by omega)
      clear c6
      (first | rw [c6b0] | (simp only [i64_w, i32_w]; rw [c6b0]) | skip)
      replace H := Option.bind_eq_some_iff.mp H
      obtain ⟨t354, A70, H⟩ := H
      replace H : (if t354 = true then (mummerlaw01_WordsInverse.j0 k a0 l1 true l2_0 a2_1) else (mummerlaw01_WordsInverse.j0 k a0 l1 (decide ((l2_0.length : Int) > 510)) l2_0 a2_1)) = some r := H
      have A7 := ak A70
      clear A70
      by_cases c8 : t354 = true
      · subst c8
        have H1 : (mummerlaw01_WordsInverse.j0 k a0 l1 true l2_0 a2_1) = some r := by rw [if_pos rfl] at H; exact H
        clear H
        have H := H1
        clear H1
        have H' := ak H
        clear H
        go_wp2_with (first | (go_at_call 6; (with_reducible refine (mummerlaw01_far.calls k _ _ l1 true _ ?side1 ?side2 A7.out).mono ?_); (case side1 => repeat (first | exact (Kd.C_below HR1.out HB.out) | (with_reducible refine Kd.C_alloc ?_ _) | (with_reducible refine Kd.C_drewN ?_ _) | (with_reducible refine Kd.C_drew ?_))); (case side2 => exact HC1.out); rintro e w' ⟨rfl, ⟨nd, rfl⟩⟩))
        go_meet
        case rel => exact ⟨_, (true), (by first | rfl | (simp; done) | (simp [*]; done)), H', ⟨by first | omega | exact Nat.le_refl _⟩, ⟨by (with_reducible repeat (first | refine bN ?_ _ | refine bD ?_ | refine bA ?_ _)); exact BK353.out⟩, ⟨by repeat (first | (with_reducible first | exact HB.out | apply wA | apply wN | apply wD | refine below_set ?_ GE353.out) | exact HB.out)⟩⟩
      · replace c8 := Bool.eq_false_iff.mpr c8
        subst c8
        have H1 : (mummerlaw01_WordsInverse.j0 k a0 l1 (decide ((l2_0.length : Int) > 510)) l2_0 a2_1) = some r := by rw [if_neg (show ¬ (false = true) by decide)] at H; exact H
        clear H
        have H := H1
        clear H1
        have H' := ak H
        clear H
        go_wp2_with (first | (go_at_call 6; (with_reducible refine (mummerlaw01_far.calls k _ _ l1 false _ ?side1 ?side2 A7.out).mono ?_); (case side1 => repeat (first | exact (Kd.C_below HR1.out HB.out) | (with_reducible refine Kd.C_alloc ?_ _) | (with_reducible refine Kd.C_drewN ?_ _) | (with_reducible refine Kd.C_drew ?_))); (case side2 => exact HC1.out); rintro e w' ⟨rfl, ⟨nd, rfl⟩⟩; have hcz9_0 : w5.cell? ⟨gb353, 0, none⟩ = some (.slice A2_0 l2_0.length c2_0) := (blk_cell BK353.out 0).trans rfl; have hcz9_1 : w5.cell? ⟨gb353, 1, none⟩ = some (.int .i64 a2_1) := (blk_cell BK353.out 1).trans rfl; have hfz9_0 := blk_frozen BK353.out 0; have hfz9_1 := blk_frozen BK353.out 1))
        go_meet
        case rel => exact ⟨_, (decide ((l2_0.length : Int) > 510)), (by first | rfl | (simp; done) | (simp [*]; done)), H', ⟨by first | omega | exact Nat.le_refl _⟩, ⟨by (with_reducible repeat (first | refine bN ?_ _ | refine bD ?_ | refine bA ?_ _)); exact BK353.out⟩, ⟨by repeat (first | (with_reducible first | exact HB.out | apply wA | apply wN | apply wD | refine below_set ?_ GE353.out) | exact HB.out)⟩⟩
  case rest =>
    clear HC4
    try clear c1
    try clear c2
    try clear p2
    try clear c3
    try clear c6
    try clear c6b0
    try clear c6b1
    try clear c8
    try clear hcz9_0
    try clear hcz9_1
    try clear hfz9_0
    try clear hfz9_1
    obtain ⟨kq, x37_3, rfl, HA, HJ3, BK353, HB⟩ := hcut
    cases kq with
    | zero => exact absurd HA.out (by simp [mummerlaw01_WordsInverse.j0])
    | succ kj3 =>
      have H := HA.out
      clear HA
      simp only [mummerlaw01_WordsInverse.j0] at H
      by_cases c10 : x37_3 = true
      · subst c10
        have H1 : ((mummerlaw01_shown.f kj3).bind fun t355 => (some t355)) = some r := by rw [if_pos rfl] at H; exact H
        clear H
        have H := H1
        clear H1
        replace H := Option.bind_eq_some_iff.mp H
        obtain ⟨t355, A110, H⟩ := H
        replace H : (some t355) = some r := H
        have A11 := ak A110
        clear A110
        obtain rfl := Option.some.inj H
        go_wp2_with (first | ((with_reducible refine gate_callee (f := 7) rfl ?_); refine goesL_ (some 38) rfl rfl Tryz.func7 (by kernel_rfl) rfl #[] rfl (by (try simp only [List.map_toArray, List.map_cons, List.map_nil]); first | done | rfl | (simp only [List.length_drop, List.length_take]; rfl)) ?_; (with_reducible refine (mummerlaw01_shown.calls kj3  t355 _ hrt A11.out ⟨Wd.All.stay HT.out (by repeat (first | (with_reducible first | exact HB.out | apply wA | apply wN | apply wD) | exact HB.out | (refine below_set ?_ (by assumption)) | (refine below_set ?_ (Aside0.out (by assumption)))))⟩).mono ?_); rintro e w12 ⟨rfl, hb⟩; refine ⟨_, rfl, ?_⟩; have n0_ := ak (blk_below (g := gb353) (o := .cells #[.slice A2_0 l2_0.length c2_0, .int .i64 a2_1] 25 (0, 0)) (by (with_reducible repeat (first | refine bN ?_ _ | refine bD ?_ | refine bA ?_ _)); exact BK353.out) hb); have n1_ := ak (below_step (by repeat (first | (with_reducible first | exact HB.out | apply wA | apply wN | apply wD | refine below_set ?_ GE353.out) | exact HB.out)) hb); clear BK353; clear HB; have BK353 := n0_; have HB := n1_; clear n0_ n1_; (try clear hb); (try clear hb2); (try clear hk); (try clear hi)))
        go_ret
        exact ⟨by first | rfl | (simp [errW_none, errW_some] <;> rfl) | (simp [*, errW_none, errW_some] <;> rfl), by repeat (first | (with_reducible first | exact HB.out | apply wA | apply wN | apply wD | refine below_set ?_ GE353.out) | exact HB.out)⟩
      · replace c10 := Bool.eq_false_iff.mpr c10
        subst c10
        have H1 : ((words_Split.f a0).bind fun bt356 => (if bt356.2 = 0 then ((words_Join.f kj3 bt356.1).bind fun bt360 => (if bt360.1.toList = a0.toList then (if bt360.2 = 0 then (mummerlaw01_WordsInverse.j1 kj3 a0 l1 l2_0 a2_1) else (some false)) else (some false))) else (mummerlaw01_WordsInverse.j1 kj3 a0 l1 l2_0 a2_1))) = some r := by rw [if_neg (show ¬ (false = true) by decide)] at H; exact H
        clear H
        have H := H1
        clear H1
        replace H := Option.bind_eq_some_iff.mp H
        obtain ⟨⟨t356, t357⟩, A130, H⟩ := H
        replace H : (if t357 = 0 then ((words_Join.f kj3 t356).bind fun bt360 => (if bt360.1.toList = a0.toList then (if bt360.2 = 0 then (mummerlaw01_WordsInverse.j1 kj3 a0 l1 l2_0 a2_1) else (some false)) else (some false))) else (mummerlaw01_WordsInverse.j1 kj3 a0 l1 l2_0 a2_1)) = some r := H
        have A13 := ak A130
        clear A130
        have HC14 := ak H
        clear H
        go_upto_if 45 with (first | ((with_reducible refine gate_callee (f := 8) rfl ?_); refine goesL_ (some 41) rfl rfl Tryz.func8 (by kernel_rfl) rfl #[.string a0] rfl (by (try simp only [List.map_toArray, List.map_cons, List.map_nil]); first | done | rfl | (simp only [List.length_drop, List.length_take]; rfl)) ?_; (with_reducible refine (words_Split.calls a0 t356 t357 _ A13.out ⟨Wd.All.stay HT.out (by repeat (first | (with_reducible first | exact HB.out | apply wA | apply wN | apply wD) | exact HB.out | (refine below_set ?_ (by assumption)) | (refine below_set ?_ (Aside0.out (by assumption)))))⟩).mono ?_); rintro e w15 ⟨v358, rfl, ho0, hb⟩; refine ⟨_, rfl, ?_⟩; have n0_ := ak (Kd.R_lower ho0 (below_size (by repeat (first | (with_reducible first | exact HB.out | apply wA | apply wN | apply wD | refine below_set ?_ GE353.out) | exact HB.out)))); have n1_ := ak (blk_below (g := gb353) (o := .cells #[.slice A2_0 l2_0.length c2_0, .int .i64 a2_1] 25 (0, 0)) (by (with_reducible repeat (first | refine bN ?_ _ | refine bD ?_ | refine bA ?_ _)); exact BK353.out) hb); have n2_ := ak (below_step (by repeat (first | (with_reducible first | exact HB.out | apply wA | apply wN | apply wD | refine below_set ?_ GE353.out) | exact HB.out)) hb); clear BK353; clear HB; have HO359 := n0_; have BK353 := n1_; have HB := n2_; clear n0_ n1_ n2_; (try clear hb); (try clear hb2); (try clear hk); (try clear hi); (try clear ho0)))
        (try simp only [Act.put, List.setIfInBounds_toArray, List.set_cons_zero, List.set_cons_succ])
        go_cut [] (fun wc => ∃ (kq : Nat), Aside0 (mummerlaw01_WordsInverse.j1 kq a0 l1 l2_0 a2_1 = some r) ∧ Aside0 (kq ≤ kj3) ∧ Aside0 (wc.heap[gb353]? = some (.cells #[(.slice A2_0 l2_0.length c2_0), .int .i64 a2_1] 25 (0, 0))) ∧ Aside0 (Below w.heap.size w wc))
        case first =>
          have H := HC14.out
          clear HC14
          by_cases c16 : t357 = 0
          · rw [if_pos c16] at H
            have c16b0 : (t357 == 0) = true := beq_iff_eq.mpr c16
            have c16b1 : (t357 != 0) = false := bne_eq_false_iff_eq.mpr c16
            clear c16
            (first | rw [c16b0] | (simp only [i64_w, i32_w]; rw [c16b0]) | skip)
            replace H := Option.bind_eq_some_iff.mp H
            obtain ⟨⟨t360, t361⟩, A170, H⟩ := H
            replace H : (if t360.toList = a0.toList then (if t361 = 0 then (mummerlaw01_WordsInverse.j1 kj3 a0 l1 l2_0 a2_1) else (some false)) else (some false)) = some r := H
            have A17 := ak A170
            clear A170
            by_cases c18 : t360.toList = a0.toList
            · rw [if_pos c18] at H
              have c18b0 : (t360.toList == a0.toList) = true := beq_iff_eq.mpr c18
              have c18b1 : (t360.toList != a0.toList) = false := bne_eq_false_iff_eq.mpr c18
              clear c18
              by_cases c19 : t361 = 0
              · rw [if_pos c19] at H
                have c19b0 : (t361 == 0) = true := beq_iff_eq.mpr c19
                have c19b1 : (t361 != 0) = false := bne_eq_false_iff_eq.mpr c19
                clear c19
                have H' := ak H
                clear H
                obtain ⟨Ao20, co20, eo20⟩ := Kd.R_slice HO359.out
                subst eo20
                go_wp2_with (first | ((with_reducible refine gate_callee (f := 9) rfl ?_); refine goesL_ (some 48) rfl rfl Tryz.func9 (by kernel_rfl) rfl #[.slice Ao20 t356.length co20] rfl (by (try simp only [List.map_toArray, List.map_cons, List.map_nil]); first | done | rfl | (simp only [List.length_drop, List.length_take]; rfl)) ?_; (with_reducible refine (words_Join.calls kj3 _ _ t356 t360 t361 _ ?side1 ?side2 A17.out ⟨Wd.All.stay HT.out (by repeat (first | (with_reducible first | exact HB.out | apply wA | apply wN | apply wD) | exact HB.out | (refine below_set ?_ (by assumption)) | (refine below_set ?_ (Aside0.out (by assumption)))))⟩).mono ?_); (case side1 => repeat (first | exact (Kd.R_reads' HO359.out).2.2 | (with_reducible refine Kd.C_alloc ?_ _) | (with_reducible refine Kd.C_drewN ?_ _) | (with_reducible refine Kd.C_drew ?_))); (case side2 => exact (Kd.R_reads' HO359.out).2.1); rintro e w21 ⟨rfl, hb⟩; refine ⟨_, rfl, ?_⟩; have n0_ := ak (Kd.R_below (by (with_reducible repeat (first | apply Kd.R_alloc | apply Kd.R_drewN | apply Kd.R_drew)); exact HO359.out) hb); have n1_ := ak (blk_below (g := gb353) (o := .cells #[.slice A2_0 l2_0.length c2_0, .int .i64 a2_1] 25 (0, 0)) (by (with_reducible repeat (first | refine bN ?_ _ | refine bD ?_ | refine bA ?_ _)); exact BK353.out) hb); have n2_ := ak (below_step (by repeat (first | (with_reducible first | exact HB.out | apply wA | apply wN | apply wD | refine below_set ?_ GE353.out) | exact HB.out)) hb); clear HO359; clear BK353; clear HB; have HO359 := n0_; have BK353 := n1_; have HB := n2_; clear n0_ n1_ n2_; (try clear hb); (try clear hb2); (try clear hk); (try clear hi)))
                go_meet
                case rel => exact ⟨_, H', ⟨by have := HJ3.out; first | omega | exact Nat.le_refl _⟩, ⟨by (with_reducible repeat (first | refine bN ?_ _ | refine bD ?_ | refine bA ?_ _)); exact BK353.out⟩, ⟨by repeat (first | (with_reducible first | exact HB.out | apply wA | apply wN | apply wD | refine below_set ?_ GE353.out) | exact HB.out)⟩⟩
              · rw [if_neg c19] at H
                have c19b0 : (t361 == 0) = false := beq_eq_false_iff_ne.mpr c19
                have c19b1 : (t361 != 0) = true := bne_iff_ne.mpr c19
                exact absurd ((Option.some.inj H).trans hrt.out) (by decide)
            · rw [if_neg c18] at H
              have c18b0 : (t360.toList == a0.toList) = false := beq_eq_false_iff_ne.mpr c18
              have c18b1 : (t360.toList != a0.toList) = true := bne_iff_ne.mpr c18
              exact absurd ((Option.some.inj H).trans hrt.out) (by decide)
          · rw [if_neg c16] at H
            have c16b0 : (t357 == 0) = false := beq_eq_false_iff_ne.mpr c16
            have c16b1 : (t357 != 0) = true := bne_iff_ne.mpr c16
            (first | rw [c16b0] | (simp only [i64_w, i32_w]; rw [c16b0]) | skip)
            have H' := ak H
            clear H
            go_wp2
            go_meet
            case rel => exact ⟨_, H', ⟨by have := HJ3.out; first | omega | exact Nat.le_refl _⟩, ⟨by (with_reducible repeat (first | refine bN ?_ _ | refine bD ?_ | refine bA ?_ _)); exact BK353.out⟩, ⟨by repeat (first | (with_reducible first | exact HB.out | apply wA | apply wN | apply wD | refine below_set ?_ GE353.out) | exact HB.out)⟩⟩
        case rest =>
          clear HC14
          try clear c1
          try clear c2
          try clear p2
          try clear c3
          try clear c6
          try clear c6b0
          try clear c6b1
          try clear c7
          try clear c8
          try clear c9
          try clear c10
          try clear c16
          try clear c16b0
          try clear c16b1
          try clear c18
          try clear c18b0
          try clear c18b1
          try clear c19
          try clear c19b0
          try clear c19b1
          try clear hcz9_0
          try clear hcz9_1
          try clear hfz9_0
          try clear hfz9_1
          try clear p2
          obtain ⟨kq, HA, HJ13, BK353, HB⟩ := hcut
          cases kq with
          | zero => exact absurd HA.out (by simp [mummerlaw01_WordsInverse.j1])
          | succ kj13 =>
            have H := HA.out
            clear HA
            simp only [mummerlaw01_WordsInverse.j1] at H
            replace H := Option.bind_eq_some_iff.mp H
            obtain ⟨⟨t362, t363⟩, A220, H⟩ := H
            replace H : (if t363 = 0 then ((words_Split.f t362).bind fun bt364 => (if bt364.2 = 0 then ((mummerref01_Same.f kj13 bt364.1 l1).bind fun t368 => (if t368 = true then (mummerlaw01_WordsInverse.j2 kj13 a0 l2_0 a2_1) else (some false))) else (some false))) else (mummerlaw01_WordsInverse.j2 kj13 a0 l2_0 a2_1)) = some r := H
            have A22 := ak A220
            clear A220
            have HC23 := ak H
            clear H
            go_upto_if 64 with (first | ((with_reducible refine gate_callee (f := 9) rfl ?_); refine goesL_ (some 60) rfl rfl Tryz.func9 (by kernel_rfl) rfl #[.slice A1 l1.length c1] rfl (by (try simp only [List.map_toArray, List.map_cons, List.map_nil]); first | done | rfl | (simp only [List.length_drop, List.length_take]; rfl)) ?_; (with_reducible refine (words_Join.calls kj13 _ _ l1 t362 t363 _ ?side1 ?side2 A22.out ⟨Wd.All.stay HT.out (by repeat (first | (with_reducible first | exact HB.out | apply wA | apply wN | apply wD) | exact HB.out | (refine below_set ?_ (by assumption)) | (refine below_set ?_ (Aside0.out (by assumption)))))⟩).mono ?_); (case side1 => repeat (first | exact (Kd.C_below HR1.out HB.out) | (with_reducible refine Kd.C_alloc ?_ _) | (with_reducible refine Kd.C_drewN ?_ _) | (with_reducible refine Kd.C_drew ?_))); (case side2 => exact HC1.out); rintro e w24 ⟨rfl, hb⟩; refine ⟨_, rfl, ?_⟩; have n0_ := ak (blk_below (g := gb353) (o := .cells #[.slice A2_0 l2_0.length c2_0, .int .i64 a2_1] 25 (0, 0)) (by (with_reducible repeat (first | refine bN ?_ _ | refine bD ?_ | refine bA ?_ _)); exact BK353.out) hb); have n1_ := ak (below_step (by repeat (first | (with_reducible first | exact HB.out | apply wA | apply wN | apply wD | refine below_set ?_ GE353.out) | exact HB.out)) hb); clear BK353; clear HB; have BK353 := n0_; have HB := n1_; clear n0_ n1_; (try clear hb); (try clear hb2); (try clear hk); (try clear hi)))
            (try simp only [Act.put, List.setIfInBounds_toArray, List.set_cons_zero, List.set_cons_succ])
            go_cut [] (fun wc => ∃ (kq : Nat), Aside0 (mummerlaw01_WordsInverse.j2 kq a0 l2_0 a2_1 = some r) ∧ Aside0 (kq ≤ kj13) ∧ Aside0 (wc.heap[gb353]? = some (.cells #[(.slice A2_0 l2_0.length c2_0), .int .i64 a2_1] 25 (0, 0))) ∧ Aside0 (Below w.heap.size w wc))
            case first =>
              have H := HC23.out
              clear HC23
              by_cases c25 : t363 = 0
              · rw [if_pos c25] at H
                have c25b0 : (t363 == 0) = true := beq_iff_eq.mpr c25
                have c25b1 : (t363 != 0) = false := bne_eq_false_iff_eq.mpr c25
                clear c25
                (first | rw [c25b0] | (simp only [i64_w, i32_w]; rw [c25b0]) | skip)
                replace H := Option.bind_eq_some_iff.mp H
                obtain ⟨⟨t364, t365⟩, A260, H⟩ := H
                replace H : (if t365 = 0 then ((mummerref01_Same.f kj13 t364 l1).bind fun t368 => (if t368 = true then (mummerlaw01_WordsInverse.j2 kj13 a0 l2_0 a2_1) else (some false))) else (some false)) = some r := H
                have A26 := ak A260
                clear A260
                by_cases c27 : t365 = 0
                · rw [if_pos c27] at H
                  have c27b0 : (t365 == 0) = true := beq_iff_eq.mpr c27
                  have c27b1 : (t365 != 0) = false := bne_eq_false_iff_eq.mpr c27
                  clear c27
                  replace H := Option.bind_eq_some_iff.mp H
                  obtain ⟨t368, A280, H⟩ := H
                  replace H : (if t368 = true then (mummerlaw01_WordsInverse.j2 kj13 a0 l2_0 a2_1) else (some false)) = some r := H
                  have A28 := ak A280
                  clear A280
                  by_cases c29 : t368 = true
                  · subst c29
                    have H1 : (mummerlaw01_WordsInverse.j2 kj13 a0 l2_0 a2_1) = some r := by rw [if_pos rfl] at H; exact H
                    clear H
                    have H := H1
                    clear H1
                    have H' := ak H
                    clear H
                    go_wp2_with (first | ((with_reducible refine gate_callee (f := 8) rfl ?_); refine goesL_ (some 67) rfl rfl Tryz.func8 (by kernel_rfl) rfl #[.string t362] rfl (by (try simp only [List.map_toArray, List.map_cons, List.map_nil]); first | done | rfl | (simp only [List.length_drop, List.length_take]; rfl)) ?_; (with_reducible refine (words_Split.calls t362 t364 t365 _ A26.out ⟨Wd.All.stay HT.out (by repeat (first | (with_reducible first | exact HB.out | apply wA | apply wN | apply wD) | exact HB.out | (refine below_set ?_ (by assumption)) | (refine below_set ?_ (Aside0.out (by assumption)))))⟩).mono ?_); rintro e w30 ⟨v366, rfl, ho0, hb⟩; refine ⟨_, rfl, ?_⟩; have n0_ := ak (Kd.R_lower ho0 (below_size (by repeat (first | (with_reducible first | exact HB.out | apply wA | apply wN | apply wD | refine below_set ?_ GE353.out) | exact HB.out)))); have n1_ := ak (blk_below (g := gb353) (o := .cells #[.slice A2_0 l2_0.length c2_0, .int .i64 a2_1] 25 (0, 0)) (by (with_reducible repeat (first | refine bN ?_ _ | refine bD ?_ | refine bA ?_ _)); exact BK353.out) hb); have n2_ := ak (below_step (by repeat (first | (with_reducible first | exact HB.out | apply wA | apply wN | apply wD | refine below_set ?_ GE353.out) | exact HB.out)) hb); clear BK353; clear HB; have HO367 := n0_; have BK353 := n1_; have HB := n2_; clear n0_ n1_ n2_; (try clear hb); (try clear hb2); (try clear hk); (try clear hi); (try clear ho0); obtain ⟨Ao31, co31, eo31⟩ := Kd.R_slice HO367.out; subst eo31) | (go_at_call 10; (with_reducible refine (mummerref01_Same.calls kj13 _ _ t364 _ _ l1 true _ ?side1 ?side2 ?side3 ?side4 A28.out).mono ?_); (case side1 => repeat (first | exact (Kd.R_reads' HO367.out).2.2 | (with_reducible refine Kd.C_alloc ?_ _) | (with_reducible refine Kd.C_drewN ?_ _) | (with_reducible refine Kd.C_drew ?_))); (case side2 => exact (Kd.R_reads' HO367.out).2.1); (case side3 => repeat (first | exact (Kd.C_below HR1.out HB.out) | (with_reducible refine Kd.C_alloc ?_ _) | (with_reducible refine Kd.C_drewN ?_ _) | (with_reducible refine Kd.C_drew ?_))); (case side4 => exact HC1.out); rintro e w' ⟨rfl, ⟨nd, rfl⟩⟩))
                    go_meet
                    case rel => exact ⟨_, H', ⟨by have := HJ3.out; have := HJ13.out; first | omega | exact Nat.le_refl _⟩, ⟨by (with_reducible repeat (first | refine bN ?_ _ | refine bD ?_ | refine bA ?_ _)); exact BK353.out⟩, ⟨by repeat (first | (with_reducible first | exact HB.out | apply wA | apply wN | apply wD | refine below_set ?_ GE353.out) | exact HB.out)⟩⟩
                  · replace c29 := Bool.eq_false_iff.mpr c29
                    subst c29
                    have H1 : (some false) = some r := by rw [if_neg (show ¬ (false = true) by decide)] at H; exact H
                    clear H
                    have H := H1
                    clear H1
                    exact absurd ((Option.some.inj H).trans hrt.out) (by decide)
                · rw [if_neg c27] at H
                  have c27b0 : (t365 == 0) = false := beq_eq_false_iff_ne.mpr c27
                  have c27b1 : (t365 != 0) = true := bne_iff_ne.mpr c27
                  exact absurd ((Option.some.inj H).trans hrt.out) (by decide)
              · rw [if_neg c25] at H
                have c25b0 : (t363 == 0) = false := beq_eq_false_iff_ne.mpr c25
                have c25b1 : (t363 != 0) = true := bne_iff_ne.mpr c25
                (first | rw [c25b0] | (simp only [i64_w, i32_w]; rw [c25b0]) | skip)
                have H' := ak H
                clear H
                go_wp2
                go_meet
                case rel => exact ⟨_, H', ⟨by have := HJ3.out; have := HJ13.out; first | omega | exact Nat.le_refl _⟩, ⟨by (with_reducible repeat (first | refine bN ?_ _ | refine bD ?_ | refine bA ?_ _)); exact BK353.out⟩, ⟨by repeat (first | (with_reducible first | exact HB.out | apply wA | apply wN | apply wD | refine below_set ?_ GE353.out) | exact HB.out)⟩⟩
            case rest =>
              clear HC23
              try clear c1
              try clear c2
              try clear p2
              try clear c3
              try clear c6
              try clear c6b0
              try clear c6b1
              try clear c7
              try clear c8
              try clear c9
              try clear c10
              try clear c16
              try clear c16b0
              try clear c16b1
              try clear c18
              try clear c18b0
              try clear c18b1
              try clear c19
              try clear c19b0
              try clear c19b1
              try clear c25
              try clear c25b0
              try clear c25b1
              try clear c27
              try clear c27b0
              try clear c27b1
              try clear c29
              try clear hcz9_0
              try clear hcz9_1
              try clear hfz9_0
              try clear hfz9_1
              try clear p2
              obtain ⟨kq, HA, HJ22, BK353, HB⟩ := hcut
              cases kq with
              | zero => exact absurd HA.out (by simp [mummerlaw01_WordsInverse.j2])
              | succ kj22 =>
                have H := HA.out
                clear HA
                simp only [mummerlaw01_WordsInverse.j2] at H
                replace H := Option.bind_eq_some_iff.mp H
                obtain ⟨t369, A320, H⟩ := H
                replace H : ((words_Unquote.f kj22 t369).bind fun bt370 => ((words_Unquote.f kj22 a0).bind fun bt372 => (if bt370.1.toList = a0.toList then (if bt370.2 = 0 then (if bt372.2 = 0 then ((words_Quote.f kj22 bt372.1).bind fun t374 => (mummerlaw01_WordsInverse.j3 kj22 a0 (t374.toList != a0.toList) l2_0 a2_1)) else (mummerlaw01_WordsInverse.j3 kj22 a0 false l2_0 a2_1)) else (some false)) else (some false)))) = some r := H
                have A32 := ak A320
                clear A320
                replace H := Option.bind_eq_some_iff.mp H
                obtain ⟨⟨t370, t371⟩, A330, H⟩ := H
                replace H : ((words_Unquote.f kj22 a0).bind fun bt372 => (if t370.toList = a0.toList then (if t371 = 0 then (if bt372.2 = 0 then ((words_Quote.f kj22 bt372.1).bind fun t374 => (mummerlaw01_WordsInverse.j3 kj22 a0 (t374.toList != a0.toList) l2_0 a2_1)) else (mummerlaw01_WordsInverse.j3 kj22 a0 false l2_0 a2_1)) else (some false)) else (some false))) = some r := H
                have A33 := ak A330
                clear A330
                replace H := Option.bind_eq_some_iff.mp H
                obtain ⟨⟨t372, t373⟩, A340, H⟩ := H
                replace H : (if t370.toList = a0.toList then (if t371 = 0 then (if t373 = 0 then ((words_Quote.f kj22 t372).bind fun t374 => (mummerlaw01_WordsInverse.j3 kj22 a0 (t374.toList != a0.toList) l2_0 a2_1)) else (mummerlaw01_WordsInverse.j3 kj22 a0 false l2_0 a2_1)) else (some false)) else (some false)) = some r := H
                have A34 := ak A340
                clear A340
                have HC35 := ak H
                clear H
                go_upto_region 15 with (first | ((with_reducible refine gate_callee (f := 12) rfl ?_); refine goesL_ (some 80) rfl rfl Tryz.func12 (by kernel_rfl) rfl #[.string a0] rfl (by (try simp only [List.map_toArray, List.map_cons, List.map_nil]); first | done | rfl | (simp only [List.length_drop, List.length_take]; rfl)) ?_; (with_reducible refine (words_Quote.calls kj22 a0 t369 _ A32.out ⟨Wd.All.stay HT.out (by repeat (first | (with_reducible first | exact HB.out | apply wA | apply wN | apply wD) | exact HB.out | (refine below_set ?_ (by assumption)) | (refine below_set ?_ (Aside0.out (by assumption)))))⟩).mono ?_); rintro e w36 ⟨rfl, hb⟩; refine ⟨_, rfl, ?_⟩; have n0_ := ak (blk_below (g := gb353) (o := .cells #[.slice A2_0 l2_0.length c2_0, .int .i64 a2_1] 25 (0, 0)) (by (with_reducible repeat (first | refine bN ?_ _ | refine bD ?_ | refine bA ?_ _)); exact BK353.out) hb); have n1_ := ak (below_step (by repeat (first | (with_reducible first | exact HB.out | apply wA | apply wN | apply wD | refine below_set ?_ GE353.out) | exact HB.out)) hb); clear BK353; clear HB; have BK353 := n0_; have HB := n1_; clear n0_ n1_; (try clear hb); (try clear hb2); (try clear hk); (try clear hi)) | ((with_reducible refine gate_callee (f := 11) rfl ?_); refine goesL_ (some 81) rfl rfl Tryz.func11 (by kernel_rfl) rfl #[.string t369] rfl (by (try simp only [List.map_toArray, List.map_cons, List.map_nil]); first | done | rfl | (simp only [List.length_drop, List.length_take]; rfl)) ?_; (with_reducible refine (words_Unquote.calls kj22 t369 t370 t371 _ A33.out ⟨Wd.All.stay HT.out (by repeat (first | (with_reducible first | exact HB.out | apply wA | apply wN | apply wD) | exact HB.out | (refine below_set ?_ (by assumption)) | (refine below_set ?_ (Aside0.out (by assumption)))))⟩).mono ?_); rintro e w37 ⟨rfl, hb⟩; refine ⟨_, rfl, ?_⟩; have n0_ := ak (blk_below (g := gb353) (o := .cells #[.slice A2_0 l2_0.length c2_0, .int .i64 a2_1] 25 (0, 0)) (by (with_reducible repeat (first | refine bN ?_ _ | refine bD ?_ | refine bA ?_ _)); exact BK353.out) hb); have n1_ := ak (below_step (by repeat (first | (with_reducible first | exact HB.out | apply wA | apply wN | apply wD | refine below_set ?_ GE353.out) | exact HB.out)) hb); clear BK353; clear HB; have BK353 := n0_; have HB := n1_; clear n0_ n1_; (try clear hb); (try clear hb2); (try clear hk); (try clear hi)) | ((with_reducible refine gate_callee (f := 11) rfl ?_); refine goesL_ (some 86) rfl rfl Tryz.func11 (by kernel_rfl) rfl #[.string a0] rfl (by (try simp only [List.map_toArray, List.map_cons, List.map_nil]); first | done | rfl | (simp only [List.length_drop, List.length_take]; rfl)) ?_; (with_reducible refine (words_Unquote.calls kj22 a0 t372 t373 _ A34.out ⟨Wd.All.stay HT.out (by repeat (first | (with_reducible first | exact HB.out | apply wA | apply wN | apply wD) | exact HB.out | (refine below_set ?_ (by assumption)) | (refine below_set ?_ (Aside0.out (by assumption)))))⟩).mono ?_); rintro e w38 ⟨rfl, hb⟩; refine ⟨_, rfl, ?_⟩; have n0_ := ak (blk_below (g := gb353) (o := .cells #[.slice A2_0 l2_0.length c2_0, .int .i64 a2_1] 25 (0, 0)) (by (with_reducible repeat (first | refine bN ?_ _ | refine bD ?_ | refine bA ?_ _)); exact BK353.out) hb); have n1_ := ak (below_step (by repeat (first | (with_reducible first | exact HB.out | apply wA | apply wN | apply wD | refine below_set ?_ GE353.out) | exact HB.out)) hb); clear BK353; clear HB; have BK353 := n0_; have HB := n1_; clear n0_ n1_; (try clear hb); (try clear hb2); (try clear hk); (try clear hi)))
                (try simp only [Act.put, List.setIfInBounds_toArray, List.set_cons_zero, List.set_cons_succ])
                go_cut [105] (fun v105 wc => ∃ (kq : Nat) (x105_34 : Bool), v105 = .bool x105_34 ∧ Aside0 (mummerlaw01_WordsInverse.j3 kq a0 x105_34 l2_0 a2_1 = some r) ∧ Aside0 (kq ≤ kj22) ∧ Aside0 (wc.heap[gb353]? = some (.cells #[(.slice A2_0 l2_0.length c2_0), .int .i64 a2_1] 25 (0, 0))) ∧ Aside0 (Below w.heap.size w wc))
                case first =>
                  have H := HC35.out
                  clear HC35
                  by_cases c39 : t370.toList = a0.toList
                  · rw [if_pos c39] at H
                    have c39b0 : (t370.toList == a0.toList) = true := beq_iff_eq.mpr c39
                    have c39b1 : (t370.toList != a0.toList) = false := bne_eq_false_iff_eq.mpr c39
                    clear c39
                    (first | rw [c39b0] | (simp only [i64_w, i32_w]; rw [c39b0]) | skip)
                    by_cases c40 : t371 = 0
                    · rw [if_pos c40] at H
                      have c40b0 : (t371 == 0) = true := beq_iff_eq.mpr c40
                      have c40b1 : (t371 != 0) = false := bne_eq_false_iff_eq.mpr c40
                      clear c40
                      by_cases c41 : t373 = 0
                      · rw [if_pos c41] at H
                        have c41b0 : (t373 == 0) = true := beq_iff_eq.mpr c41
                        have c41b1 : (t373 != 0) = false := bne_eq_false_iff_eq.mpr c41
                        clear c41
                        replace H := Option.bind_eq_some_iff.mp H
                        obtain ⟨t374, A420, H⟩ := H
                        replace H : (mummerlaw01_WordsInverse.j3 kj22 a0 (t374.toList != a0.toList) l2_0 a2_1) = some r := H
                        have A42 := ak A420
                        clear A420
                        have H' := ak H
                        clear H
                        go_wp2_with (first | (go_at_call 12; (with_reducible refine (words_Quote.calls kj22 t372 t374 _ A42.out ⟨Wd.All.stay HT.out (by repeat (first | (with_reducible first | exact HB.out | apply wA | apply wN | apply wD) | exact HB.out | (refine below_set ?_ (by assumption)) | (refine below_set ?_ (Aside0.out (by assumption)))))⟩).mono ?_); rintro e w43 ⟨rfl, hb⟩; have n0_ := ak (blk_below (g := gb353) (o := .cells #[.slice A2_0 l2_0.length c2_0, .int .i64 a2_1] 25 (0, 0)) (by (with_reducible repeat (first | refine bN ?_ _ | refine bD ?_ | refine bA ?_ _)); exact BK353.out) hb); have n1_ := ak (below_step (by repeat (first | (with_reducible first | exact HB.out | apply wA | apply wN | apply wD | refine below_set ?_ GE353.out) | exact HB.out)) hb); clear BK353; clear HB; have BK353 := n0_; have HB := n1_; clear n0_ n1_; (try clear hb); (try clear hb2); (try clear hk); (try clear hi)))
                        go_meet
                        case rel => exact ⟨_, ((t374.toList != a0.toList)), (by first | rfl | (simp; done) | (simp [*]; done)), H', ⟨by have := HJ3.out; have := HJ13.out; have := HJ22.out; first | omega | exact Nat.le_refl _⟩, ⟨by (with_reducible repeat (first | refine bN ?_ _ | refine bD ?_ | refine bA ?_ _)); exact BK353.out⟩, ⟨by repeat (first | (with_reducible first | exact HB.out | apply wA | apply wN | apply wD | refine below_set ?_ GE353.out) | exact HB.out)⟩⟩
                      · rw [if_neg c41] at H
                        have c41b0 : (t373 == 0) = false := beq_eq_false_iff_ne.mpr c41
                        have c41b1 : (t373 != 0) = true := bne_iff_ne.mpr c41
                        have H' := ak H
                        clear H
                        go_wp2
                        go_meet
                        case rel => exact ⟨_, (false), (by first | rfl | (simp; done) | (simp [*]; done)), H', ⟨by have := HJ3.out; have := HJ13.out; have := HJ22.out; first | omega | exact Nat.le_refl _⟩, ⟨by (with_reducible repeat (first | refine bN ?_ _ | refine bD ?_ | refine bA ?_ _)); exact BK353.out⟩, ⟨by repeat (first | (with_reducible first | exact HB.out | apply wA | apply wN | apply wD | refine below_set ?_ GE353.out) | exact HB.out)⟩⟩
                    · rw [if_neg c40] at H
                      have c40b0 : (t371 == 0) = false := beq_eq_false_iff_ne.mpr c40
                      have c40b1 : (t371 != 0) = true := bne_iff_ne.mpr c40
                      exact absurd ((Option.some.inj H).trans hrt.out) (by decide)
                  · rw [if_neg c39] at H
                    have c39b0 : (t370.toList == a0.toList) = false := beq_eq_false_iff_ne.mpr c39
                    have c39b1 : (t370.toList != a0.toList) = true := bne_iff_ne.mpr c39
                    (first | rw [c39b0] | (simp only [i64_w, i32_w]; rw [c39b0]) | skip)
                    exact absurd ((Option.some.inj H).trans hrt.out) (by decide)
                case rest =>
                  clear HC35
                  try clear c1
                  try clear c2
                  try clear p2
                  try clear c3
                  try clear c4
                  try clear c6
                  try clear c6b0
                  try clear c6b1
                  try clear c7
                  try clear c8
                  try clear c9
                  try clear c10
                  try clear c11
                  try clear c12
                  try clear c16
                  try clear c16b0
                  try clear c16b1
                  try clear c18
                  try clear c18b0
                  try clear c18b1
                  try clear c19
                  try clear c19b0
                  try clear c19b1
                  try clear c25
                  try clear c25b0
                  try clear c25b1
                  try clear c27
                  try clear c27b0
                  try clear c27b1
                  try clear c29
                  try clear c39
                  try clear c39b0
                  try clear c39b1
                  try clear c40
                  try clear c40b0
                  try clear c40b1
                  try clear c41
                  try clear c41b0
                  try clear c41b1
                  try clear hcz9_0
                  try clear hcz9_1
                  try clear hfz9_0
                  try clear hfz9_1
                  try clear p2
                  obtain ⟨kq, x105_34, rfl, HA, HJ34, BK353, HB⟩ := hcut
                  cases kq with
                  | zero => exact absurd HA.out (by simp [mummerlaw01_WordsInverse.j3])
                  | succ kj34 =>
                    have H := HA.out
                    clear HA
                    simp only [mummerlaw01_WordsInverse.j3] at H
                    by_cases c44 : x105_34 = true
                    · subst c44
                      have H1 : (some false) = some r := by rw [if_pos rfl] at H; exact H
                      clear H
                      have H := H1
                      clear H1
                      exact absurd ((Option.some.inj H).trans hrt.out) (by decide)
                    · replace c44 := Bool.eq_false_iff.mpr c44
                      subst c44
                      have H1 : ((words_List.f l2_0).bind fun bt375 => (if bt375.2 = 0 then ((words_ParseList.f kj34 bt375.1).bind fun bt377 => (if bt377.2 = 0 then ((mummerlaw01_lists.f kj34 bt377.1 l2_0).bind fun t381 => (if t381 = true then (mummerlaw01_WordsInverse.j4 kj34 a0 l2_0 a2_1) else (some false))) else (some false))) else (mummerlaw01_WordsInverse.j4 kj34 a0 l2_0 a2_1))) = some r := by rw [if_neg (show ¬ (false = true) by decide)] at H; exact H
                      clear H
                      have H := H1
                      clear H1
                      replace H := Option.bind_eq_some_iff.mp H
                      obtain ⟨⟨t375, t376⟩, A450, H⟩ := H
                      replace H : (if t376 = 0 then ((words_ParseList.f kj34 t375).bind fun bt377 => (if bt377.2 = 0 then ((mummerlaw01_lists.f kj34 bt377.1 l2_0).bind fun t381 => (if t381 = true then (mummerlaw01_WordsInverse.j4 kj34 a0 l2_0 a2_1) else (some false))) else (some false))) else (mummerlaw01_WordsInverse.j4 kj34 a0 l2_0 a2_1)) = some r := H
                      have A45 := ak A450
                      clear A450
                      have HC46 := ak H
                      clear H
                      have hcz47_0 : wc.cell? ⟨gb353, 0, none⟩ = some (.slice A2_0 l2_0.length c2_0) := (blk_cell BK353.out 0).trans rfl
                      have hcz47_1 : wc.cell? ⟨gb353, 1, none⟩ = some (.int .i64 a2_1) := (blk_cell BK353.out 1).trans rfl
                      have hfz47_0 := blk_frozen BK353.out 0
                      have hfz47_1 := blk_frozen BK353.out 1
                      go_upto_if 113 with (first | ((with_reducible refine gate_callee (f := 13) rfl ?_); refine goesL_ (some 109) rfl rfl Tryz.func13 (by kernel_rfl) rfl #[.slice A2_0 l2_0.length c2_0] rfl (by (try simp only [List.map_toArray, List.map_cons, List.map_nil]); first | done | rfl | (simp only [List.length_drop, List.length_take]; rfl)) ?_; (with_reducible refine (words_List.calls _ _ l2_0 t375 t376 _ ?side1 ?side2 A45.out ⟨Wd.All.stay HT.out (by repeat (first | (with_reducible first | exact HB.out | apply wA | apply wN | apply wD) | exact HB.out | (refine below_set ?_ (by assumption)) | (refine below_set ?_ (Aside0.out (by assumption)))))⟩).mono ?_); (case side1 => repeat (first | exact (Kd.C_below HR2_0.out HB.out) | (with_reducible refine Kd.C_alloc ?_ _) | (with_reducible refine Kd.C_drewN ?_ _) | (with_reducible refine Kd.C_drew ?_))); (case side2 => exact HC2_0.out); rintro e w48 ⟨rfl, hb⟩; refine ⟨_, rfl, ?_⟩; have n0_ := ak (blk_below (g := gb353) (o := .cells #[.slice A2_0 l2_0.length c2_0, .int .i64 a2_1] 25 (0, 0)) (by (with_reducible repeat (first | refine bN ?_ _ | refine bD ?_ | refine bA ?_ _)); exact BK353.out) hb); have n1_ := ak (below_step (by repeat (first | (with_reducible first | exact HB.out | apply wA | apply wN | apply wD | refine below_set ?_ GE353.out) | exact HB.out)) hb); clear BK353; clear HB; have BK353 := n0_; have HB := n1_; clear n0_ n1_; (try clear hb); (try clear hb2); (try clear hk); (try clear hi)))
                      (try simp only [Act.put, List.setIfInBounds_toArray, List.set_cons_zero, List.set_cons_succ])
                      go_cut [] (fun wc => ∃ (kq : Nat), Aside0 (mummerlaw01_WordsInverse.j4 kq a0 l2_0 a2_1 = some r) ∧ Aside0 (kq ≤ kj34) ∧ Aside0 (wc.heap[gb353]? = some (.cells #[(.slice A2_0 l2_0.length c2_0), .int .i64 a2_1] 25 (0, 0))) ∧ Aside0 (Below w.heap.size w wc))
                      case first =>
                        have H := HC46.out
                        clear HC46
                        by_cases c49 : t376 = 0
                        · rw [if_pos c49] at H
                          have c49b0 : (t376 == 0) = true := beq_iff_eq.mpr c49
                          have c49b1 : (t376 != 0) = false := bne_eq_false_iff_eq.mpr c49
                          clear c49
                          (first | rw [c49b0] | (simp only [i64_w, i32_w]; rw [c49b0]) | skip)
                          replace H := Option.bind_eq_some_iff.mp H
                          obtain ⟨⟨t377, t378⟩, A500, H⟩ := H
                          replace H : (if t378 = 0 then ((mummerlaw01_lists.f kj34 t377 l2_0).bind fun t381 => (if t381 = true then (mummerlaw01_WordsInverse.j4 kj34 a0 l2_0 a2_1) else (some false))) else (some false)) = some r := H
                          have A50 := ak A500
                          clear A500
                          by_cases c51 : t378 = 0
                          · rw [if_pos c51] at H
                            have c51b0 : (t378 == 0) = true := beq_iff_eq.mpr c51
                            have c51b1 : (t378 != 0) = false := bne_eq_false_iff_eq.mpr c51
                            clear c51
                            replace H := Option.bind_eq_some_iff.mp H
                            obtain ⟨t381, A520, H⟩ := H
                            replace H : (if t381 = true then (mummerlaw01_WordsInverse.j4 kj34 a0 l2_0 a2_1) else (some false)) = some r := H
                            have A52 := ak A520
                            clear A520
                            by_cases c53 : t381 = true
                            · subst c53
                              have H1 : (mummerlaw01_WordsInverse.j4 kj34 a0 l2_0 a2_1) = some r := by rw [if_pos rfl] at H; exact H
                              clear H
                              have H := H1
                              clear H1
                              have H' := ak H
                              clear H
                              go_wp2_with (first | ((with_reducible refine gate_callee (f := 14) rfl ?_); refine goesL_ (some 116) rfl rfl Tryz.func14 (by kernel_rfl) rfl #[.string t375] rfl (by (try simp only [List.map_toArray, List.map_cons, List.map_nil]); first | done | rfl | (simp only [List.length_drop, List.length_take]; rfl)) ?_; (with_reducible refine (words_ParseList.calls kj34 t375 t377 t378 _ A50.out ⟨Wd.All.stay HT.out (by repeat (first | (with_reducible first | exact HB.out | apply wA | apply wN | apply wD) | exact HB.out | (refine below_set ?_ (by assumption)) | (refine below_set ?_ (Aside0.out (by assumption)))))⟩).mono ?_); rintro e w54 ⟨v379, rfl, ho0, hb⟩; refine ⟨_, rfl, ?_⟩; have n0_ := ak (Kd.R_lower ho0 (below_size (by repeat (first | (with_reducible first | exact HB.out | apply wA | apply wN | apply wD | refine below_set ?_ GE353.out) | exact HB.out)))); have n1_ := ak (blk_below (g := gb353) (o := .cells #[.slice A2_0 l2_0.length c2_0, .int .i64 a2_1] 25 (0, 0)) (by (with_reducible repeat (first | refine bN ?_ _ | refine bD ?_ | refine bA ?_ _)); exact BK353.out) hb); have n2_ := ak (below_step (by repeat (first | (with_reducible first | exact HB.out | apply wA | apply wN | apply wD | refine below_set ?_ GE353.out) | exact HB.out)) hb); clear BK353; clear HB; have HO380 := n0_; have BK353 := n1_; have HB := n2_; clear n0_ n1_ n2_; (try clear hb); (try clear hb2); (try clear hk); (try clear hi); (try clear ho0); have hcz55_0 : w54.cell? ⟨gb353, 0, none⟩ = some (.slice A2_0 l2_0.length c2_0) := (blk_cell BK353.out 0).trans rfl; have hcz55_1 : w54.cell? ⟨gb353, 1, none⟩ = some (.int .i64 a2_1) := (blk_cell BK353.out 1).trans rfl; have hfz55_0 := blk_frozen BK353.out 0; have hfz55_1 := blk_frozen BK353.out 1; obtain ⟨Ao56, co56, eo56⟩ := Kd.R_slice HO380.out; subst eo56) | (go_at_call 15; (with_reducible refine (mummerlaw01_lists.calls kj34 _ _ t377 _ _ l2_0 true _ ?side1 ?side2 ?side3 ?side4 A52.out).mono ?_); (case side1 => repeat (first | exact (Kd.R_reads' HO380.out).2.2 | (with_reducible refine Kd.C_alloc ?_ _) | (with_reducible refine Kd.C_drewN ?_ _) | (with_reducible refine Kd.C_drew ?_))); (case side2 => exact (Kd.R_reads' HO380.out).2.1); (case side3 => repeat (first | exact (Kd.C_below HR2_0.out HB.out) | (with_reducible refine Kd.C_alloc ?_ _) | (with_reducible refine Kd.C_drewN ?_ _) | (with_reducible refine Kd.C_drew ?_))); (case side4 => exact HC2_0.out); rintro e w' ⟨rfl, ⟨nd, rfl⟩⟩))
                              go_meet
                              case rel => exact ⟨_, H', ⟨by have := HJ3.out; have := HJ13.out; have := HJ22.out; have := HJ34.out; first | omega | exact Nat.le_refl _⟩, ⟨by (with_reducible repeat (first | refine bN ?_ _ | refine bD ?_ | refine bA ?_ _)); exact BK353.out⟩, ⟨by repeat (first | (with_reducible first | exact HB.out | apply wA | apply wN | apply wD | refine below_set ?_ GE353.out) | exact HB.out)⟩⟩
                            · replace c53 := Bool.eq_false_iff.mpr c53
                              subst c53
                              have H1 : (some false) = some r := by rw [if_neg (show ¬ (false = true) by decide)] at H; exact H
                              clear H
                              have H := H1
                              clear H1
                              exact absurd ((Option.some.inj H).trans hrt.out) (by decide)
                          · rw [if_neg c51] at H
                            have c51b0 : (t378 == 0) = false := beq_eq_false_iff_ne.mpr c51
                            have c51b1 : (t378 != 0) = true := bne_iff_ne.mpr c51
                            exact absurd ((Option.some.inj H).trans hrt.out) (by decide)
                        · rw [if_neg c49] at H
                          have c49b0 : (t376 == 0) = false := beq_eq_false_iff_ne.mpr c49
                          have c49b1 : (t376 != 0) = true := bne_iff_ne.mpr c49
                          (first | rw [c49b0] | (simp only [i64_w, i32_w]; rw [c49b0]) | skip)
                          have H' := ak H
                          clear H
                          go_wp2
                          go_meet
                          case rel => exact ⟨_, H', ⟨by have := HJ3.out; have := HJ13.out; have := HJ22.out; have := HJ34.out; first | omega | exact Nat.le_refl _⟩, ⟨by (with_reducible repeat (first | refine bN ?_ _ | refine bD ?_ | refine bA ?_ _)); exact BK353.out⟩, ⟨by repeat (first | (with_reducible first | exact HB.out | apply wA | apply wN | apply wD | refine below_set ?_ GE353.out) | exact HB.out)⟩⟩
                      case rest =>
                        clear HC46
                        try clear c1
                        try clear c2
                        try clear p2
                        try clear c3
                        try clear c4
                        try clear c5
                        try clear c6
                        try clear c6b0
                        try clear c6b1
                        try clear c7
                        try clear c8
                        try clear c9
                        try clear c10
                        try clear c11
                        try clear c12
                        try clear c13
                        try clear c14
                        try clear c16
                        try clear c16b0
                        try clear c16b1
                        try clear c18
                        try clear c18b0
                        try clear c18b1
                        try clear c19
                        try clear c19b0
                        try clear c19b1
                        try clear c25
                        try clear c25b0
                        try clear c25b1
                        try clear c27
                        try clear c27b0
                        try clear c27b1
                        try clear c29
                        try clear c39
                        try clear c39b0
                        try clear c39b1
                        try clear c40
                        try clear c40b0
                        try clear c40b1
                        try clear c41
                        try clear c41b0
                        try clear c41b1
                        try clear c44
                        try clear c49
                        try clear c49b0
                        try clear c49b1
                        try clear c51
                        try clear c51b0
                        try clear c51b1
                        try clear c53
                        try clear hcz47_0
                        try clear hcz47_1
                        try clear hcz55_0
                        try clear hcz55_1
                        try clear hcz9_0
                        try clear hcz9_1
                        try clear hfz47_0
                        try clear hfz47_1
                        try clear hfz55_0
                        try clear hfz55_1
                        try clear hfz9_0
                        try clear hfz9_1
                        try clear p2
                        obtain ⟨kq, HA, HJ45, BK353, HB⟩ := hcut
                        cases kq with
                        | zero => exact absurd HA.out (by simp [mummerlaw01_WordsInverse.j4])
                        | succ kj45 =>
                          have H := HA.out
                          clear HA
                          simp only [mummerlaw01_WordsInverse.j4] at H
                          replace H := Option.bind_eq_some_iff.mp H
                          obtain ⟨⟨t382, t383⟩, A570, H⟩ := H
                          replace H : (if t383 = 0 then ((words_List.f t382).bind fun bt386 => (if bt386.2 = 0 then (if bt386.1.toList = a0.toList then (mummerlaw01_WordsInverse.j5 kj45 a0 l2_0 a2_1) else (some false)) else (some false))) else (mummerlaw01_WordsInverse.j5 kj45 a0 l2_0 a2_1)) = some r := H
                          have A57 := ak A570
                          clear A570
                          have HC58 := ak H
                          clear H
                          go_upto_if 134 with (first | ((with_reducible refine gate_callee (f := 14) rfl ?_); refine goesL_ (some 130) rfl rfl Tryz.func14 (by kernel_rfl) rfl #[.string a0] rfl (by (try simp only [List.map_toArray, List.map_cons, List.map_nil]); first | done | rfl | (simp only [List.length_drop, List.length_take]; rfl)) ?_; (with_reducible refine (words_ParseList.calls kj45 a0 t382 t383 _ A57.out ⟨Wd.All.stay HT.out (by repeat (first | (with_reducible first | exact HB.out | apply wA | apply wN | apply wD) | exact HB.out | (refine below_set ?_ (by assumption)) | (refine below_set ?_ (Aside0.out (by assumption)))))⟩).mono ?_); rintro e w59 ⟨v384, rfl, ho0, hb⟩; refine ⟨_, rfl, ?_⟩; have n0_ := ak (Kd.R_lower ho0 (below_size (by repeat (first | (with_reducible first | exact HB.out | apply wA | apply wN | apply wD | refine below_set ?_ GE353.out) | exact HB.out)))); have n1_ := ak (blk_below (g := gb353) (o := .cells #[.slice A2_0 l2_0.length c2_0, .int .i64 a2_1] 25 (0, 0)) (by (with_reducible repeat (first | refine bN ?_ _ | refine bD ?_ | refine bA ?_ _)); exact BK353.out) hb); have n2_ := ak (below_step (by repeat (first | (with_reducible first | exact HB.out | apply wA | apply wN | apply wD | refine below_set ?_ GE353.out) | exact HB.out)) hb); clear BK353; clear HB; have HO385 := n0_; have BK353 := n1_; have HB := n2_; clear n0_ n1_ n2_; (try clear hb); (try clear hb2); (try clear hk); (try clear hi); (try clear ho0)))
                          (try simp only [Act.put, List.setIfInBounds_toArray, List.set_cons_zero, List.set_cons_succ])
                          go_cut [] (fun wc => ∃ (kq : Nat), Aside0 (mummerlaw01_WordsInverse.j5 kq a0 l2_0 a2_1 = some r) ∧ Aside0 (kq ≤ kj45) ∧ Aside0 (wc.heap[gb353]? = some (.cells #[(.slice A2_0 l2_0.length c2_0), .int .i64 a2_1] 25 (0, 0))) ∧ Aside0 (Below w.heap.size w wc))
                          case first =>
                            have H := HC58.out
                            clear HC58
                            by_cases c60 : t383 = 0
                            · rw [if_pos c60] at H
                              have c60b0 : (t383 == 0) = true := beq_iff_eq.mpr c60
                              have c60b1 : (t383 != 0) = false := bne_eq_false_iff_eq.mpr c60
                              clear c60
                              (first | rw [c60b0] | (simp only [i64_w, i32_w]; rw [c60b0]) | skip)
                              replace H := Option.bind_eq_some_iff.mp H
                              obtain ⟨⟨t386, t387⟩, A610, H⟩ := H
                              replace H : (if t387 = 0 then (if t386.toList = a0.toList then (mummerlaw01_WordsInverse.j5 kj45 a0 l2_0 a2_1) else (some false)) else (some false)) = some r := H
                              have A61 := ak A610
                              clear A610
                              by_cases c62 : t387 = 0
                              · rw [if_pos c62] at H
                                have c62b0 : (t387 == 0) = true := beq_iff_eq.mpr c62
                                have c62b1 : (t387 != 0) = false := bne_eq_false_iff_eq.mpr c62
                                clear c62
                                by_cases c63 : t386.toList = a0.toList
                                · rw [if_pos c63] at H
                                  have c63b0 : (t386.toList == a0.toList) = true := beq_iff_eq.mpr c63
                                  have c63b1 : (t386.toList != a0.toList) = false := bne_eq_false_iff_eq.mpr c63
                                  clear c63
                                  have H' := ak H
                                  clear H
                                  obtain ⟨Ao64, co64, eo64⟩ := Kd.R_slice HO385.out
                                  subst eo64
                                  go_wp2_with (first | ((with_reducible refine gate_callee (f := 13) rfl ?_); refine goesL_ (some 137) rfl rfl Tryz.func13 (by kernel_rfl) rfl #[.slice Ao64 t382.length co64] rfl (by (try simp only [List.map_toArray, List.map_cons, List.map_nil]); first | done | rfl | (simp only [List.length_drop, List.length_take]; rfl)) ?_; (with_reducible refine (words_List.calls _ _ t382 t386 t387 _ ?side1 ?side2 A61.out ⟨Wd.All.stay HT.out (by repeat (first | (with_reducible first | exact HB.out | apply wA | apply wN | apply wD) | exact HB.out | (refine below_set ?_ (by assumption)) | (refine below_set ?_ (Aside0.out (by assumption)))))⟩).mono ?_); (case side1 => repeat (first | exact (Kd.R_reads' HO385.out).2.2 | (with_reducible refine Kd.C_alloc ?_ _) | (with_reducible refine Kd.C_drewN ?_ _) | (with_reducible refine Kd.C_drew ?_))); (case side2 => exact (Kd.R_reads' HO385.out).2.1); rintro e w65 ⟨rfl, hb⟩; refine ⟨_, rfl, ?_⟩; have n0_ := ak (Kd.R_below (by (with_reducible repeat (first | apply Kd.R_alloc | apply Kd.R_drewN | apply Kd.R_drew)); exact HO385.out) hb); have n1_ := ak (blk_below (g := gb353) (o := .cells #[.slice A2_0 l2_0.length c2_0, .int .i64 a2_1] 25 (0, 0)) (by (with_reducible repeat (first | refine bN ?_ _ | refine bD ?_ | refine bA ?_ _)); exact BK353.out) hb); have n2_ := ak (below_step (by repeat (first | (with_reducible first | exact HB.out | apply wA | apply wN | apply wD | refine below_set ?_ GE353.out) | exact HB.out)) hb); clear HO385; clear BK353; clear HB; have HO385 := n0_; have BK353 := n1_; have HB := n2_; clear n0_ n1_ n2_; (try clear hb); (try clear hb2); (try clear hk); (try clear hi)))
                                  go_meet
                                  case rel => exact ⟨_, H', ⟨by have := HJ3.out; have := HJ13.out; have := HJ22.out; have := HJ34.out; have := HJ45.out; first | omega | exact Nat.le_refl _⟩, ⟨by (with_reducible repeat (first | refine bN ?_ _ | refine bD ?_ | refine bA ?_ _)); exact BK353.out⟩, ⟨by repeat (first | (with_reducible first | exact HB.out | apply wA | apply wN | apply wD | refine below_set ?_ GE353.out) | exact HB.out)⟩⟩
                                · rw [if_neg c63] at H
                                  have c63b0 : (t386.toList == a0.toList) = false := beq_eq_false_iff_ne.mpr c63
                                  have c63b1 : (t386.toList != a0.toList) = true := bne_iff_ne.mpr c63
                                  exact absurd ((Option.some.inj H).trans hrt.out) (by decide)
                              · rw [if_neg c62] at H
                                have c62b0 : (t387 == 0) = false := beq_eq_false_iff_ne.mpr c62
                                have c62b1 : (t387 != 0) = true := bne_iff_ne.mpr c62
                                exact absurd ((Option.some.inj H).trans hrt.out) (by decide)
                            · rw [if_neg c60] at H
                              have c60b0 : (t383 == 0) = false := beq_eq_false_iff_ne.mpr c60
                              have c60b1 : (t383 != 0) = true := bne_iff_ne.mpr c60
                              (first | rw [c60b0] | (simp only [i64_w, i32_w]; rw [c60b0]) | skip)
                              have H' := ak H
                              clear H
                              go_wp2
                              go_meet
                              case rel => exact ⟨_, H', ⟨by have := HJ3.out; have := HJ13.out; have := HJ22.out; have := HJ34.out; have := HJ45.out; first | omega | exact Nat.le_refl _⟩, ⟨by (with_reducible repeat (first | refine bN ?_ _ | refine bD ?_ | refine bA ?_ _)); exact BK353.out⟩, ⟨by repeat (first | (with_reducible first | exact HB.out | apply wA | apply wN | apply wD | refine below_set ?_ GE353.out) | exact HB.out)⟩⟩
                          case rest =>
                            clear HC58
                            try clear c1
                            try clear c2
                            try clear p2
                            try clear c3
                            try clear c4
                            try clear c5
                            try clear c6
                            try clear c6b0
                            try clear c6b1
                            try clear c7
                            try clear c8
                            try clear c9
                            try clear c10
                            try clear c11
                            try clear c12
                            try clear c13
                            try clear c14
                            try clear c16
                            try clear c16b0
                            try clear c16b1
                            try clear c18
                            try clear c18b0
                            try clear c18b1
                            try clear c19
                            try clear c19b0
                            try clear c19b1
                            try clear c25
                            try clear c25b0
                            try clear c25b1
                            try clear c27
                            try clear c27b0
                            try clear c27b1
                            try clear c29
                            try clear c39
                            try clear c39b0
                            try clear c39b1
                            try clear c40
                            try clear c40b0
                            try clear c40b1
                            try clear c41
                            try clear c41b0
                            try clear c41b1
                            try clear c44
                            try clear c49
                            try clear c49b0
                            try clear c49b1
                            try clear c51
                            try clear c51b0
                            try clear c51b1
                            try clear c53
                            try clear c60
                            try clear c60b0
                            try clear c60b1
                            try clear c62
                            try clear c62b0
                            try clear c62b1
                            try clear c63
                            try clear c63b0
                            try clear c63b1
                            try clear hcz47_0
                            try clear hcz47_1
                            try clear hcz55_0
                            try clear hcz55_1
                            try clear hcz9_0
                            try clear hcz9_1
                            try clear hfz47_0
                            try clear hfz47_1
                            try clear hfz55_0
                            try clear hfz55_1
                            try clear hfz9_0
                            try clear hfz9_1
                            try clear p2
                            obtain ⟨kq, HA, HJ57, BK353, HB⟩ := hcut
                            cases kq with
                            | zero => exact absurd HA.out (by simp [mummerlaw01_WordsInverse.j5])
                            | succ kj57 =>
                              have H := HA.out
                              clear HA
                              simp only [mummerlaw01_WordsInverse.j5] at H
                              replace H := Option.bind_eq_some_iff.mp H
                              obtain ⟨t388, A660, H⟩ := H
                              replace H : ((words_Int.f t388 a2_1 a2_1).bind fun bt389 => ((words_Int.f a0 (-9223372036854775808) 9223372036854775807).bind fun bt391 => (if bt389.1 = a2_1 then (if bt389.2 = 0 then (if bt391.2 = 0 then ((words_Digits.f bt391.1).bind fun t393 => (if t393.toList = a0.toList then ((mummerlaw01_shown.f kj57).bind fun t394 => (some t394)) else (some false))) else ((mummerlaw01_shown.f kj57).bind fun t395 => (some t395))) else (some false)) else (some false)))) = some r := H
                              have A66 := ak A660
                              clear A660
                              replace H := Option.bind_eq_some_iff.mp H
                              obtain ⟨⟨t389, t390⟩, A670, H⟩ := H
                              replace H : ((words_Int.f a0 (-9223372036854775808) 9223372036854775807).bind fun bt391 => (if t389 = a2_1 then (if t390 = 0 then (if bt391.2 = 0 then ((words_Digits.f bt391.1).bind fun t393 => (if t393.toList = a0.toList then ((mummerlaw01_shown.f kj57).bind fun t394 => (some t394)) else (some false))) else ((mummerlaw01_shown.f kj57).bind fun t395 => (some t395))) else (some false)) else (some false))) = some r := H
                              have A67 := ak A670
                              clear A670
                              replace H := Option.bind_eq_some_iff.mp H
                              obtain ⟨⟨t391, t392⟩, A680, H⟩ := H
                              replace H : (if t389 = a2_1 then (if t390 = 0 then (if t392 = 0 then ((words_Digits.f t391).bind fun t393 => (if t393.toList = a0.toList then ((mummerlaw01_shown.f kj57).bind fun t394 => (some t394)) else (some false))) else ((mummerlaw01_shown.f kj57).bind fun t395 => (some t395))) else (some false)) else (some false)) = some r := H
                              have A68 := ak A680
                              clear A680
                              by_cases c69 : t389 = a2_1
                              · rw [if_pos c69] at H
                                have c69b0 : (t389 == a2_1) = true := beq_iff_eq.mpr c69
                                have c69b1 : (t389 != a2_1) = false := bne_eq_false_iff_eq.mpr c69
                                clear c69
                                by_cases c70 : t390 = 0
                                · rw [if_pos c70] at H
                                  have c70b0 : (t390 == 0) = true := beq_iff_eq.mpr c70
                                  have c70b1 : (t390 != 0) = false := bne_eq_false_iff_eq.mpr c70
                                  clear c70
                                  by_cases c71 : t392 = 0
                                  · rw [if_pos c71] at H
                                    have c71b0 : (t392 == 0) = true := beq_iff_eq.mpr c71
                                    have c71b1 : (t392 != 0) = false := bne_eq_false_iff_eq.mpr c71
                                    clear c71
                                    replace H := Option.bind_eq_some_iff.mp H
                                    obtain ⟨t393, A720, H⟩ := H
                                    replace H : (if t393.toList = a0.toList then ((mummerlaw01_shown.f kj57).bind fun t394 => (some t394)) else (some false)) = some r := H
                                    have A72 := ak A720
                                    clear A720
                                    by_cases c73 : t393.toList = a0.toList
                                    · rw [if_pos c73] at H
                                      have c73b0 : (t393.toList == a0.toList) = true := beq_iff_eq.mpr c73
                                      have c73b1 : (t393.toList != a0.toList) = false := bne_eq_false_iff_eq.mpr c73
                                      clear c73
                                      replace H := Option.bind_eq_some_iff.mp H
                                      obtain ⟨t394, A740, H⟩ := H
                                      replace H : (some t394) = some r := H
                                      have A74 := ak A740
                                      clear A740
                                      obtain rfl := Option.some.inj H
                                      try go_wp2
                                      have n0_ := ak (bD BK353.out)
                                      have n1_ := ak (wD HB.out)
                                      clear BK353 HB
                                      have BK353 := n0_
                                      have HB := n1_
                                      clear n0_ n1_
                                      refine start_ (n := 13) (S := fun w' => w'.cell? ⟨gb353, 0, none⟩ = some (.slice A2_0 l2_0.length c2_0) ∧ w'.cell? ⟨gb353, 1, none⟩ = some (.int .i64 a2_1)) (ds := []) #[false, false, false, false, false, false, false, false, false, false, false, false, false] (by kernel_rfl) rfl rfl ⟨(blk_cell BK353.out 0).trans rfl, (blk_cell BK353.out 1).trans rfl⟩ (fun hHeld => ?_); refine with_tabW mummerlaw01_WordsInverse.tab27 mummerlaw01_WordsInverse.bits27 (fun HT_ HW_ => ?_)
                                      generalize wc.drew = w75 at BK353 HB hHeld ⊢
                                      refine pure_ (i := 0) (N := some 148) (v := ?_) (a' := ?_) #[true, false, false, false, false, false, false, false, false, false, false, false, false] rfl rfl (any_of HT_.out (by kernel_rfl)) (fun _ _ _ h => h) (Or.inl ⟨by rfl, ?_⟩) ?_ ?_
                                      rotate_left
                                      · intro w'
                                        go_simp
                                        with_reducible rfl
                                      rotate_left
                                      · simp only [Act.put, List.setIfInBounds_toArray, List.set_cons_zero, List.set_cons_succ, i64_w, i32_w]
                                        rfl
                                      refine pure_ (i := 3) (N := some 151) (v := ?_) (a' := ?_) #[true, false, false, true, false, false, false, false, false, false, false, false, false] rfl rfl (any_of HT_.out (by kernel_rfl)) (fun _ _ _ h => h) (Or.inl ⟨by rfl, ?_⟩) ?_ ?_
                                      rotate_left
                                      · intro w'
                                        go_simp
                                        with_reducible rfl
                                      rotate_left
                                      · simp only [Act.put, List.setIfInBounds_toArray, List.set_cons_zero, List.set_cons_succ, i64_w, i32_w]
                                        rfl
                                      refine pure_ (i := 5) (N := some 153) (v := ?_) (a' := ?_) #[true, false, false, true, false, true, false, false, false, false, false, false, false] rfl rfl (any_of HT_.out (by kernel_rfl)) (fun _ _ _ h => h) (Or.inl ⟨by rfl, ?_⟩) ?_ ?_
                                      rotate_left
                                      · intro w'
                                        go_simp
                                        with_reducible rfl
                                      rotate_left
                                      · simp only [Act.put, List.setIfInBounds_toArray, List.set_cons_zero, List.set_cons_succ, i64_w, i32_w]
                                        rfl
                                      refine take_ (i := 1) (N := some 149) (v := ?_) (a' := ?_) #[true, true, false, true, false, true, false, false, false, false, false, false, false] rfl rfl (take_ofW HT_.out HW_.out (by kernel_rfl)) (fun _ _ _ h => h) (Or.inl ⟨by rfl, ?_⟩) hHeld ?_ ?_
                                      rotate_left
                                      · rintro w' ⟨s0, s1⟩
                                        go_simp
                                        with_reducible rfl
                                      rotate_left
                                      · simp only [Act.put, List.setIfInBounds_toArray, List.set_cons_zero, List.set_cons_succ, i64_w, i32_w]
                                        rfl
                                      refine take_ (i := 4) (N := some 152) (v := ?_) (a' := ?_) #[true, true, false, true, true, true, false, false, false, false, false, false, false] rfl rfl (take_ofW HT_.out HW_.out (by kernel_rfl)) (fun _ _ _ h => h) (Or.inl ⟨by rfl, ?_⟩) hHeld ?_ ?_
                                      rotate_left
                                      · rintro w' ⟨s0, s1⟩
                                        go_simp
                                        with_reducible rfl
                                      rotate_left
                                      · simp only [Act.put, List.setIfInBounds_toArray, List.set_cons_zero, List.set_cons_succ, i64_w, i32_w]
                                        rfl
                                      refine take_ (i := 6) (N := some 154) (v := ?_) (a' := ?_) #[true, true, false, true, true, true, true, false, false, false, false, false, false] rfl rfl (take_ofW HT_.out HW_.out (by kernel_rfl)) (fun _ _ _ h => h) (Or.inl ⟨by rfl, ?_⟩) hHeld ?_ ?_
                                      rotate_left
                                      · rintro w' ⟨s0, s1⟩
                                        go_simp
                                        with_reducible rfl
                                      rotate_left
                                      · simp only [Act.put, List.setIfInBounds_toArray, List.set_cons_zero, List.set_cons_succ, i64_w, i32_w]
                                        rfl
                                      refine one_ (i := 2) (N := some 150) #[true, true, true, true, true, true, true, false, false, false, false, false, false] rfl rfl (one_of HT_.out (by kernel_rfl)) (by decide) (fun K hK => ?_)
                                      refine goes_ Tryz.func17 (by kernel_rfl) rfl #[.int .i64 a2_1] (by rfl) rfl rfl (by (try simp only [List.map_toArray, List.map_cons, List.map_nil]); first | done | rfl | (simp only [List.length_drop, List.length_take]; rfl)) ?_
                                      with_reducible refine (words_Digits.calls a2_1 t388 _ A66.out ⟨Wd.All.stay HT.out (by repeat (first | (with_reducible first | exact HB.out | apply wA | apply wN | apply wD) | exact HB.out | (refine below_set ?_ (by assumption)) | (refine below_set ?_ (Aside0.out (by assumption)))))⟩).mono ?_
                                      rintro e w76 ⟨rfl, hb⟩
                                      refine ⟨_, rfl, ?_⟩
                                      have n0_ := ak (blk_below (g := gb353) (o := .cells #[.slice A2_0 l2_0.length c2_0, .int .i64 a2_1] 25 (0, 0)) (by (with_reducible repeat (first | refine bN ?_ _ | refine bD ?_ | refine bA ?_ _)); exact BK353.out) hb)
                                      have n1_ := ak (below_step (by repeat (first | (with_reducible first | exact HB.out | apply wA | apply wN | apply wD | refine below_set ?_ GE353.out) | exact HB.out)) hb)
                                      clear BK353 HB
                                      have BK353 := n0_
                                      have HB := n1_
                                      clear n0_ n1_
                                      (try clear hb)
                                      (try clear hb2)
                                      (try clear hk)
                                      (try clear hi)
                                      refine hK.out _ _ ⟨(blk_cell BK353.out 0).trans rfl, (blk_cell BK353.out 1).trans rfl⟩ (fun hHeld => ?_)
                                      clear hK K
                                      refine norm_ (a' := ?_) ?_ ?_
                                      rotate_left
                                      · show Act.put _ (some 150) _ = _
                                        simp only [Act.put, List.setIfInBounds_toArray, List.set_cons_zero, List.set_cons_succ, i64_w, i32_w]
                                        rfl
                                      refine one_ (i := 7) (N := some 155) #[true, true, true, true, true, true, true, true, false, false, false, false, false] rfl rfl (one_of HT_.out (by kernel_rfl)) (by decide) (fun K hK => ?_)
                                      refine goes_ Tryz.func16 (by kernel_rfl) rfl #[.string t388, .int .i64 a2_1, .int .i64 a2_1] (by rfl) rfl rfl (by (try simp only [List.map_toArray, List.map_cons, List.map_nil]); first | done | rfl | (simp only [List.length_drop, List.length_take]; rfl)) ?_
                                      with_reducible refine (words_Int.calls t388 a2_1 a2_1 t389 t390 _ A67.out ⟨Wd.All.stay HT.out (by repeat (first | (with_reducible first | exact HB.out | apply wA | apply wN | apply wD) | exact HB.out | (refine below_set ?_ (by assumption)) | (refine below_set ?_ (Aside0.out (by assumption)))))⟩).mono ?_
                                      rintro e w77 ⟨rfl, hb⟩
                                      refine ⟨_, rfl, ?_⟩
                                      have n0_ := ak (blk_below (g := gb353) (o := .cells #[.slice A2_0 l2_0.length c2_0, .int .i64 a2_1] 25 (0, 0)) (by (with_reducible repeat (first | refine bN ?_ _ | refine bD ?_ | refine bA ?_ _)); exact BK353.out) hb)
                                      have n1_ := ak (below_step (by repeat (first | (with_reducible first | exact HB.out | apply wA | apply wN | apply wD | refine below_set ?_ GE353.out) | exact HB.out)) hb)
                                      clear BK353 HB
                                      have BK353 := n0_
                                      have HB := n1_
                                      clear n0_ n1_
                                      (try clear hb)
                                      (try clear hb2)
                                      (try clear hk)
                                      (try clear hi)
                                      refine hK.out _ _ ⟨(blk_cell BK353.out 0).trans rfl, (blk_cell BK353.out 1).trans rfl⟩ (fun hHeld => ?_)
                                      clear hK K
                                      refine norm_ (a' := ?_) ?_ ?_
                                      rotate_left
                                      · show Act.put _ (some 155) _ = _
                                        simp only [Act.put, List.setIfInBounds_toArray, List.set_cons_zero, List.set_cons_succ, i64_w, i32_w]
                                        rfl
                                      refine pure_ (i := 8) (N := some 147) (v := ?_) (a' := ?_) #[true, true, true, true, true, true, true, true, true, false, false, false, false] rfl rfl (any_of HT_.out (by kernel_rfl)) (fun _ _ _ h => h) (Or.inl ⟨by rfl, ?_⟩) ?_ ?_
                                      rotate_left
                                      · intro w'
                                        go_simp
                                        with_reducible rfl
                                      rotate_left
                                      · simp only [Act.put, List.setIfInBounds_toArray, List.set_cons_zero, List.set_cons_succ, i64_w, i32_w]
                                        rfl
                                      refine pure_ (i := 9) (N := some 156) (v := ?_) (a' := ?_) #[true, true, true, true, true, true, true, true, true, true, false, false, false] rfl rfl (any_of HT_.out (by kernel_rfl)) (fun _ _ _ h => h) (Or.inl ⟨by rfl, ?_⟩) ?_ ?_
                                      rotate_left
                                      · intro w'
                                        go_simp
                                        with_reducible rfl
                                      rotate_left
                                      · simp only [Act.put, List.setIfInBounds_toArray, List.set_cons_zero, List.set_cons_succ, i64_w, i32_w]
                                        rfl
                                      refine pure_ (i := 10) (N := some 157) (v := ?_) (a' := ?_) #[true, true, true, true, true, true, true, true, true, true, true, false, false] rfl rfl (any_of HT_.out (by kernel_rfl)) (fun _ _ _ h => h) (Or.inl ⟨by rfl, ?_⟩) ?_ ?_
                                      rotate_left
                                      · intro w'
                                        go_simp
                                        with_reducible rfl
                                      rotate_left
                                      · simp only [Act.put, List.setIfInBounds_toArray, List.set_cons_zero, List.set_cons_succ, i64_w, i32_w]
                                        rfl
                                      refine pure_ (i := 11) (N := some 23) (v := ?_) (a' := ?_) #[true, true, true, true, true, true, true, true, true, true, true, true, false] rfl rfl (any_of HT_.out (by kernel_rfl)) (fun _ _ _ h => h) (Or.inl ⟨by rfl, ?_⟩) ?_ ?_
                                      rotate_left
                                      · intro w'
                                        go_simp
                                        with_reducible rfl
                                      rotate_left
                                      · simp only [Act.put, List.setIfInBounds_toArray, List.set_cons_zero, List.set_cons_succ, i64_w, i32_w]
                                        rfl
                                      refine pure_ (i := 12) (N := some 8) (v := ?_) (a' := ?_) #[true, true, true, true, true, true, true, true, true, true, true, true, true] rfl rfl (any_of HT_.out (by kernel_rfl)) (fun _ _ _ h => h) (Or.inl ⟨by rfl, ?_⟩) ?_ ?_
                                      rotate_left
                                      · intro w'
                                        go_simp
                                        with_reducible rfl
                                      rotate_left
                                      · simp only [Act.put, List.setIfInBounds_toArray, List.set_cons_zero, List.set_cons_succ, i64_w, i32_w]
                                        rfl
                                      refine done_ (done_of HT_.out (by kernel_rfl)) ?_
                                      try go_wp2_with (first | ((with_reducible refine gate_callee (f := 16) rfl ?_); refine goesL_ (some 160) rfl rfl Tryz.func16 (by kernel_rfl) rfl #[.string a0, .int .i64 (-9223372036854775808), .int .i64 9223372036854775807] rfl (by (try simp only [List.map_toArray, List.map_cons, List.map_nil]); first | done | rfl | (simp only [List.length_drop, List.length_take]; rfl)) ?_; (with_reducible refine (words_Int.calls a0 (-9223372036854775808) 9223372036854775807 t391 t392 _ A68.out ⟨Wd.All.stay HT.out (by repeat (first | (with_reducible first | exact HB.out | apply wA | apply wN | apply wD) | exact HB.out | (refine below_set ?_ (by assumption)) | (refine below_set ?_ (Aside0.out (by assumption)))))⟩).mono ?_); rintro e w78 ⟨rfl, hb⟩; refine ⟨_, rfl, ?_⟩; have n0_ := ak (blk_below (g := gb353) (o := .cells #[.slice A2_0 l2_0.length c2_0, .int .i64 a2_1] 25 (0, 0)) (by (with_reducible repeat (first | refine bN ?_ _ | refine bD ?_ | refine bA ?_ _)); exact BK353.out) hb); have n1_ := ak (below_step (by repeat (first | (with_reducible first | exact HB.out | apply wA | apply wN | apply wD | refine below_set ?_ GE353.out) | exact HB.out)) hb); clear BK353; clear HB; have BK353 := n0_; have HB := n1_; clear n0_ n1_; (try clear hb); (try clear hb2); (try clear hk); (try clear hi); have hcz79_0 : w78.cell? ⟨gb353, 0, none⟩ = some (.slice A2_0 l2_0.length c2_0) := (blk_cell BK353.out 0).trans rfl; have hcz79_1 : w78.cell? ⟨gb353, 1, none⟩ = some (.int .i64 a2_1) := (blk_cell BK353.out 1).trans rfl; have hfz79_0 := blk_frozen BK353.out 0; have hfz79_1 := blk_frozen BK353.out 1) | (go_at_call 17; (with_reducible refine (words_Digits.calls t391 t393 _ A72.out ⟨Wd.All.stay HT.out (by repeat (first | (with_reducible first | exact HB.out | apply wA | apply wN | apply wD) | exact HB.out | (refine below_set ?_ (by assumption)) | (refine below_set ?_ (Aside0.out (by assumption)))))⟩).mono ?_); rintro e w80 ⟨rfl, hb⟩; have n0_ := ak (blk_below (g := gb353) (o := .cells #[.slice A2_0 l2_0.length c2_0, .int .i64 a2_1] 25 (0, 0)) (by (with_reducible repeat (first | refine bN ?_ _ | refine bD ?_ | refine bA ?_ _)); exact BK353.out) hb); have n1_ := ak (below_step (by repeat (first | (with_reducible first | exact HB.out | apply wA | apply wN | apply wD | refine below_set ?_ GE353.out) | exact HB.out)) hb); clear BK353; clear HB; have BK353 := n0_; have HB := n1_; clear n0_ n1_; (try clear hb); (try clear hb2); (try clear hk); (try clear hi)) | (go_at_call 7; (with_reducible refine (mummerlaw01_shown.calls kj57  t394 _ hrt A74.out ⟨Wd.All.stay HT.out (by repeat (first | (with_reducible first | exact HB.out | apply wA | apply wN | apply wD) | exact HB.out | (refine below_set ?_ (by assumption)) | (refine below_set ?_ (Aside0.out (by assumption)))))⟩).mono ?_); rintro e w81 ⟨rfl, hb⟩; have n0_ := ak (blk_below (g := gb353) (o := .cells #[.slice A2_0 l2_0.length c2_0, .int .i64 a2_1] 25 (0, 0)) (by (with_reducible repeat (first | refine bN ?_ _ | refine bD ?_ | refine bA ?_ _)); exact BK353.out) hb); have n1_ := ak (below_step (by repeat (first | (with_reducible first | exact HB.out | apply wA | apply wN | apply wD | refine below_set ?_ GE353.out) | exact HB.out)) hb); clear BK353; clear HB; have BK353 := n0_; have HB := n1_; clear n0_ n1_; (try clear hb); (try clear hb2); (try clear hk); (try clear hi)))
                                      go_ret
                                      exact ⟨by first | rfl | (simp [errW_none, errW_some] <;> rfl) | (simp [*, errW_none, errW_some] <;> rfl), by repeat (first | (with_reducible first | exact HB.out | apply wA | apply wN | apply wD | refine below_set ?_ GE353.out) | exact HB.out)⟩
                                    · rw [if_neg c73] at H
                                      have c73b0 : (t393.toList == a0.toList) = false := beq_eq_false_iff_ne.mpr c73
                                      have c73b1 : (t393.toList != a0.toList) = true := bne_iff_ne.mpr c73
                                      exact absurd ((Option.some.inj H).trans hrt.out) (by decide)
                                  · rw [if_neg c71] at H
                                    have c71b0 : (t392 == 0) = false := beq_eq_false_iff_ne.mpr c71
                                    have c71b1 : (t392 != 0) = true := bne_iff_ne.mpr c71
                                    replace H := Option.bind_eq_some_iff.mp H
                                    obtain ⟨t395, A820, H⟩ := H
                                    replace H : (some t395) = some r := H
                                    have A82 := ak A820
                                    clear A820
                                    obtain rfl := Option.some.inj H
                                    try go_wp2
                                    have n0_ := ak (bD BK353.out)
                                    have n1_ := ak (wD HB.out)
                                    clear BK353 HB
                                    have BK353 := n0_
                                    have HB := n1_
                                    clear n0_ n1_
                                    refine start_ (n := 13) (S := fun w' => w'.cell? ⟨gb353, 0, none⟩ = some (.slice A2_0 l2_0.length c2_0) ∧ w'.cell? ⟨gb353, 1, none⟩ = some (.int .i64 a2_1)) (ds := []) #[false, false, false, false, false, false, false, false, false, false, false, false, false] (by kernel_rfl) rfl rfl ⟨(blk_cell BK353.out 0).trans rfl, (blk_cell BK353.out 1).trans rfl⟩ (fun hHeld => ?_); refine with_tabW mummerlaw01_WordsInverse.tab27 mummerlaw01_WordsInverse.bits27 (fun HT_ HW_ => ?_)
                                    generalize wc.drew = w83 at BK353 HB hHeld ⊢
                                    refine pure_ (i := 0) (N := some 148) (v := ?_) (a' := ?_) #[true, false, false, false, false, false, false, false, false, false, false, false, false] rfl rfl (any_of HT_.out (by kernel_rfl)) (fun _ _ _ h => h) (Or.inl ⟨by rfl, ?_⟩) ?_ ?_
                                    rotate_left
                                    · intro w'
                                      go_simp
                                      with_reducible rfl
                                    rotate_left
                                    · simp only [Act.put, List.setIfInBounds_toArray, List.set_cons_zero, List.set_cons_succ, i64_w, i32_w]
                                      rfl
                                    refine pure_ (i := 3) (N := some 151) (v := ?_) (a' := ?_) #[true, false, false, true, false, false, false, false, false, false, false, false, false] rfl rfl (any_of HT_.out (by kernel_rfl)) (fun _ _ _ h => h) (Or.inl ⟨by rfl, ?_⟩) ?_ ?_
                                    rotate_left
                                    · intro w'
                                      go_simp
                                      with_reducible rfl
                                    rotate_left
                                    · simp only [Act.put, List.setIfInBounds_toArray, List.set_cons_zero, List.set_cons_succ, i64_w, i32_w]
                                      rfl
                                    refine pure_ (i := 5) (N := some 153) (v := ?_) (a' := ?_) #[true, false, false, true, false, true, false, false, false, false, false, false, false] rfl rfl (any_of HT_.out (by kernel_rfl)) (fun _ _ _ h => h) (Or.inl ⟨by rfl, ?_⟩) ?_ ?_
                                    rotate_left
                                    · intro w'
                                      go_simp
                                      with_reducible rfl
                                    rotate_left
                                    · simp only [Act.put, List.setIfInBounds_toArray, List.set_cons_zero, List.set_cons_succ, i64_w, i32_w]
                                      rfl
                                    refine take_ (i := 1) (N := some 149) (v := ?_) (a' := ?_) #[true, true, false, true, false, true, false, false, false, false, false, false, false] rfl rfl (take_ofW HT_.out HW_.out (by kernel_rfl)) (fun _ _ _ h => h) (Or.inl ⟨by rfl, ?_⟩) hHeld ?_ ?_
                                    rotate_left
                                    · rintro w' ⟨s0, s1⟩
                                      go_simp
                                      with_reducible rfl
                                    rotate_left
                                    · simp only [Act.put, List.setIfInBounds_toArray, List.set_cons_zero, List.set_cons_succ, i64_w, i32_w]
                                      rfl
                                    refine take_ (i := 4) (N := some 152) (v := ?_) (a' := ?_) #[true, true, false, true, true, true, false, false, false, false, false, false, false] rfl rfl (take_ofW HT_.out HW_.out (by kernel_rfl)) (fun _ _ _ h => h) (Or.inl ⟨by rfl, ?_⟩) hHeld ?_ ?_
                                    rotate_left
                                    · rintro w' ⟨s0, s1⟩
                                      go_simp
                                      with_reducible rfl
                                    rotate_left
                                    · simp only [Act.put, List.setIfInBounds_toArray, List.set_cons_zero, List.set_cons_succ, i64_w, i32_w]
                                      rfl
                                    refine take_ (i := 6) (N := some 154) (v := ?_) (a' := ?_) #[true, true, false, true, true, true, true, false, false, false, false, false, false] rfl rfl (take_ofW HT_.out HW_.out (by kernel_rfl)) (fun _ _ _ h => h) (Or.inl ⟨by rfl, ?_⟩) hHeld ?_ ?_
                                    rotate_left
                                    · rintro w' ⟨s0, s1⟩
                                      go_simp
                                      with_reducible rfl
                                    rotate_left
                                    · simp only [Act.put, List.setIfInBounds_toArray, List.set_cons_zero, List.set_cons_succ, i64_w, i32_w]
                                      rfl
                                    refine one_ (i := 2) (N := some 150) #[true, true, true, true, true, true, true, false, false, false, false, false, false] rfl rfl (one_of HT_.out (by kernel_rfl)) (by decide) (fun K hK => ?_)
                                    refine goes_ Tryz.func17 (by kernel_rfl) rfl #[.int .i64 a2_1] (by rfl) rfl rfl (by (try simp only [List.map_toArray, List.map_cons, List.map_nil]); first | done | rfl | (simp only [List.length_drop, List.length_take]; rfl)) ?_
                                    with_reducible refine (words_Digits.calls a2_1 t388 _ A66.out ⟨Wd.All.stay HT.out (by repeat (first | (with_reducible first | exact HB.out | apply wA | apply wN | apply wD) | exact HB.out | (refine below_set ?_ (by assumption)) | (refine below_set ?_ (Aside0.out (by assumption)))))⟩).mono ?_
                                    rintro e w84 ⟨rfl, hb⟩
                                    refine ⟨_, rfl, ?_⟩
                                    have n0_ := ak (blk_below (g := gb353) (o := .cells #[.slice A2_0 l2_0.length c2_0, .int .i64 a2_1] 25 (0, 0)) (by (with_reducible repeat (first | refine bN ?_ _ | refine bD ?_ | refine bA ?_ _)); exact BK353.out) hb)
                                    have n1_ := ak (below_step (by repeat (first | (with_reducible first | exact HB.out | apply wA | apply wN | apply wD | refine below_set ?_ GE353.out) | exact HB.out)) hb)
                                    clear BK353 HB
                                    have BK353 := n0_
                                    have HB := n1_
                                    clear n0_ n1_
                                    (try clear hb)
                                    (try clear hb2)
                                    (try clear hk)
                                    (try clear hi)
                                    refine hK.out _ _ ⟨(blk_cell BK353.out 0).trans rfl, (blk_cell BK353.out 1).trans rfl⟩ (fun hHeld => ?_)
                                    clear hK K
                                    refine norm_ (a' := ?_) ?_ ?_
                                    rotate_left
                                    · show Act.put _ (some 150) _ = _
                                      simp only [Act.put, List.setIfInBounds_toArray, List.set_cons_zero, List.set_cons_succ, i64_w, i32_w]
                                      rfl
                                    refine one_ (i := 7) (N := some 155) #[true, true, true, true, true, true, true, true, false, false, false, false, false] rfl rfl (one_of HT_.out (by kernel_rfl)) (by decide) (fun K hK => ?_)
                                    refine goes_ Tryz.func16 (by kernel_rfl) rfl #[.string t388, .int .i64 a2_1, .int .i64 a2_1] (by rfl) rfl rfl (by (try simp only [List.map_toArray, List.map_cons, List.map_nil]); first | done | rfl | (simp only [List.length_drop, List.length_take]; rfl)) ?_
                                    with_reducible refine (words_Int.calls t388 a2_1 a2_1 t389 t390 _ A67.out ⟨Wd.All.stay HT.out (by repeat (first | (with_reducible first | exact HB.out | apply wA | apply wN | apply wD) | exact HB.out | (refine below_set ?_ (by assumption)) | (refine below_set ?_ (Aside0.out (by assumption)))))⟩).mono ?_
                                    rintro e w85 ⟨rfl, hb⟩
                                    refine ⟨_, rfl, ?_⟩
                                    have n0_ := ak (blk_below (g := gb353) (o := .cells #[.slice A2_0 l2_0.length c2_0, .int .i64 a2_1] 25 (0, 0)) (by (with_reducible repeat (first | refine bN ?_ _ | refine bD ?_ | refine bA ?_ _)); exact BK353.out) hb)
                                    have n1_ := ak (below_step (by repeat (first | (with_reducible first | exact HB.out | apply wA | apply wN | apply wD | refine below_set ?_ GE353.out) | exact HB.out)) hb)
                                    clear BK353 HB
                                    have BK353 := n0_
                                    have HB := n1_
                                    clear n0_ n1_
                                    (try clear hb)
                                    (try clear hb2)
                                    (try clear hk)
                                    (try clear hi)
                                    refine hK.out _ _ ⟨(blk_cell BK353.out 0).trans rfl, (blk_cell BK353.out 1).trans rfl⟩ (fun hHeld => ?_)
                                    clear hK K
                                    refine norm_ (a' := ?_) ?_ ?_
                                    rotate_left
                                    · show Act.put _ (some 155) _ = _
                                      simp only [Act.put, List.setIfInBounds_toArray, List.set_cons_zero, List.set_cons_succ, i64_w, i32_w]
                                      rfl
                                    refine pure_ (i := 8) (N := some 147) (v := ?_) (a' := ?_) #[true, true, true, true, true, true, true, true, true, false, false, false, false] rfl rfl (any_of HT_.out (by kernel_rfl)) (fun _ _ _ h => h) (Or.inl ⟨by rfl, ?_⟩) ?_ ?_
                                    rotate_left
                                    · intro w'
                                      go_simp
                                      with_reducible rfl
                                    rotate_left
                                    · simp only [Act.put, List.setIfInBounds_toArray, List.set_cons_zero, List.set_cons_succ, i64_w, i32_w]
                                      rfl
                                    refine pure_ (i := 9) (N := some 156) (v := ?_) (a' := ?_) #[true, true, true, true, true, true, true, true, true, true, false, false, false] rfl rfl (any_of HT_.out (by kernel_rfl)) (fun _ _ _ h => h) (Or.inl ⟨by rfl, ?_⟩) ?_ ?_
                                    rotate_left
                                    · intro w'
                                      go_simp
                                      with_reducible rfl
                                    rotate_left
                                    · simp only [Act.put, List.setIfInBounds_toArray, List.set_cons_zero, List.set_cons_succ, i64_w, i32_w]
                                      rfl
                                    refine pure_ (i := 10) (N := some 157) (v := ?_) (a' := ?_) #[true, true, true, true, true, true, true, true, true, true, true, false, false] rfl rfl (any_of HT_.out (by kernel_rfl)) (fun _ _ _ h => h) (Or.inl ⟨by rfl, ?_⟩) ?_ ?_
                                    rotate_left
                                    · intro w'
                                      go_simp
                                      with_reducible rfl
                                    rotate_left
                                    · simp only [Act.put, List.setIfInBounds_toArray, List.set_cons_zero, List.set_cons_succ, i64_w, i32_w]
                                      rfl
                                    refine pure_ (i := 11) (N := some 23) (v := ?_) (a' := ?_) #[true, true, true, true, true, true, true, true, true, true, true, true, false] rfl rfl (any_of HT_.out (by kernel_rfl)) (fun _ _ _ h => h) (Or.inl ⟨by rfl, ?_⟩) ?_ ?_
                                    rotate_left
                                    · intro w'
                                      go_simp
                                      with_reducible rfl
                                    rotate_left
                                    · simp only [Act.put, List.setIfInBounds_toArray, List.set_cons_zero, List.set_cons_succ, i64_w, i32_w]
                                      rfl
                                    refine pure_ (i := 12) (N := some 8) (v := ?_) (a' := ?_) #[true, true, true, true, true, true, true, true, true, true, true, true, true] rfl rfl (any_of HT_.out (by kernel_rfl)) (fun _ _ _ h => h) (Or.inl ⟨by rfl, ?_⟩) ?_ ?_
                                    rotate_left
                                    · intro w'
                                      go_simp
                                      with_reducible rfl
                                    rotate_left
                                    · simp only [Act.put, List.setIfInBounds_toArray, List.set_cons_zero, List.set_cons_succ, i64_w, i32_w]
                                      rfl
                                    refine done_ (done_of HT_.out (by kernel_rfl)) ?_
                                    try go_wp2_with (first | ((with_reducible refine gate_callee (f := 16) rfl ?_); refine goesL_ (some 160) rfl rfl Tryz.func16 (by kernel_rfl) rfl #[.string a0, .int .i64 (-9223372036854775808), .int .i64 9223372036854775807] rfl (by (try simp only [List.map_toArray, List.map_cons, List.map_nil]); first | done | rfl | (simp only [List.length_drop, List.length_take]; rfl)) ?_; (with_reducible refine (words_Int.calls a0 (-9223372036854775808) 9223372036854775807 t391 t392 _ A68.out ⟨Wd.All.stay HT.out (by repeat (first | (with_reducible first | exact HB.out | apply wA | apply wN | apply wD) | exact HB.out | (refine below_set ?_ (by assumption)) | (refine below_set ?_ (Aside0.out (by assumption)))))⟩).mono ?_); rintro e w86 ⟨rfl, hb⟩; refine ⟨_, rfl, ?_⟩; have n0_ := ak (blk_below (g := gb353) (o := .cells #[.slice A2_0 l2_0.length c2_0, .int .i64 a2_1] 25 (0, 0)) (by (with_reducible repeat (first | refine bN ?_ _ | refine bD ?_ | refine bA ?_ _)); exact BK353.out) hb); have n1_ := ak (below_step (by repeat (first | (with_reducible first | exact HB.out | apply wA | apply wN | apply wD | refine below_set ?_ GE353.out) | exact HB.out)) hb); clear BK353; clear HB; have BK353 := n0_; have HB := n1_; clear n0_ n1_; (try clear hb); (try clear hb2); (try clear hk); (try clear hi); have hcz87_0 : w86.cell? ⟨gb353, 0, none⟩ = some (.slice A2_0 l2_0.length c2_0) := (blk_cell BK353.out 0).trans rfl; have hcz87_1 : w86.cell? ⟨gb353, 1, none⟩ = some (.int .i64 a2_1) := (blk_cell BK353.out 1).trans rfl; have hfz87_0 := blk_frozen BK353.out 0; have hfz87_1 := blk_frozen BK353.out 1) | (go_at_call 7; (with_reducible refine (mummerlaw01_shown.calls kj57  t395 _ hrt A82.out ⟨Wd.All.stay HT.out (by repeat (first | (with_reducible first | exact HB.out | apply wA | apply wN | apply wD) | exact HB.out | (refine below_set ?_ (by assumption)) | (refine below_set ?_ (Aside0.out (by assumption)))))⟩).mono ?_); rintro e w88 ⟨rfl, hb⟩; have n0_ := ak (blk_below (g := gb353) (o := .cells #[.slice A2_0 l2_0.length c2_0, .int .i64 a2_1] 25 (0, 0)) (by (with_reducible repeat (first | refine bN ?_ _ | refine bD ?_ | refine bA ?_ _)); exact BK353.out) hb); have n1_ := ak (below_step (by repeat (first | (with_reducible first | exact HB.out | apply wA | apply wN | apply wD | refine below_set ?_ GE353.out) | exact HB.out)) hb); clear BK353; clear HB; have BK353 := n0_; have HB := n1_; clear n0_ n1_; (try clear hb); (try clear hb2); (try clear hk); (try clear hi)))
                                    go_ret
                                    exact ⟨by first | rfl | (simp [errW_none, errW_some] <;> rfl) | (simp [*, errW_none, errW_some] <;> rfl), by repeat (first | (with_reducible first | exact HB.out | apply wA | apply wN | apply wD | refine below_set ?_ GE353.out) | exact HB.out)⟩
                                · rw [if_neg c70] at H
                                  have c70b0 : (t390 == 0) = false := beq_eq_false_iff_ne.mpr c70
                                  have c70b1 : (t390 != 0) = true := bne_iff_ne.mpr c70
                                  exact absurd ((Option.some.inj H).trans hrt.out) (by decide)
                              · rw [if_neg c69] at H
                                have c69b0 : (t389 == a2_1) = false := beq_eq_false_iff_ne.mpr c69
                                have c69b1 : (t389 != a2_1) = true := bne_iff_ne.mpr c69
                                exact absurd ((Option.some.inj H).trans hrt.out) (by decide)
end Go.Proofs.YtciaocdpojnmcaaGreatDoor.P
