import Derived.Test.YtnkfdobcmfdhfaaDoorKB26
import Derived.Test.YtnkfdobcmfdhfaaDoorKB27
import Derived.Test.YtnkfdobcmfdhfaaDoorKB28
namespace Go.Proofs.YtnkfdobcmfdhfaaDoor.P
open Go.RowKit Go.Proofs.YtnkfdobcmfdhfaaDoorW.PrintWords Go.Proofs.YtnkfdobcmfdhfaaDoorW.PrintLast Go.Proofs.YtnkfdobcmfdhfaaDoorW.PrintMore
attribute [local go_sem] max2_int min2_int max_two min_two max_three min_three max_four min_four   -- for this text's walks alone
set_option linter.unusedVariables false
set_option linter.unusedSimpArgs false
mutual
def mummerlaw03_SpansBack.j0 : Nat → List Int → Int → Int → List Int → Bool → Option (Bool)
  | 0, _, _, _, _, _ => none
  | k + 1, x0, x1, x2, x7, x34 => if x34 = true then ((mummerlaw03_awake.f k).bind fun t584 => (some t584)) else ((spans_Lines.f x0).bind fun bt585 => (if bt585.2 = 0 then (if (bt585.1.length : Int) = 0 then (some false) else (mummerlaw03_SpansBack.l0 k x0 x1 x2 x7 bt585.1 (⟨#[]⟩ : ByteArray) 0)) else (some false)))
def mummerlaw03_SpansBack.l0 : Nat → List Int → Int → Int → List Int → List (S24) → ByteArray → Int → Option (Bool)
  | 0, _, _, _, _, _, _, _ => none
  | k + 1, x0, x1, x2, x7, x9, x10, x11 => if x11 < (x9.length : Int) then (if 0 ≤ x11 then ((spans_Cut.f k x0 ((rd_T24 x9 x11).f0) ((rd_T24 x9 x11).f1)).bind fun bt590 => (if bt590.2 = 0 then (if x11 > 0 then (if x10.size + 1 ≤ 9223372036854775807 then (if (x10 ++ (⟨#[10]⟩ : ByteArray)).size + bt590.1.size ≤ 9223372036854775807 then (mummerlaw03_SpansBack.l0 k x0 x1 x2 x7 x9 ((x10 ++ (⟨#[10]⟩ : ByteArray)) ++ bt590.1) (wrap64 (x11 + 1))) else (none)) else (none)) else (if x10.size + bt590.1.size ≤ 9223372036854775807 then (mummerlaw03_SpansBack.l0 k x0 x1 x2 x7 x9 (x10 ++ bt590.1) (wrap64 (x11 + 1))) else (none))) else (some false))) else (none)) else (if x10.toList = (strOfNums x0).toList then (mummerlaw03_SpansBack.l1 k x0 x1 x2 x7 x9 0) else (some false))
def mummerlaw03_SpansBack.l1 : Nat → List Int → Int → Int → List Int → List (S24) → Int → Option (Bool)
  | 0, _, _, _, _, _, _ => none
  | k + 1, x0, x1, x2, x7, x9, x14 => if x14 < (x7.length : Int) then (if 0 ≤ x14 then ((spans_Place.f k x0 (rd x7 x14)).bind fun bt593 => ((spans_At.f k x0 bt593.1 bt593.2.1).bind fun bt596 => (if bt593.2.2 = 0 then (if bt596.2 = 0 then (if bt596.1 = (rd x7 x14) then (if bt593.1 < 1 then (some false) else (if bt593.1 > (x9.length : Int) then (some false) else (if 0 ≤ (wrap64 (bt593.1 - 1)) then (if (wrap64 (bt593.1 - 1)) < (x9.length : Int) then (if bt596.1 < ((rd_T24 x9 (wrap64 (bt593.1 - 1))).f0) then (some false) else (if bt596.1 > ((rd_T24 x9 (wrap64 (bt593.1 - 1))).f1) then (some false) else (if bt593.2.1 < 1 then (some false) else (if bt593.2.1 > (wrap64 ((wrap64 (1 + bt596.1)) - ((rd_T24 x9 (wrap64 (bt593.1 - 1))).f0))) then (some false) else (mummerlaw03_SpansBack.l1 k x0 x1 x2 x7 x9 (wrap64 (x14 + 1))))))) else (none)) else (none)))) else (some false)) else (some false)) else (some false)))) else (none)) else ((spans_At.f k x0 (wrap64 (x1)) (wrap64 (x2))).bind fun bt602 => (if bt602.2 = 0 then ((spans_Place.f k x0 bt602.1).bind fun bt604 => (if bt604.2.2 = 0 then (if bt604.1 = (wrap64 (x1)) then (if bt604.2.1 = (wrap64 (x2)) then ((mummerlaw03_awake.f k).bind fun t607 => (some t607)) else (some false)) else (some false)) else (some false))) else (if bt602.2 = 4 then (if bt602.1 = 0 then ((mummerlaw03_awake.f k).bind fun t608 => (some t608)) else (some false)) else (some false))))
end
def mummerlaw03_SpansBack.f (k : Nat) (l0 : List Int) (a1 : Int) (a2 : Int) : Option (Bool) := (mummerref02_Starts.f k l0).bind fun bt580 => (if (l0.length : Int) > 100 then (mummerlaw03_SpansBack.j0 k l0 a1 a2 bt580.1 true) else (mummerlaw03_SpansBack.j0 k l0 a1 a2 bt580.1 (bt580.2 != 0)))
set_option maxHeartbeats 8000000 in
set_option maxRecDepth 100000 in
theorem mummerlaw03_SpansBack.calls (k : Nat) (A0 : Option Addr) (c0 : Nat) (l0 : List Int) (a1 : Int) (a2 : Int) (r : Bool) (w : World) (hr0 : Kd.C (Kd.int .u8) w A0 l0.length l0) (hc0 : l0.length ≤ c0) (hrt : Aside0 (r = true)) (h : mummerlaw03_SpansBack.f k l0 a1 a2 = some r) (HT : Aside0 (Sc.Tab w)) :
    Calls Tryd.prog 9 #[.slice A0 l0.length c0, .int .u8 a1, .int .u8 a2] w fun e w' => e = .returned (.bool r) ∧ Below w.heap.size w w' := by
  have hu24 := Tryd.underlying24
  have HR0 := ak hr0
  have HC0 := ak hc0
  clear hr0 hc0
  have HB := ak (Below.refl w.heap.size w)
  have H : ((mummerref02_Starts.f k l0).bind fun bt580 => (if (l0.length : Int) > 100 then (mummerlaw03_SpansBack.j0 k l0 a1 a2 bt580.1 true) else (mummerlaw03_SpansBack.j0 k l0 a1 a2 bt580.1 (bt580.2 != 0)))) = some r := h
  clear h
  replace H := Option.bind_eq_some_iff.mp H
  obtain ⟨⟨t580, t581⟩, A40, H⟩ := H
  replace H : (if (l0.length : Int) > 100 then (mummerlaw03_SpansBack.j0 k l0 a1 a2 t580 true) else (mummerlaw03_SpansBack.j0 k l0 a1 a2 t580 (t581 != 0))) = some r := H
  have A4 := ak A40
  clear A40
  have HC5 := ak H
  clear H
  go_enter Tryd.func9, Tryd.ntmps9
  go_upto_region 2 with (first | ((with_reducible refine gate_callee (f := 33) rfl ?_); refine goesL_ (some 25) rfl rfl Tryd.func33 (by kernel_rfl) rfl #[.slice A0 l0.length c0] rfl (by (try simp only [List.map_toArray, List.map_cons, List.map_nil]); first | done | rfl | (simp only [List.length_drop, List.length_take]; rfl)) ?_; (with_reducible refine (mummerref02_Starts.calls k _ _ l0 t580 t581 _ ?side1 ?side2 A4.out).mono ?_); (case side1 => repeat (first | exact HR0.out | (with_reducible refine Kd.C_alloc ?_ _) | (with_reducible refine Kd.C_drewN ?_ _) | (with_reducible refine Kd.C_drew ?_))); (case side2 => exact HC0.out); rintro e w6 ⟨v582, rfl, ho0, hb⟩; refine ⟨_, rfl, ?_⟩; have n0_ := ak (Kd.R_lower ho0 (below_size (by repeat (first | (with_reducible first | exact HB.out | apply wA | apply wN | apply wD) | exact HB.out)))); have n1_ := ak (below_step (by repeat (first | (with_reducible first | exact HB.out | apply wA | apply wN | apply wD) | exact HB.out)) hb); clear HB; have HO583 := n0_; have HB := n1_; clear n0_ n1_; (try clear hb); (try clear hb2); (try clear hk); (try clear hi); (try clear ho0)))
  (try simp only [Act.put, List.setIfInBounds_toArray, List.set_cons_zero, List.set_cons_succ])
  go_cut [34] (fun v34 wc => ∃ (kq : Nat) (x34_4 : Bool), v34 = .bool x34_4 ∧ Aside0 (mummerlaw03_SpansBack.j0 kq l0 a1 a2 t580 x34_4 = some r) ∧ Aside0 (kq ≤ k) ∧ Aside0 (Kd.R (Kd.int .i64) 3 wc w.heap.size (fun _ => True) v582 t580) ∧ Aside0 (Below w.heap.size w wc))
  case first =>
    have H := HC5.out
    clear HC5
    by_cases c7 : (l0.length : Int) > 100
    · rw [if_pos c7] at H
      have c7b0 : decide (100 < (l0.length : Int)) = true := decide_eq_true c7
      have c7b1 : decide (100 < l0.length) = true := decide_eq_true (by omega)
      clear c7
      (first | rw [c7b0] | (simp only [i64_w, i32_w]; rw [c7b0]) | skip)
      have H' := ak H
      clear H
      go_wp2
      go_meet
      case rel => exact ⟨_, (true), (by first | rfl | (simp; done) | (simp [*]; done)), H', ⟨by first | omega | exact Nat.le_refl _⟩, ⟨by (with_reducible repeat (first | apply Kd.R_alloc | apply Kd.R_drewN | apply Kd.R_drew)); exact HO583.out⟩, ⟨by repeat (first | (with_reducible first | exact HB.out | apply wA | apply wN | apply wD) | exact HB.out)⟩⟩
    · rw [if_neg c7] at H
      have c7b0 : decide (100 < (l0.length : Int)) = false := decide_eq_false c7
      have c7b1 : decide (100 < l0.length) = false := decide_eq_false (by omega)
      clear c7
      (first | rw [c7b0] | (simp only [i64_w, i32_w]; rw [c7b0]) | skip)
      have H' := ak H
      clear H
      go_wp2
      go_meet
      case rel => exact ⟨_, ((t581 != 0)), (by first | rfl | (simp; done) | (simp [*]; done) | (cases t581 <;> simp)), H', ⟨by first | omega | exact Nat.le_refl _⟩, ⟨by (with_reducible repeat (first | apply Kd.R_alloc | apply Kd.R_drewN | apply Kd.R_drew)); exact HO583.out⟩, ⟨by repeat (first | (with_reducible first | exact HB.out | apply wA | apply wN | apply wD) | exact HB.out)⟩⟩
  case rest =>
    clear HC5
    try clear p2
    try clear c3
    try clear c7
    try clear c7b0
    try clear c7b1
    obtain ⟨kq, x34_4, rfl, HA, HJ4, HO_7, HB⟩ := hcut
    cases kq with
    | zero => exact absurd HA.out (by simp [mummerlaw03_SpansBack.j0])
    | succ kj4 =>
      have H := HA.out
      clear HA
      simp only [mummerlaw03_SpansBack.j0] at H
      by_cases c8 : x34_4 = true
      · subst c8
        have H1 : ((mummerlaw03_awake.f kj4).bind fun t584 => (some t584)) = some r := by rw [if_pos rfl] at H; exact H
        clear H
        have H := H1
        clear H1
        replace H := Option.bind_eq_some_iff.mp H
        obtain ⟨t584, A90, H⟩ := H
        replace H : (some t584) = some r := H
        have A9 := ak A90
        clear A90
        obtain rfl := Option.some.inj H
        go_wp2_with (first | ((with_reducible refine gate_callee (f := 12) rfl ?_); refine goesL_ (some 35) rfl rfl Tryd.func12 (by kernel_rfl) rfl #[] rfl (by (try simp only [List.map_toArray, List.map_cons, List.map_nil]); first | done | rfl | (simp only [List.length_drop, List.length_take]; rfl)) ?_; (with_reducible refine (mummerlaw03_awake.calls kj4  t584 _ hrt A9.out ⟨Sc.Tab.stay HT.out (by repeat (first | (with_reducible first | exact HB.out | apply wA | apply wN | apply wD) | exact HB.out | (refine below_set ?_ (by assumption)) | (refine below_set ?_ (Aside0.out (by assumption)))))⟩).mono ?_); rintro e w10 ⟨rfl, hb⟩; refine ⟨_, rfl, ?_⟩; have n0_ := ak (Kd.R_below (by (with_reducible repeat (first | apply Kd.R_alloc | apply Kd.R_drewN | apply Kd.R_drew)); exact HO_7.out) hb); have n1_ := ak (below_step (by repeat (first | (with_reducible first | exact HB.out | apply wA | apply wN | apply wD) | exact HB.out)) hb); clear HO_7; clear HB; have HO_7 := n0_; have HB := n1_; clear n0_ n1_; (try clear hb); (try clear hb2); (try clear hk); (try clear hi)))
        go_ret
        exact ⟨by first | rfl | (simp [errW_none, errW_some] <;> rfl) | (simp [*, errW_none, errW_some] <;> rfl), by repeat (first | (with_reducible first | exact HB.out | apply wA | apply wN | apply wD) | exact HB.out)⟩
      · replace c8 := Bool.eq_false_iff.mpr c8
        subst c8
        have H1 : ((spans_Lines.f l0).bind fun bt585 => (if bt585.2 = 0 then (if (bt585.1.length : Int) = 0 then (some false) else (mummerlaw03_SpansBack.l0 kj4 l0 a1 a2 t580 bt585.1 (⟨#[]⟩ : ByteArray) 0)) else (some false))) = some r := by rw [if_neg (show ¬ (false = true) by decide)] at H; exact H
        clear H
        have H := H1
        clear H1
        replace H := Option.bind_eq_some_iff.mp H
        obtain ⟨⟨t585, t586⟩, A110, H⟩ := H
        replace H : (if t586 = 0 then (if (t585.length : Int) = 0 then (some false) else (mummerlaw03_SpansBack.l0 kj4 l0 a1 a2 t580 t585 (⟨#[]⟩ : ByteArray) 0)) else (some false)) = some r := H
        have A11 := ak A110
        clear A110
        by_cases c12 : t586 = 0
        · rw [if_pos c12] at H
          have c12b0 : (t586 == 0) = true := beq_iff_eq.mpr c12
          have c12b1 : (t586 != 0) = false := bne_eq_false_iff_eq.mpr c12
          clear c12
          by_cases c13 : (t585.length : Int) = 0
          · rw [if_pos c13] at H
            have c13b0 : ((t585.length : Int) == 0) = true := beq_iff_eq.mpr c13
            have c13b1 : ((t585.length : Int) != 0) = false := bne_eq_false_iff_eq.mpr c13
            clear c13
            exact absurd ((Option.some.inj H).trans hrt.out) (by decide)
          · rw [if_neg c13] at H
            have c13b0 : ((t585.length : Int) == 0) = false := beq_eq_false_iff_ne.mpr c13
            have c13b1 : ((t585.length : Int) != 0) = true := bne_iff_ne.mpr c13
            have c13b2 : ¬ (t585 = []) := fun h_ => c13 (by rw [h_]; rfl)
            have H' := ak H
            clear H
            go_wp2_with (first | ((with_reducible refine gate_callee (f := 24) rfl ?_); refine goesL_ (some 38) rfl rfl Tryd.func24 (by kernel_rfl) rfl #[.slice A0 l0.length c0] rfl (by (try simp only [List.map_toArray, List.map_cons, List.map_nil]); first | done | rfl | (simp only [List.length_drop, List.length_take]; rfl)) ?_; (with_reducible refine (spans_Lines.calls _ _ l0 t585 t586 _ ?side1 ?side2 A11.out ⟨Sc.Tab.stay HT.out (by repeat (first | (with_reducible first | exact HB.out | apply wA | apply wN | apply wD) | exact HB.out | (refine below_set ?_ (by assumption)) | (refine below_set ?_ (Aside0.out (by assumption)))))⟩).mono ?_); (case side1 => repeat (first | exact (Kd.C_below HR0.out HB.out) | (with_reducible refine Kd.C_alloc ?_ _) | (with_reducible refine Kd.C_drewN ?_ _) | (with_reducible refine Kd.C_drew ?_))); (case side2 => exact HC0.out); rintro e w14 ⟨v587, rfl, ho0, hb⟩; refine ⟨_, rfl, ?_⟩; have n0_ := ak (Kd.R_below (by (with_reducible repeat (first | apply Kd.R_alloc | apply Kd.R_drewN | apply Kd.R_drew)); exact HO_7.out) hb); have n1_ := ak (Kd.R_lower ho0 (below_size (by repeat (first | (with_reducible first | exact HB.out | apply wA | apply wN | apply wD) | exact HB.out)))); have n2_ := ak (below_step (by repeat (first | (with_reducible first | exact HB.out | apply wA | apply wN | apply wD) | exact HB.out)) hb); clear HO_7; clear HB; have HO_7 := n0_; have HO588 := n1_; have HB := n2_; clear n0_ n1_ n2_; (try clear hb); (try clear hb2); (try clear hk); (try clear hi); (try clear ho0); obtain ⟨Ao15, co15, eo15⟩ := Kd.R_slice HO588.out; subst eo15))
            go_loopg [10, 11] kj4 (fun kq v10 v11 w' => ∃ (x10_2 : ByteArray) (x11_2 : Int), v10 = .string x10_2 ∧ v11 = .int .i64 x11_2 ∧ Aside0 (mummerlaw03_SpansBack.l0 kq l0 a1 a2 t580 t585 x10_2 x11_2 = some r) ∧ Aside0 (kq ≤ kj4) ∧ Aside0 (Kd.R (Kd.int .i64) 3 w' w.heap.size (fun _ => True) v582 t580) ∧ Aside0 (Kd.R k24 24 w' w.heap.size (fun _ => True) (.slice Ao15 t585.length co15) t585) ∧ Aside0 (Below w.heap.size w w'))
            case atStart => exact ⟨((⟨#[]⟩ : ByteArray)), (0), (by first | rfl | (simp; done) | (simp [*]; done)), (by first | rfl | (simp; done) | (simp [*]; done)), H', ⟨Nat.le_refl _⟩, ⟨by (with_reducible repeat (first | apply Kd.R_alloc | apply Kd.R_drewN | apply Kd.R_drew)); exact HO_7.out⟩, ⟨by (with_reducible repeat (first | apply Kd.R_alloc | apply Kd.R_drewN | apply Kd.R_drew)); exact HO588.out⟩, ⟨by repeat (first | (with_reducible first | exact HB.out | apply wA | apply wN | apply wD) | exact HB.out)⟩⟩
            case round =>
              clear H'
              try clear c1
              try clear c2
              try clear p2
              try clear c3
              try clear c7
              try clear c7b0
              try clear c7b1
              try clear c8
              try clear c9
              try clear c12
              try clear c12b0
              try clear c12b1
              try clear c13
              try clear c13b0
              try clear c13b1
              try clear c13b2
              try clear p2
              obtain ⟨x10_2, x11_2, rfl, rfl, HA, HK2, HO_7, HO_9, HB⟩ := hrel
              cases gk with
              | zero => exact absurd HA.out (by simp [mummerlaw03_SpansBack.l0])
              | succ k2 =>
                have H := HA.out
                clear HA
                simp only [mummerlaw03_SpansBack.l0] at H
                by_cases c16 : x11_2 < (t585.length : Int)
                · rw [if_pos c16] at H
                  have c16b0 : decide (x11_2 < (t585.length : Int)) = true := decide_eq_true c16
                  clear c16
                  by_cases c17 : 0 ≤ x11_2
                  · rw [if_pos c17] at H
                    have c17b0 : decide (0 ≤ x11_2) = true := decide_eq_true c17
                    clear c17
                    replace H := Option.bind_eq_some_iff.mp H
                    obtain ⟨⟨t590, t591⟩, A180, H⟩ := H
                    replace H : (if t591 = 0 then (if x11_2 > 0 then (if x10_2.size + 1 ≤ 9223372036854775807 then (if (x10_2 ++ (⟨#[10]⟩ : ByteArray)).size + t590.size ≤ 9223372036854775807 then (mummerlaw03_SpansBack.l0 k2 l0 a1 a2 t580 t585 ((x10_2 ++ (⟨#[10]⟩ : ByteArray)) ++ t590) (wrap64 (x11_2 + 1))) else (none)) else (none)) else (if x10_2.size + t590.size ≤ 9223372036854775807 then (mummerlaw03_SpansBack.l0 k2 l0 a1 a2 t580 t585 (x10_2 ++ t590) (wrap64 (x11_2 + 1))) else (none))) else (some false)) = some r := H
                    have A18 := ak A180
                    clear A180
                    by_cases c19 : t591 = 0
                    · rw [if_pos c19] at H
                      have c19b0 : (t591 == 0) = true := beq_iff_eq.mpr c19
                      have c19b1 : (t591 != 0) = false := bne_eq_false_iff_eq.mpr c19
                      clear c19
                      by_cases c20 : x11_2 > 0
                      · rw [if_pos c20] at H
                        have c20b0 : decide (0 < x11_2) = true := decide_eq_true c20
                        clear c20
                        by_cases c21 : x10_2.size + 1 ≤ 9223372036854775807
                        · rw [if_pos c21] at H
                          have c21b0 := eq_true c21
                          have c21b1 : decide (x10_2.size + 1 ≤ 9223372036854775807) = true := decide_eq_true c21
                          try have c21b2 : (9223372036854775807 < x10_2.size + 1) = False := eq_false (Nat.not_lt.2 c21)
                          by_cases c22 : (x10_2 ++ (⟨#[10]⟩ : ByteArray)).size + t590.size ≤ 9223372036854775807
                          · rw [if_pos c22] at H
                            have c22b0 := eq_true c22
                            have c22b1 : decide ((x10_2 ++ (⟨#[10]⟩ : ByteArray)).size + t590.size ≤ 9223372036854775807) = true := decide_eq_true c22
                            try have c22b2 : (9223372036854775807 < (x10_2 ++ (⟨#[10]⟩ : ByteArray)).size + t590.size) = False := eq_false (Nat.not_lt.2 c22)
                            have H' := ak H
                            clear H
                            have p589 : 0 ≤ (x11_2 : Int) := of_decide_eq_true (by first | (with_reducible assumption) | assumption)
                            have q589 : x11_2 < (t585.length : Int) := of_decide_eq_true (by first | (with_reducible assumption) | assumption)
                            obtain ⟨ad589, e589, hx589_0, hx589_1⟩ := at_T24 (Kd.R_reads' HO_9.out).2.2 x11_2 p589 q589
                            cases e589
                            replace p589 := eq_true p589
                            replace q589 := eq_true q589
                            go_wp2_with (first | ((with_reducible refine gate_callee (f := 26) rfl ?_); refine goesL_ (some 60) rfl rfl Tryd.func26 (by kernel_rfl) rfl #[.slice A0 l0.length c0, .agg #[.int .i64 ((rd_T24 t585 x11_2).f0), .int .i64 ((rd_T24 t585 x11_2).f1)]] rfl (by (try simp only [List.map_toArray, List.map_cons, List.map_nil]); first | done | rfl | (simp only [List.length_drop, List.length_take]; rfl)) ?_; (with_reducible refine (spans_Cut.calls k2 _ _ l0 ((rd_T24 t585 x11_2).f0) ((rd_T24 t585 x11_2).f1) t590 t591 _ ?side1 ?side2 A18.out ⟨Sc.Tab.stay HT.out (by repeat (first | (with_reducible first | exact HB.out | apply wA | apply wN | apply wD) | exact HB.out | (refine below_set ?_ (by assumption)) | (refine below_set ?_ (Aside0.out (by assumption)))))⟩).mono ?_); (case side1 => repeat (first | exact (Kd.C_below HR0.out HB.out) | (with_reducible refine Kd.C_alloc ?_ _) | (with_reducible refine Kd.C_drewN ?_ _) | (with_reducible refine Kd.C_drew ?_))); (case side2 => exact HC0.out); rintro e w23 ⟨rfl, hb⟩; refine ⟨_, rfl, ?_⟩; have n0_ := ak (Kd.R_below (by (with_reducible repeat (first | apply Kd.R_alloc | apply Kd.R_drewN | apply Kd.R_drew)); exact HO_7.out) hb); have n1_ := ak (Kd.R_below (by (with_reducible repeat (first | apply Kd.R_alloc | apply Kd.R_drewN | apply Kd.R_drew)); exact HO_9.out) hb); have n2_ := ak (below_step (by repeat (first | (with_reducible first | exact HB.out | apply wA | apply wN | apply wD) | exact HB.out)) hb); clear HO_7; clear HO_9; clear HB; have HO_7 := n0_; have HO_9 := n1_; have HB := n2_; clear n0_ n1_ n2_; (try clear hb); (try clear hb2); (try clear hk); (try clear hi)))
                            go_roundg k2
                            case measure => have := HJ4.out; have := HK2.out; omega
                            case rel => exact ⟨((x10_2 ++ (⟨#[10]⟩ : ByteArray)) ++ t590), (wrap64 (x11_2 + 1)), (by first | rfl | (simp; done) | (simp [*]; done)), (by first | rfl | (simp; done) | (simp [*]; done)), H', ⟨by have := HJ4.out; have := HK2.out; omega⟩, ⟨by (with_reducible repeat (first | apply Kd.R_alloc | apply Kd.R_drewN | apply Kd.R_drew)); exact HO_7.out⟩, ⟨by (with_reducible repeat (first | apply Kd.R_alloc | apply Kd.R_drewN | apply Kd.R_drew)); exact HO_9.out⟩, ⟨by repeat (first | (with_reducible first | exact HB.out | apply wA | apply wN | apply wD) | exact HB.out)⟩⟩
                          · rw [if_neg c22] at H
                            exact absurd H (by simp)
                        · rw [if_neg c21] at H
                          exact absurd H (by simp)
                      · rw [if_neg c20] at H
                        have c20b0 : decide (0 < x11_2) = false := decide_eq_false c20
                        clear c20
                        by_cases c24 : x10_2.size + t590.size ≤ 9223372036854775807
                        · rw [if_pos c24] at H
                          have c24b0 := eq_true c24
                          have c24b1 : decide (x10_2.size + t590.size ≤ 9223372036854775807) = true := decide_eq_true c24
                          try have c24b2 : (9223372036854775807 < x10_2.size + t590.size) = False := eq_false (Nat.not_lt.2 c24)
                          have H' := ak H
                          clear H
                          have p589 : 0 ≤ (x11_2 : Int) := of_decide_eq_true (by first | (with_reducible assumption) | assumption)
                          have q589 : x11_2 < (t585.length : Int) := of_decide_eq_true (by first | (with_reducible assumption) | assumption)
                          obtain ⟨ad589, e589, hx589_0, hx589_1⟩ := at_T24 (Kd.R_reads' HO_9.out).2.2 x11_2 p589 q589
                          cases e589
                          replace p589 := eq_true p589
                          replace q589 := eq_true q589
                          go_wp2_with (first | ((with_reducible refine gate_callee (f := 26) rfl ?_); refine goesL_ (some 60) rfl rfl Tryd.func26 (by kernel_rfl) rfl #[.slice A0 l0.length c0, .agg #[.int .i64 ((rd_T24 t585 x11_2).f0), .int .i64 ((rd_T24 t585 x11_2).f1)]] rfl (by (try simp only [List.map_toArray, List.map_cons, List.map_nil]); first | done | rfl | (simp only [List.length_drop, List.length_take]; rfl)) ?_; (with_reducible refine (spans_Cut.calls k2 _ _ l0 ((rd_T24 t585 x11_2).f0) ((rd_T24 t585 x11_2).f1) t590 t591 _ ?side1 ?side2 A18.out ⟨Sc.Tab.stay HT.out (by repeat (first | (with_reducible first | exact HB.out | apply wA | apply wN | apply wD) | exact HB.out | (refine below_set ?_ (by assumption)) | (refine below_set ?_ (Aside0.out (by assumption)))))⟩).mono ?_); (case side1 => repeat (first | exact (Kd.C_below HR0.out HB.out) | (with_reducible refine Kd.C_alloc ?_ _) | (with_reducible refine Kd.C_drewN ?_ _) | (with_reducible refine Kd.C_drew ?_))); (case side2 => exact HC0.out); rintro e w25 ⟨rfl, hb⟩; refine ⟨_, rfl, ?_⟩; have n0_ := ak (Kd.R_below (by (with_reducible repeat (first | apply Kd.R_alloc | apply Kd.R_drewN | apply Kd.R_drew)); exact HO_7.out) hb); have n1_ := ak (Kd.R_below (by (with_reducible repeat (first | apply Kd.R_alloc | apply Kd.R_drewN | apply Kd.R_drew)); exact HO_9.out) hb); have n2_ := ak (below_step (by repeat (first | (with_reducible first | exact HB.out | apply wA | apply wN | apply wD) | exact HB.out)) hb); clear HO_7; clear HO_9; clear HB; have HO_7 := n0_; have HO_9 := n1_; have HB := n2_; clear n0_ n1_ n2_; (try clear hb); (try clear hb2); (try clear hk); (try clear hi)))
                          go_roundg k2
                          case measure => have := HJ4.out; have := HK2.out; omega
                          case rel => exact ⟨(x10_2 ++ t590), (wrap64 (x11_2 + 1)), (by first | rfl | (simp; done) | (simp [*]; done)), (by first | rfl | (simp; done) | (simp [*]; done)), H', ⟨by have := HJ4.out; have := HK2.out; omega⟩, ⟨by (with_reducible repeat (first | apply Kd.R_alloc | apply Kd.R_drewN | apply Kd.R_drew)); exact HO_7.out⟩, ⟨by (with_reducible repeat (first | apply Kd.R_alloc | apply Kd.R_drewN | apply Kd.R_drew)); exact HO_9.out⟩, ⟨by repeat (first | (with_reducible first | exact HB.out | apply wA | apply wN | apply wD) | exact HB.out)⟩⟩
                        · rw [if_neg c24] at H
                          exact absurd H (by simp)
                    · rw [if_neg c19] at H
                      have c19b0 : (t591 == 0) = false := beq_eq_false_iff_ne.mpr c19
                      have c19b1 : (t591 != 0) = true := bne_iff_ne.mpr c19
                      exact absurd ((Option.some.inj H).trans hrt.out) (by decide)
                  · rw [if_neg c17] at H
                    exact absurd H (by simp)
                · rw [if_neg c16] at H
                  have c16b0 : decide (x11_2 < (t585.length : Int)) = false := decide_eq_false c16
                  clear c16
                  by_cases c26 : x10_2.toList = (strOfNums l0).toList
                  · rw [if_pos c26] at H
                    have c26b0 : (x10_2.toList == (strOfNums l0).toList) = true := beq_iff_eq.mpr c26
                    have c26b1 : (x10_2.toList != (strOfNums l0).toList) = false := bne_eq_false_iff_eq.mpr c26
                    clear c26
                    have H' := ak H
                    clear H
                    have hcv27 := Kd.C_string (P := Tryd.prog) (A := A0) (c := c0) Tryd.underlying45 Tryd.underlying5 Tryd.underlying9 (Kd.C_below HR0.out HB.out)
                    go_wp2
                    go_loopg [14] k2 (fun kq v14 w' => ∃ (x14_3 : Int), v14 = .int .i64 x14_3 ∧ Aside0 (mummerlaw03_SpansBack.l1 kq l0 a1 a2 t580 t585 x14_3 = some r) ∧ Aside0 (kq ≤ k2) ∧ Aside0 (Kd.R (Kd.int .i64) 3 w' w.heap.size (fun _ => True) v582 t580) ∧ Aside0 (Kd.R k24 24 w' w.heap.size (fun _ => True) (.slice Ao15 t585.length co15) t585) ∧ Aside0 (Below w.heap.size w w'))
                    case atStart => exact ⟨(0), (by first | rfl | (simp; done) | (simp [*]; done)), H', ⟨Nat.le_refl _⟩, ⟨by (with_reducible repeat (first | apply Kd.R_alloc | apply Kd.R_drewN | apply Kd.R_drew)); exact HO_7.out⟩, ⟨by (with_reducible repeat (first | apply Kd.R_alloc | apply Kd.R_drewN | apply Kd.R_drew)); exact HO_9.out⟩, ⟨by repeat (first | (with_reducible first | exact HB.out | apply wA | apply wN | apply wD) | exact HB.out)⟩⟩
                    case round =>
                      clear H'
                      try clear c1
                      try clear c2
                      try clear p2
                      try clear hcv2
                      try clear c3
                      try clear p5
                      try clear q5
                      try clear hx5
                      try clear p6
                      try clear c7
                      try clear c7b0
                      try clear c7b1
                      try clear c8
                      try clear c9
                      try clear c12
                      try clear c12b0
                      try clear c12b1
                      try clear c13
                      try clear c13b0
                      try clear c13b1
                      try clear c13b2
                      try clear c16
                      try clear c16b0
                      try clear c17
                      try clear c17b0
                      try clear c19
                      try clear c19b0
                      try clear c19b1
                      try clear c20
                      try clear c20b0
                      try clear c21
                      try clear c21b0
                      try clear c21b1
                      try clear c21b2
                      try clear c22
                      try clear c22b0
                      try clear c22b1
                      try clear c22b2
                      try clear c24
                      try clear c24b0
                      try clear c24b1
                      try clear c24b2
                      try clear c26
                      try clear c26b0
                      try clear c26b1
                      try clear hcv27
                      try clear hx589_0
                      try clear hx589_1
                      try clear p2
                      try clear p589
                      try clear q589
                      obtain ⟨x14_3, rfl, HA, HK3, HO_7, HO_9, HB⟩ := hrel
                      cases gk with
                      | zero => exact absurd HA.out (by simp [mummerlaw03_SpansBack.l1])
                      | succ k3 =>
                        have H := HA.out
                        clear HA
                        simp only [mummerlaw03_SpansBack.l1] at H
                        by_cases c28 : x14_3 < (t580.length : Int)
                        · rw [if_pos c28] at H
                          have c28b0 : decide (x14_3 < (t580.length : Int)) = true := decide_eq_true c28
                          clear c28
                          by_cases c29 : 0 ≤ x14_3
                          · rw [if_pos c29] at H
                            have c29b0 : decide (0 ≤ x14_3) = true := decide_eq_true c29
                            clear c29
                            replace H := Option.bind_eq_some_iff.mp H
                            obtain ⟨⟨t593, t594, t595⟩, A300, H⟩ := H
                            replace H : ((spans_At.f k3 l0 t593 t594).bind fun bt596 => (if t595 = 0 then (if bt596.2 = 0 then (if bt596.1 = (rd t580 x14_3) then (if t593 < 1 then (some false) else (if t593 > (t585.length : Int) then (some false) else (if 0 ≤ (wrap64 (t593 - 1)) then (if (wrap64 (t593 - 1)) < (t585.length : Int) then (if bt596.1 < ((rd_T24 t585 (wrap64 (t593 - 1))).f0) then (some false) else (if bt596.1 > ((rd_T24 t585 (wrap64 (t593 - 1))).f1) then (some false) else (if t594 < 1 then (some false) else (if t594 > (wrap64 ((wrap64 (1 + bt596.1)) - ((rd_T24 t585 (wrap64 (t593 - 1))).f0))) then (some false) else (mummerlaw03_SpansBack.l1 k3 l0 a1 a2 t580 t585 (wrap64 (x14_3 + 1))))))) else (none)) else (none)))) else (some false)) else (some false)) else (some false))) = some r := H
                            have A30 := ak A300
                            clear A300
                            replace H := Option.bind_eq_some_iff.mp H
                            obtain ⟨⟨t596, t597⟩, A310, H⟩ := H
                            replace H : (if t595 = 0 then (if t597 = 0 then (if t596 = (rd t580 x14_3) then (if t593 < 1 then (some false) else (if t593 > (t585.length : Int) then (some false) else (if 0 ≤ (wrap64 (t593 - 1)) then (if (wrap64 (t593 - 1)) < (t585.length : Int) then (if t596 < ((rd_T24 t585 (wrap64 (t593 - 1))).f0) then (some false) else (if t596 > ((rd_T24 t585 (wrap64 (t593 - 1))).f1) then (some false) else (if t594 < 1 then (some false) else (if t594 > (wrap64 ((wrap64 (1 + t596)) - ((rd_T24 t585 (wrap64 (t593 - 1))).f0))) then (some false) else (mummerlaw03_SpansBack.l1 k3 l0 a1 a2 t580 t585 (wrap64 (x14_3 + 1))))))) else (none)) else (none)))) else (some false)) else (some false)) else (some false)) = some r := H
                            have A31 := ak A310
                            clear A310
                            by_cases c32 : t595 = 0
                            · rw [if_pos c32] at H
                              have c32b0 : (t595 == 0) = true := beq_iff_eq.mpr c32
                              have c32b1 : (t595 != 0) = false := bne_eq_false_iff_eq.mpr c32
                              clear c32
                              by_cases c33 : t597 = 0
                              · rw [if_pos c33] at H
                                have c33b0 : (t597 == 0) = true := beq_iff_eq.mpr c33
                                have c33b1 : (t597 != 0) = false := bne_eq_false_iff_eq.mpr c33
                                clear c33
                                by_cases c34 : t596 = (rd t580 x14_3)
                                · rw [if_pos c34] at H
                                  have c34b0 : (t596 == (rd t580 x14_3)) = true := beq_iff_eq.mpr c34
                                  have c34b1 : (t596 != (rd t580 x14_3)) = false := bne_eq_false_iff_eq.mpr c34
                                  clear c34
                                  by_cases c35 : t593 < 1
                                  · rw [if_pos c35] at H
                                    have c35b0 : decide (t593 < 1) = true := decide_eq_true c35
                                    clear c35
                                    exact absurd ((Option.some.inj H).trans hrt.out) (by decide)
                                  · rw [if_neg c35] at H
                                    have c35b0 : decide (t593 < 1) = false := decide_eq_false c35
                                    clear c35
                                    by_cases c36 : t593 > (t585.length : Int)
                                    · rw [if_pos c36] at H
                                      have c36b0 : decide ((t585.length : Int) < t593) = true := decide_eq_true c36
                                      clear c36
                                      exact absurd ((Option.some.inj H).trans hrt.out) (by decide)
                                    · rw [if_neg c36] at H
                                      have c36b0 : decide ((t585.length : Int) < t593) = false := decide_eq_false c36
                                      clear c36
                                      obtain ⟨ji37, hji37⟩ : ∃ j_ : Int, (wrap64 (t593 - 1)) = j_ := ⟨_, rfl⟩
                                      replace H : (if 0 ≤ (ji37) then (if (ji37) < (t585.length : Int) then (if t596 < ((rd_T24 t585 (ji37)).f0) then (some false) else (if t596 > ((rd_T24 t585 (ji37)).f1) then (some false) else (if t594 < 1 then (some false) else (if t594 > (wrap64 ((wrap64 (1 + t596)) - ((rd_T24 t585 (ji37)).f0))) then (some false) else (mummerlaw03_SpansBack.l1 k3 l0 a1 a2 t580 t585 (wrap64 (x14_3 + 1))))))) else (none)) else (none)) = some r := by first | (rw [hji37] at H; exact H) | (simp only [hji37] at H ⊢; exact H)
                                      (try rw [hji37] at A30)
                                      (try rw [hji37] at A31)
                                      have hji37w : (IntKind.i64.wrap (t593 - 1)) = ji37 := (i64_w _).trans hji37
                                      by_cases c38 : 0 ≤ (ji37)
                                      · rw [if_pos c38] at H
                                        have c38b0 : decide (0 ≤ (ji37)) = true := decide_eq_true c38
                                        clear c38
                                        by_cases c39 : (ji37) < (t585.length : Int)
                                        · rw [if_pos c39] at H
                                          have c39b0 : decide ((ji37) < (t585.length : Int)) = true := decide_eq_true c39
                                          clear c39
                                          by_cases c40 : t596 < ((rd_T24 t585 (ji37)).f0)
                                          · rw [if_pos c40] at H
                                            have c40b0 : decide (t596 < ((rd_T24 t585 (ji37)).f0)) = true := decide_eq_true c40
                                            clear c40
                                            exact absurd ((Option.some.inj H).trans hrt.out) (by decide)
                                          · rw [if_neg c40] at H
                                            have c40b0 : decide (t596 < ((rd_T24 t585 (ji37)).f0)) = false := decide_eq_false c40
                                            clear c40
                                            by_cases c41 : t596 > ((rd_T24 t585 (ji37)).f1)
                                            · rw [if_pos c41] at H
                                              have c41b0 : decide (((rd_T24 t585 (ji37)).f1) < t596) = true := decide_eq_true c41
                                              clear c41
                                              exact absurd ((Option.some.inj H).trans hrt.out) (by decide)
                                            · rw [if_neg c41] at H
                                              have c41b0 : decide (((rd_T24 t585 (ji37)).f1) < t596) = false := decide_eq_false c41
                                              clear c41
                                              by_cases c42 : t594 < 1
                                              · rw [if_pos c42] at H
                                                have c42b0 : decide (t594 < 1) = true := decide_eq_true c42
                                                clear c42
                                                exact absurd ((Option.some.inj H).trans hrt.out) (by decide)
                                              · rw [if_neg c42] at H
                                                have c42b0 : decide (t594 < 1) = false := decide_eq_false c42
                                                clear c42
                                                by_cases c43 : t594 > (wrap64 ((wrap64 (1 + t596)) - ((rd_T24 t585 (ji37)).f0)))
                                                · rw [if_pos c43] at H
                                                  have c43b0 : decide ((wrap64 ((wrap64 (1 + t596)) - ((rd_T24 t585 (ji37)).f0))) < t594) = true := decide_eq_true c43
                                                  clear c43
                                                  exact absurd ((Option.some.inj H).trans hrt.out) (by decide)
                                                · rw [if_neg c43] at H
                                                  have c43b0 : decide ((wrap64 ((wrap64 (1 + t596)) - ((rd_T24 t585 (ji37)).f0))) < t594) = false := decide_eq_false c43
                                                  clear c43
                                                  have H' := ak H
                                                  clear H
                                                  obtain ⟨Ao44, co44, eo44⟩ := Kd.R_slice HO_7.out
                                                  subst eo44
                                                  have p592 : 0 ≤ (x14_3 : Int) := of_decide_eq_true (by first | (with_reducible assumption) | assumption)
                                                  have q592 : x14_3 < (t580.length : Int) := of_decide_eq_true (by first | (with_reducible assumption) | assumption)
                                                  obtain ⟨ad592, e592, hx592_0⟩ := Kd.at_int (Kd.R_reads' HO_7.out).2.2 x14_3 p592 q592
                                                  cases e592
                                                  replace p592 := eq_true p592
                                                  replace q592 := eq_true q592
                                                  go_wp2_with (first | ((with_reducible refine gate_callee (f := 29) rfl ?_); refine goesL_ (some 88) rfl rfl Tryd.func29 (by kernel_rfl) rfl #[.slice A0 l0.length c0, .int .i64 (rd t580 x14_3)] rfl (by (try simp only [List.map_toArray, List.map_cons, List.map_nil]); first | done | rfl | (simp only [List.length_drop, List.length_take]; rfl)) ?_; (with_reducible refine (spans_Place.calls k3 _ _ l0 (rd t580 x14_3) t593 t594 t595 _ ?side1 ?side2 A30.out ⟨Sc.Tab.stay HT.out (by repeat (first | (with_reducible first | exact HB.out | apply wA | apply wN | apply wD) | exact HB.out | (refine below_set ?_ (by assumption)) | (refine below_set ?_ (Aside0.out (by assumption)))))⟩).mono ?_); (case side1 => repeat (first | exact (Kd.C_below HR0.out HB.out) | (with_reducible refine Kd.C_alloc ?_ _) | (with_reducible refine Kd.C_drewN ?_ _) | (with_reducible refine Kd.C_drew ?_))); (case side2 => exact HC0.out); rintro e w45 ⟨rfl, hb⟩; refine ⟨_, rfl, ?_⟩; have n0_ := ak (Kd.R_below (by (with_reducible repeat (first | apply Kd.R_alloc | apply Kd.R_drewN | apply Kd.R_drew)); exact HO_7.out) hb); have n1_ := ak (Kd.R_below (by (with_reducible repeat (first | apply Kd.R_alloc | apply Kd.R_drewN | apply Kd.R_drew)); exact HO_9.out) hb); have n2_ := ak (below_step (by repeat (first | (with_reducible first | exact HB.out | apply wA | apply wN | apply wD) | exact HB.out)) hb); clear HO_7; clear HO_9; clear HB; have HO_7 := n0_; have HO_9 := n1_; have HB := n2_; clear n0_ n1_ n2_; (try clear hb); (try clear hb2); (try clear hk); (try clear hi)) | ((with_reducible refine gate_callee (f := 31) rfl ?_); refine goesL_ (some 96) rfl rfl Tryd.func31 (by kernel_rfl) rfl #[.slice A0 l0.length c0, .int .i64 t593, .int .i64 t594] rfl (by (try simp only [List.map_toArray, List.map_cons, List.map_nil]); first | done | rfl | (simp only [List.length_drop, List.length_take]; rfl)) ?_; (with_reducible refine (spans_At.calls k3 _ _ l0 t593 t594 t596 t597 _ ?side1 ?side2 A31.out ⟨Sc.Tab.stay HT.out (by repeat (first | (with_reducible first | exact HB.out | apply wA | apply wN | apply wD) | exact HB.out | (refine below_set ?_ (by assumption)) | (refine below_set ?_ (Aside0.out (by assumption)))))⟩).mono ?_); (case side1 => repeat (first | exact (Kd.C_below HR0.out HB.out) | (with_reducible refine Kd.C_alloc ?_ _) | (with_reducible refine Kd.C_drewN ?_ _) | (with_reducible refine Kd.C_drew ?_))); (case side2 => exact HC0.out); rintro e w46 ⟨rfl, hb⟩; refine ⟨_, rfl, ?_⟩; have n0_ := ak (Kd.R_below (by (with_reducible repeat (first | apply Kd.R_alloc | apply Kd.R_drewN | apply Kd.R_drew)); exact HO_7.out) hb); have n1_ := ak (Kd.R_below (by (with_reducible repeat (first | apply Kd.R_alloc | apply Kd.R_drewN | apply Kd.R_drew)); exact HO_9.out) hb); have n2_ := ak (below_step (by repeat (first | (with_reducible first | exact HB.out | apply wA | apply wN | apply wD) | exact HB.out)) hb); clear HO_7; clear HO_9; clear HB; have HO_7 := n0_; have HO_9 := n1_; have HB := n2_; clear n0_ n1_ n2_; (try clear hb); (try clear hb2); (try clear hk); (try clear hi); have p598 : 0 ≤ (x14_3 : Int) := of_decide_eq_true (by first | (with_reducible assumption) | assumption); have q598 : x14_3 < (t580.length : Int) := of_decide_eq_true (by first | (with_reducible assumption) | assumption); obtain ⟨ad598, e598, hx598_0⟩ := Kd.at_int (Kd.R_reads' HO_7.out).2.2 x14_3 p598 q598; obtain rfl : ad592 = ad598 := (by injection e598); replace p598 := eq_true p598; replace q598 := eq_true q598; have p599 : 0 ≤ ((ji37) : Int) := of_decide_eq_true (by first | (with_reducible assumption) | assumption); have q599 : (ji37) < (t585.length : Int) := of_decide_eq_true (by first | (with_reducible assumption) | assumption); obtain ⟨ad599, e599, hx599_0, hx599_1⟩ := at_T24 (Kd.R_reads' HO_9.out).2.2 (ji37) p599 q599; cases e599; replace p599 := eq_true p599; replace q599 := eq_true q599; have p600 : 0 ≤ ((ji37) : Int) := of_decide_eq_true (by first | (with_reducible assumption) | assumption); have q600 : (ji37) < (t585.length : Int) := of_decide_eq_true (by first | (with_reducible assumption) | assumption); obtain ⟨ad600, e600, hx600_0, hx600_1⟩ := at_T24 (Kd.R_reads' HO_9.out).2.2 (ji37) p600 q600; obtain rfl : ad599 = ad600 := (by injection e600); replace p600 := eq_true p600; replace q600 := eq_true q600; have p601 : 0 ≤ ((ji37) : Int) := of_decide_eq_true (by first | (with_reducible assumption) | assumption); have q601 : (ji37) < (t585.length : Int) := of_decide_eq_true (by first | (with_reducible assumption) | assumption); obtain ⟨ad601, e601, hx601_0, hx601_1⟩ := at_T24 (Kd.R_reads' HO_9.out).2.2 (ji37) p601 q601; obtain rfl : ad599 = ad601 := (by injection e601); replace p601 := eq_true p601; replace q601 := eq_true q601))
                                                  go_roundg k3
                                                  case measure => have := HJ4.out; have := HK2.out; have := HK3.out; omega
                                                  case rel => exact ⟨(wrap64 (x14_3 + 1)), (by first | rfl | (simp; done) | (simp [*]; done)), H', ⟨by have := HJ4.out; have := HK2.out; have := HK3.out; omega⟩, ⟨by (with_reducible repeat (first | apply Kd.R_alloc | apply Kd.R_drewN | apply Kd.R_drew)); exact HO_7.out⟩, ⟨by (with_reducible repeat (first | apply Kd.R_alloc | apply Kd.R_drewN | apply Kd.R_drew)); exact HO_9.out⟩, ⟨by repeat (first | (with_reducible first | exact HB.out | apply wA | apply wN | apply wD) | exact HB.out)⟩⟩
                                        · rw [if_neg c39] at H
                                          exact absurd H (by simp)
                                      · rw [if_neg c38] at H
                                        exact absurd H (by simp)
                                · rw [if_neg c34] at H
                                  have c34b0 : (t596 == (rd t580 x14_3)) = false := beq_eq_false_iff_ne.mpr c34
                                  have c34b1 : (t596 != (rd t580 x14_3)) = true := bne_iff_ne.mpr c34
                                  exact absurd ((Option.some.inj H).trans hrt.out) (by decide)
                              · rw [if_neg c33] at H
                                have c33b0 : (t597 == 0) = false := beq_eq_false_iff_ne.mpr c33
                                have c33b1 : (t597 != 0) = true := bne_iff_ne.mpr c33
                                exact absurd ((Option.some.inj H).trans hrt.out) (by decide)
                            · rw [if_neg c32] at H
                              have c32b0 : (t595 == 0) = false := beq_eq_false_iff_ne.mpr c32
                              have c32b1 : (t595 != 0) = true := bne_iff_ne.mpr c32
                              exact absurd ((Option.some.inj H).trans hrt.out) (by decide)
                          · rw [if_neg c29] at H
                            exact absurd H (by simp)
                        · rw [if_neg c28] at H
                          have c28b0 : decide (x14_3 < (t580.length : Int)) = false := decide_eq_false c28
                          clear c28
                          replace H := Option.bind_eq_some_iff.mp H
                          obtain ⟨⟨t602, t603⟩, A470, H⟩ := H
                          replace H : (if t603 = 0 then ((spans_Place.f k3 l0 t602).bind fun bt604 => (if bt604.2.2 = 0 then (if bt604.1 = (wrap64 (a1)) then (if bt604.2.1 = (wrap64 (a2)) then ((mummerlaw03_awake.f k3).bind fun t607 => (some t607)) else (some false)) else (some false)) else (some false))) else (if t603 = 4 then (if t602 = 0 then ((mummerlaw03_awake.f k3).bind fun t608 => (some t608)) else (some false)) else (some false))) = some r := H
                          have A47 := ak A470
                          clear A470
                          by_cases c48 : t603 = 0
                          · rw [if_pos c48] at H
                            have c48b0 : (t603 == 0) = true := beq_iff_eq.mpr c48
                            have c48b1 : (t603 != 0) = false := bne_eq_false_iff_eq.mpr c48
                            clear c48
                            replace H := Option.bind_eq_some_iff.mp H
                            obtain ⟨⟨t604, t605, t606⟩, A490, H⟩ := H
                            replace H : (if t606 = 0 then (if t604 = (wrap64 (a1)) then (if t605 = (wrap64 (a2)) then ((mummerlaw03_awake.f k3).bind fun t607 => (some t607)) else (some false)) else (some false)) else (some false)) = some r := H
                            have A49 := ak A490
                            clear A490
                            by_cases c50 : t606 = 0
                            · rw [if_pos c50] at H
                              have c50b0 : (t606 == 0) = true := beq_iff_eq.mpr c50
                              have c50b1 : (t606 != 0) = false := bne_eq_false_iff_eq.mpr c50
                              clear c50
                              by_cases c51 : t604 = (wrap64 (a1))
                              · rw [if_pos c51] at H
                                have c51b0 : (t604 == (wrap64 (a1))) = true := beq_iff_eq.mpr c51
                                have c51b1 : (t604 != (wrap64 (a1))) = false := bne_eq_false_iff_eq.mpr c51
                                clear c51
                                by_cases c52 : t605 = (wrap64 (a2))
                                · rw [if_pos c52] at H
                                  have c52b0 : (t605 == (wrap64 (a2))) = true := beq_iff_eq.mpr c52
                                  have c52b1 : (t605 != (wrap64 (a2))) = false := bne_eq_false_iff_eq.mpr c52
                                  clear c52
                                  replace H := Option.bind_eq_some_iff.mp H
                                  obtain ⟨t607, A530, H⟩ := H
                                  replace H : (some t607) = some r := H
                                  have A53 := ak A530
                                  clear A530
                                  obtain rfl := Option.some.inj H
                                  obtain ⟨Ao54, co54, eo54⟩ := Kd.R_slice HO_7.out
                                  subst eo54
                                  go_wp2_with (first | ((with_reducible refine gate_callee (f := 31) rfl ?_); refine goesL_ (some 166) rfl rfl Tryd.func31 (by kernel_rfl) rfl #[.slice A0 l0.length c0, .int .i64 (wrap64 (a1)), .int .i64 (wrap64 (a2))] rfl (by (try simp only [List.map_toArray, List.map_cons, List.map_nil]); first | done | rfl | (simp only [List.length_drop, List.length_take]; rfl)) ?_; (with_reducible refine (spans_At.calls k3 _ _ l0 (wrap64 (a1)) (wrap64 (a2)) t602 t603 _ ?side1 ?side2 A47.out ⟨Sc.Tab.stay HT.out (by repeat (first | (with_reducible first | exact HB.out | apply wA | apply wN | apply wD) | exact HB.out | (refine below_set ?_ (by assumption)) | (refine below_set ?_ (Aside0.out (by assumption)))))⟩).mono ?_); (case side1 => repeat (first | exact (Kd.C_below HR0.out HB.out) | (with_reducible refine Kd.C_alloc ?_ _) | (with_reducible refine Kd.C_drewN ?_ _) | (with_reducible refine Kd.C_drew ?_))); (case side2 => exact HC0.out); rintro e w55 ⟨rfl, hb⟩; refine ⟨_, rfl, ?_⟩; have n0_ := ak (Kd.R_below (by (with_reducible repeat (first | apply Kd.R_alloc | apply Kd.R_drewN | apply Kd.R_drew)); exact HO_7.out) hb); have n1_ := ak (Kd.R_below (by (with_reducible repeat (first | apply Kd.R_alloc | apply Kd.R_drewN | apply Kd.R_drew)); exact HO_9.out) hb); have n2_ := ak (below_step (by repeat (first | (with_reducible first | exact HB.out | apply wA | apply wN | apply wD) | exact HB.out)) hb); clear HO_7; clear HO_9; clear HB; have HO_7 := n0_; have HO_9 := n1_; have HB := n2_; clear n0_ n1_ n2_; (try clear hb); (try clear hb2); (try clear hk); (try clear hi)) | ((with_reducible refine gate_callee (f := 29) rfl ?_); refine goesL_ (some 183) rfl rfl Tryd.func29 (by kernel_rfl) rfl #[.slice A0 l0.length c0, .int .i64 t602] rfl (by (try simp only [List.map_toArray, List.map_cons, List.map_nil]); first | done | rfl | (simp only [List.length_drop, List.length_take]; rfl)) ?_; (with_reducible refine (spans_Place.calls k3 _ _ l0 t602 t604 t605 t606 _ ?side1 ?side2 A49.out ⟨Sc.Tab.stay HT.out (by repeat (first | (with_reducible first | exact HB.out | apply wA | apply wN | apply wD) | exact HB.out | (refine below_set ?_ (by assumption)) | (refine below_set ?_ (Aside0.out (by assumption)))))⟩).mono ?_); (case side1 => repeat (first | exact (Kd.C_below HR0.out HB.out) | (with_reducible refine Kd.C_alloc ?_ _) | (with_reducible refine Kd.C_drewN ?_ _) | (with_reducible refine Kd.C_drew ?_))); (case side2 => exact HC0.out); rintro e w56 ⟨rfl, hb⟩; refine ⟨_, rfl, ?_⟩; have n0_ := ak (Kd.R_below (by (with_reducible repeat (first | apply Kd.R_alloc | apply Kd.R_drewN | apply Kd.R_drew)); exact HO_7.out) hb); have n1_ := ak (Kd.R_below (by (with_reducible repeat (first | apply Kd.R_alloc | apply Kd.R_drewN | apply Kd.R_drew)); exact HO_9.out) hb); have n2_ := ak (below_step (by repeat (first | (with_reducible first | exact HB.out | apply wA | apply wN | apply wD) | exact HB.out)) hb); clear HO_7; clear HO_9; clear HB; have HO_7 := n0_; have HO_9 := n1_; have HB := n2_; clear n0_ n1_ n2_; (try clear hb); (try clear hb2); (try clear hk); (try clear hi)) | (go_at_call 12; (with_reducible refine (mummerlaw03_awake.calls k3  t607 _ hrt A53.out ⟨Sc.Tab.stay HT.out (by repeat (first | (with_reducible first | exact HB.out | apply wA | apply wN | apply wD) | exact HB.out | (refine below_set ?_ (by assumption)) | (refine below_set ?_ (Aside0.out (by assumption)))))⟩).mono ?_); rintro e w57 ⟨rfl, hb⟩; have n0_ := ak (Kd.R_below (by (with_reducible repeat (first | apply Kd.R_alloc | apply Kd.R_drewN | apply Kd.R_drew)); exact HO_7.out) hb); have n1_ := ak (Kd.R_below (by (with_reducible repeat (first | apply Kd.R_alloc | apply Kd.R_drewN | apply Kd.R_drew)); exact HO_9.out) hb); have n2_ := ak (below_step (by repeat (first | (with_reducible first | exact HB.out | apply wA | apply wN | apply wD) | exact HB.out)) hb); clear HO_7; clear HO_9; clear HB; have HO_7 := n0_; have HO_9 := n1_; have HB := n2_; clear n0_ n1_ n2_; (try clear hb); (try clear hb2); (try clear hk); (try clear hi)))
                                  go_ret
                                  exact ⟨by first | rfl | (simp [errW_none, errW_some] <;> rfl) | (simp [*, errW_none, errW_some] <;> rfl), by repeat (first | (with_reducible first | exact HB.out | apply wA | apply wN | apply wD) | exact HB.out)⟩
                                · rw [if_neg c52] at H
                                  have c52b0 : (t605 == (wrap64 (a2))) = false := beq_eq_false_iff_ne.mpr c52
                                  have c52b1 : (t605 != (wrap64 (a2))) = true := bne_iff_ne.mpr c52
                                  exact absurd ((Option.some.inj H).trans hrt.out) (by decide)
                              · rw [if_neg c51] at H
                                have c51b0 : (t604 == (wrap64 (a1))) = false := beq_eq_false_iff_ne.mpr c51
                                have c51b1 : (t604 != (wrap64 (a1))) = true := bne_iff_ne.mpr c51
                                exact absurd ((Option.some.inj H).trans hrt.out) (by decide)
                            · rw [if_neg c50] at H
                              have c50b0 : (t606 == 0) = false := beq_eq_false_iff_ne.mpr c50
                              have c50b1 : (t606 != 0) = true := bne_iff_ne.mpr c50
                              exact absurd ((Option.some.inj H).trans hrt.out) (by decide)
                          · rw [if_neg c48] at H
                            have c48b0 : (t603 == 0) = false := beq_eq_false_iff_ne.mpr c48
                            have c48b1 : (t603 != 0) = true := bne_iff_ne.mpr c48
                            by_cases c58 : t603 = 4
                            · rw [if_pos c58] at H
                              have c58b0 : (t603 == 4) = true := beq_iff_eq.mpr c58
                              have c58b1 : (t603 != 4) = false := bne_eq_false_iff_eq.mpr c58
                              clear c58
                              by_cases c59 : t602 = 0
                              · rw [if_pos c59] at H
                                have c59b0 : (t602 == 0) = true := beq_iff_eq.mpr c59
                                have c59b1 : (t602 != 0) = false := bne_eq_false_iff_eq.mpr c59
                                clear c59
                                replace H := Option.bind_eq_some_iff.mp H
                                obtain ⟨t608, A600, H⟩ := H
                                replace H : (some t608) = some r := H
                                have A60 := ak A600
                                clear A600
                                obtain rfl := Option.some.inj H
                                obtain ⟨Ao61, co61, eo61⟩ := Kd.R_slice HO_7.out
                                subst eo61
                                go_wp2_with (first | ((with_reducible refine gate_callee (f := 31) rfl ?_); refine goesL_ (some 166) rfl rfl Tryd.func31 (by kernel_rfl) rfl #[.slice A0 l0.length c0, .int .i64 (wrap64 (a1)), .int .i64 (wrap64 (a2))] rfl (by (try simp only [List.map_toArray, List.map_cons, List.map_nil]); first | done | rfl | (simp only [List.length_drop, List.length_take]; rfl)) ?_; (with_reducible refine (spans_At.calls k3 _ _ l0 (wrap64 (a1)) (wrap64 (a2)) t602 t603 _ ?side1 ?side2 A47.out ⟨Sc.Tab.stay HT.out (by repeat (first | (with_reducible first | exact HB.out | apply wA | apply wN | apply wD) | exact HB.out | (refine below_set ?_ (by assumption)) | (refine below_set ?_ (Aside0.out (by assumption)))))⟩).mono ?_); (case side1 => repeat (first | exact (Kd.C_below HR0.out HB.out) | (with_reducible refine Kd.C_alloc ?_ _) | (with_reducible refine Kd.C_drewN ?_ _) | (with_reducible refine Kd.C_drew ?_))); (case side2 => exact HC0.out); rintro e w62 ⟨rfl, hb⟩; refine ⟨_, rfl, ?_⟩; have n0_ := ak (Kd.R_below (by (with_reducible repeat (first | apply Kd.R_alloc | apply Kd.R_drewN | apply Kd.R_drew)); exact HO_7.out) hb); have n1_ := ak (Kd.R_below (by (with_reducible repeat (first | apply Kd.R_alloc | apply Kd.R_drewN | apply Kd.R_drew)); exact HO_9.out) hb); have n2_ := ak (below_step (by repeat (first | (with_reducible first | exact HB.out | apply wA | apply wN | apply wD) | exact HB.out)) hb); clear HO_7; clear HO_9; clear HB; have HO_7 := n0_; have HO_9 := n1_; have HB := n2_; clear n0_ n1_ n2_; (try clear hb); (try clear hb2); (try clear hk); (try clear hi)) | (go_at_call 12; (with_reducible refine (mummerlaw03_awake.calls k3  t608 _ hrt A60.out ⟨Sc.Tab.stay HT.out (by repeat (first | (with_reducible first | exact HB.out | apply wA | apply wN | apply wD) | exact HB.out | (refine below_set ?_ (by assumption)) | (refine below_set ?_ (Aside0.out (by assumption)))))⟩).mono ?_); rintro e w63 ⟨rfl, hb⟩; have n0_ := ak (Kd.R_below (by (with_reducible repeat (first | apply Kd.R_alloc | apply Kd.R_drewN | apply Kd.R_drew)); exact HO_7.out) hb); have n1_ := ak (Kd.R_below (by (with_reducible repeat (first | apply Kd.R_alloc | apply Kd.R_drewN | apply Kd.R_drew)); exact HO_9.out) hb); have n2_ := ak (below_step (by repeat (first | (with_reducible first | exact HB.out | apply wA | apply wN | apply wD) | exact HB.out)) hb); clear HO_7; clear HO_9; clear HB; have HO_7 := n0_; have HO_9 := n1_; have HB := n2_; clear n0_ n1_ n2_; (try clear hb); (try clear hb2); (try clear hk); (try clear hi)))
                                go_ret
                                exact ⟨by first | rfl | (simp [errW_none, errW_some] <;> rfl) | (simp [*, errW_none, errW_some] <;> rfl), by repeat (first | (with_reducible first | exact HB.out | apply wA | apply wN | apply wD) | exact HB.out)⟩
                              · rw [if_neg c59] at H
                                have c59b0 : (t602 == 0) = false := beq_eq_false_iff_ne.mpr c59
                                have c59b1 : (t602 != 0) = true := bne_iff_ne.mpr c59
                                exact absurd ((Option.some.inj H).trans hrt.out) (by decide)
                            · rw [if_neg c58] at H
                              have c58b0 : (t603 == 4) = false := beq_eq_false_iff_ne.mpr c58
                              have c58b1 : (t603 != 4) = true := bne_iff_ne.mpr c58
                              exact absurd ((Option.some.inj H).trans hrt.out) (by decide)
                  · rw [if_neg c26] at H
                    have c26b0 : (x10_2.toList == (strOfNums l0).toList) = false := beq_eq_false_iff_ne.mpr c26
                    have c26b1 : (x10_2.toList != (strOfNums l0).toList) = true := bne_iff_ne.mpr c26
                    exact absurd ((Option.some.inj H).trans hrt.out) (by decide)
        · rw [if_neg c12] at H
          have c12b0 : (t586 == 0) = false := beq_eq_false_iff_ne.mpr c12
          have c12b1 : (t586 != 0) = true := bne_iff_ne.mpr c12
          exact absurd ((Option.some.inj H).trans hrt.out) (by decide)
end Go.Proofs.YtnkfdobcmfdhfaaDoor.P
namespace Go.Proofs.YtnkfdobcmfdhfaaDoor.P
open Go.RowKit Go.Proofs.YtnkfdobcmfdhfaaDoorW.PrintWords Go.Proofs.YtnkfdobcmfdhfaaDoorW.PrintLast Sc
set_option linter.unusedVariables false
set_option linter.unusedSimpArgs false
set_option maxRecDepth 20000
theorem awake60 : mummerlaw03_awake.f 60 = some true := by decide +kernel
theorem awake_f (k : Nat) (h : 60 ≤ k) : mummerlaw03_awake.f k = some true := by
  induction h with
  | refl => exact awake60
  | step _ ih => exact mummerlaw03_awake.mono _ _ ih
end Go.Proofs.YtnkfdobcmfdhfaaDoor.P
