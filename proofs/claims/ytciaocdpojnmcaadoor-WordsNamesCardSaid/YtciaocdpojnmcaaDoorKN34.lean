import Derived.Test.YtciaocdpojnmcaaDoorKN33
namespace Go.Proofs.YtciaocdpojnmcaaDoor.P
open Go.RowKit Go.Proofs.YtciaocdpojnmcaaDoorW.PrintWords Go.Proofs.YtciaocdpojnmcaaDoorW.PrintLast Go.Proofs.YtciaocdpojnmcaaDoorW.PrintMore
attribute [local go_sem] max2_int min2_int max_two min_two max_three min_three max_four min_four   -- for this text's walks alone
set_option linter.unusedVariables false
set_option linter.unusedSimpArgs false
def mummerlaw01_WordsNames.f (k : Nat) (a0 : ByteArray) (a1 : Int) (a2 : Int) : Option (Bool) := if (a0.size : Int) > 1000 then ((mummerlaw01_shown.f k).bind fun t182 => (some t182)) else ((words_Int.f a0 a1 a2).bind fun bt183 => ((mummerref01_Int.f k a0 a1 a2).bind fun bt185 => ((words_Name.f a0).bind fun t187 => ((mummerref01_Name.f k a0).bind fun t188 => (if (t187 == t188) = true then (if bt183.1 = bt185.1 then (if bt183.2 = bt185.2 then ((words_Digits.f a1).bind fun t189 => ((mummerref01_Digits.f k a1).bind fun t190 => (if t189.toList = t190.toList then ((words_Digits.f a2).bind fun t191 => ((mummerref01_Digits.f k a2).bind fun t192 => (if t191.toList = t192.toList then ((mummerlaw01_shown.f k).bind fun t193 => (some t193)) else (some false)))) else (some false)))) else (some false)) else (some false)) else (some false))))))
set_option maxHeartbeats 8000000 in
set_option maxRecDepth 100000 in
theorem mummerlaw01_WordsNames.calls (k : Nat) (a0 : ByteArray) (a1 : Int) (a2 : Int) (r : Bool) (w : World) (hrt : Aside0 (r = true)) (h : mummerlaw01_WordsNames.f k a0 a1 a2 = some r) (HT : Aside0 (Wd.All w)) :
    Calls Tryd.prog 4 #[.string a0, .int .i64 a1, .int .i64 a2] w fun e w' => e = .returned (.bool r) ∧ Below w.heap.size w w' := by
  have HB := ak (Below.refl w.heap.size w)
  have H : (if (a0.size : Int) > 1000 then ((mummerlaw01_shown.f k).bind fun t182 => (some t182)) else ((words_Int.f a0 a1 a2).bind fun bt183 => ((mummerref01_Int.f k a0 a1 a2).bind fun bt185 => ((words_Name.f a0).bind fun t187 => ((mummerref01_Name.f k a0).bind fun t188 => (if (t187 == t188) = true then (if bt183.1 = bt185.1 then (if bt183.2 = bt185.2 then ((words_Digits.f a1).bind fun t189 => ((mummerref01_Digits.f k a1).bind fun t190 => (if t189.toList = t190.toList then ((words_Digits.f a2).bind fun t191 => ((mummerref01_Digits.f k a2).bind fun t192 => (if t191.toList = t192.toList then ((mummerlaw01_shown.f k).bind fun t193 => (some t193)) else (some false)))) else (some false)))) else (some false)) else (some false)) else (some false))))))) = some r := h
  clear h
  by_cases c4 : (a0.size : Int) > 1000
  · rw [if_pos c4] at H
    have c4b0 : decide (1000 < (a0.size : Int)) = true := decide_eq_true c4
    have c4b1 : decide (1000 < a0.size) = true := decide_eq_true (by omega)
    clear c4
    replace H := Option.bind_eq_some_iff.mp H
    obtain ⟨t182, A50, H⟩ := H
    replace H : (some t182) = some r := H
    have A5 := ak A50
    clear A50
    obtain rfl := Option.some.inj H
    go_enter Tryd.func4, Tryd.ntmps4
    go_wp2_with (first | ((with_reducible refine gate_callee (f := 9) rfl ?_); refine goesL_ (some 14) rfl rfl Tryd.func9 (by kernel_rfl) rfl #[] rfl (by (try simp only [List.map_toArray, List.map_cons, List.map_nil]); first | done | rfl | (simp only [List.length_drop, List.length_take]; rfl)) ?_; (with_reducible refine (mummerlaw01_shown.calls k  t182 _ hrt A5.out ⟨Wd.All.stay HT.out (by repeat (first | (with_reducible first | exact HB.out | apply wA | apply wN | apply wD) | exact HB.out | (refine below_set ?_ (by assumption)) | (refine below_set ?_ (Aside0.out (by assumption)))))⟩).mono ?_); rintro e w6 ⟨rfl, hb⟩; refine ⟨_, rfl, ?_⟩; have n0_ := ak (below_step (by repeat (first | (with_reducible first | exact HB.out | apply wA | apply wN | apply wD) | exact HB.out)) hb); clear HB; have HB := n0_; clear n0_; (try clear hb); (try clear hb2); (try clear hk); (try clear hi)))
    go_ret
    exact ⟨by first | rfl | (simp [errW_none, errW_some] <;> rfl) | (simp [*, errW_none, errW_some] <;> rfl), by repeat (first | (with_reducible first | exact HB.out | apply wA | apply wN | apply wD) | exact HB.out)⟩
  · rw [if_neg c4] at H
    have c4b0 : decide (1000 < (a0.size : Int)) = false := decide_eq_false c4
    have c4b1 : decide (1000 < a0.size) = false := decide_eq_false (by omega)
    clear c4
    replace H := Option.bind_eq_some_iff.mp H
    obtain ⟨⟨t183, t184⟩, A70, H⟩ := H
    replace H : ((mummerref01_Int.f k a0 a1 a2).bind fun bt185 => ((words_Name.f a0).bind fun t187 => ((mummerref01_Name.f k a0).bind fun t188 => (if (t187 == t188) = true then (if t183 = bt185.1 then (if t184 = bt185.2 then ((words_Digits.f a1).bind fun t189 => ((mummerref01_Digits.f k a1).bind fun t190 => (if t189.toList = t190.toList then ((words_Digits.f a2).bind fun t191 => ((mummerref01_Digits.f k a2).bind fun t192 => (if t191.toList = t192.toList then ((mummerlaw01_shown.f k).bind fun t193 => (some t193)) else (some false)))) else (some false)))) else (some false)) else (some false)) else (some false))))) = some r := H
    have A7 := ak A70
    clear A70
    replace H := Option.bind_eq_some_iff.mp H
    obtain ⟨⟨t185, t186⟩, A80, H⟩ := H
    replace H : ((words_Name.f a0).bind fun t187 => ((mummerref01_Name.f k a0).bind fun t188 => (if (t187 == t188) = true then (if t183 = t185 then (if t184 = t186 then ((words_Digits.f a1).bind fun t189 => ((mummerref01_Digits.f k a1).bind fun t190 => (if t189.toList = t190.toList then ((words_Digits.f a2).bind fun t191 => ((mummerref01_Digits.f k a2).bind fun t192 => (if t191.toList = t192.toList then ((mummerlaw01_shown.f k).bind fun t193 => (some t193)) else (some false)))) else (some false)))) else (some false)) else (some false)) else (some false)))) = some r := H
    have A8 := ak A80
    clear A80
    replace H := Option.bind_eq_some_iff.mp H
    obtain ⟨t187, A90, H⟩ := H
    replace H : ((mummerref01_Name.f k a0).bind fun t188 => (if (t187 == t188) = true then (if t183 = t185 then (if t184 = t186 then ((words_Digits.f a1).bind fun t189 => ((mummerref01_Digits.f k a1).bind fun t190 => (if t189.toList = t190.toList then ((words_Digits.f a2).bind fun t191 => ((mummerref01_Digits.f k a2).bind fun t192 => (if t191.toList = t192.toList then ((mummerlaw01_shown.f k).bind fun t193 => (some t193)) else (some false)))) else (some false)))) else (some false)) else (some false)) else (some false))) = some r := H
    have A9 := ak A90
    clear A90
    replace H := Option.bind_eq_some_iff.mp H
    obtain ⟨t188, A100, H⟩ := H
    replace H : (if (t187 == t188) = true then (if t183 = t185 then (if t184 = t186 then ((words_Digits.f a1).bind fun t189 => ((mummerref01_Digits.f k a1).bind fun t190 => (if t189.toList = t190.toList then ((words_Digits.f a2).bind fun t191 => ((mummerref01_Digits.f k a2).bind fun t192 => (if t191.toList = t192.toList then ((mummerlaw01_shown.f k).bind fun t193 => (some t193)) else (some false)))) else (some false)))) else (some false)) else (some false)) else (some false)) = some r := H
    have A10 := ak A100
    clear A100
    by_cases c11 : (t187 == t188) = true
    · rw [if_pos c11] at H
      have c11b0 : (t187 == t188) = true := c11
      (try (have c11b1 : decide (t187 = t188) = true := by simpa using c11))
      (try (have c11b2 : (t187 == t188) = true := by simpa using c11))
      clear c11
      by_cases c12 : t183 = t185
      · rw [if_pos c12] at H
        have c12b0 : (t183 == t185) = true := beq_iff_eq.mpr c12
        have c12b1 : (t183 != t185) = false := bne_eq_false_iff_eq.mpr c12
        clear c12
        by_cases c13 : t184 = t186
        · rw [if_pos c13] at H
          have c13b0 : (t184 == t186) = true := beq_iff_eq.mpr c13
          have c13b1 : (t184 != t186) = false := bne_eq_false_iff_eq.mpr c13
          clear c13
          replace H := Option.bind_eq_some_iff.mp H
          obtain ⟨t189, A140, H⟩ := H
          replace H : ((mummerref01_Digits.f k a1).bind fun t190 => (if t189.toList = t190.toList then ((words_Digits.f a2).bind fun t191 => ((mummerref01_Digits.f k a2).bind fun t192 => (if t191.toList = t192.toList then ((mummerlaw01_shown.f k).bind fun t193 => (some t193)) else (some false)))) else (some false))) = some r := H
          have A14 := ak A140
          clear A140
          replace H := Option.bind_eq_some_iff.mp H
          obtain ⟨t190, A150, H⟩ := H
          replace H : (if t189.toList = t190.toList then ((words_Digits.f a2).bind fun t191 => ((mummerref01_Digits.f k a2).bind fun t192 => (if t191.toList = t192.toList then ((mummerlaw01_shown.f k).bind fun t193 => (some t193)) else (some false)))) else (some false)) = some r := H
          have A15 := ak A150
          clear A150
          by_cases c16 : t189.toList = t190.toList
          · rw [if_pos c16] at H
            have c16b0 : (t189.toList == t190.toList) = true := beq_iff_eq.mpr c16
            have c16b1 : (t189.toList != t190.toList) = false := bne_eq_false_iff_eq.mpr c16
            clear c16
            replace H := Option.bind_eq_some_iff.mp H
            obtain ⟨t191, A170, H⟩ := H
            replace H : ((mummerref01_Digits.f k a2).bind fun t192 => (if t191.toList = t192.toList then ((mummerlaw01_shown.f k).bind fun t193 => (some t193)) else (some false))) = some r := H
            have A17 := ak A170
            clear A170
            replace H := Option.bind_eq_some_iff.mp H
            obtain ⟨t192, A180, H⟩ := H
            replace H : (if t191.toList = t192.toList then ((mummerlaw01_shown.f k).bind fun t193 => (some t193)) else (some false)) = some r := H
            have A18 := ak A180
            clear A180
            by_cases c19 : t191.toList = t192.toList
            · rw [if_pos c19] at H
              have c19b0 : (t191.toList == t192.toList) = true := beq_iff_eq.mpr c19
              have c19b1 : (t191.toList != t192.toList) = false := bne_eq_false_iff_eq.mpr c19
              clear c19
              replace H := Option.bind_eq_some_iff.mp H
              obtain ⟨t193, A200, H⟩ := H
              replace H : (some t193) = some r := H
              have A20 := ak A200
              clear A200
              obtain rfl := Option.some.inj H
              go_enter Tryd.func4, Tryd.ntmps4
              go_wp2_with (first | ((with_reducible refine gate_callee (f := 13) rfl ?_); refine goesL_ (some 19) rfl rfl Tryd.func13 (by kernel_rfl) rfl #[.string a0, .int .i64 a1, .int .i64 a2] rfl (by (try simp only [List.map_toArray, List.map_cons, List.map_nil]); first | done | rfl | (simp only [List.length_drop, List.length_take]; rfl)) ?_; (with_reducible refine (words_Int.calls a0 a1 a2 t183 t184 _ A7.out ⟨Wd.All.stay HT.out (by repeat (first | (with_reducible first | exact HB.out | apply wA | apply wN | apply wD) | exact HB.out | (refine below_set ?_ (by assumption)) | (refine below_set ?_ (Aside0.out (by assumption)))))⟩).mono ?_); rintro e w21 ⟨rfl, hb⟩; refine ⟨_, rfl, ?_⟩; have n0_ := ak (below_step (by repeat (first | (with_reducible first | exact HB.out | apply wA | apply wN | apply wD) | exact HB.out)) hb); clear HB; have HB := n0_; clear n0_; (try clear hb); (try clear hb2); (try clear hk); (try clear hi)) | ((with_reducible refine gate_callee (f := 14) rfl ?_); refine goesL_ (some 26) rfl rfl Tryd.func14 (by kernel_rfl) rfl #[.string a0, .int .i64 a1, .int .i64 a2] rfl (by (try simp only [List.map_toArray, List.map_cons, List.map_nil]); first | done | rfl | (simp only [List.length_drop, List.length_take]; rfl)) ?_; (with_reducible refine (mummerref01_Int.calls k a0 a1 a2 t185 t186 _ A8.out).mono ?_); rintro e w' ⟨rfl, ⟨nd, rfl⟩⟩; refine ⟨_, rfl, ?_⟩) | ((with_reducible refine gate_callee (f := 15) rfl ?_); refine goesL_ (some 30) rfl rfl Tryd.func15 (by kernel_rfl) rfl #[.string a0] rfl (by (try simp only [List.map_toArray, List.map_cons, List.map_nil]); first | done | rfl | (simp only [List.length_drop, List.length_take]; rfl)) ?_; (with_reducible refine (words_Name.calls a0 t187 _ A9.out).mono ?_); rintro e w22 ⟨rfl, hb⟩; refine ⟨_, rfl, ?_⟩; have n0_ := ak (below_step (by repeat (first | (with_reducible first | exact HB.out | apply wA | apply wN | apply wD) | exact HB.out)) hb); clear HB; have HB := n0_; clear n0_; (try clear hb); (try clear hb2); (try clear hk); (try clear hi)) | ((with_reducible refine gate_callee (f := 16) rfl ?_); refine goesL_ (some 32) rfl rfl Tryd.func16 (by kernel_rfl) rfl #[.string a0] rfl (by (try simp only [List.map_toArray, List.map_cons, List.map_nil]); first | done | rfl | (simp only [List.length_drop, List.length_take]; rfl)) ?_; (with_reducible refine (mummerref01_Name.calls k a0 t188 _ A10.out).mono ?_); rintro e w' ⟨rfl, ⟨nd, rfl⟩⟩; refine ⟨_, rfl, ?_⟩) | (go_at_call 17; (with_reducible refine (words_Digits.calls a1 t189 _ A14.out ⟨Wd.All.stay HT.out (by repeat (first | (with_reducible first | exact HB.out | apply wA | apply wN | apply wD) | exact HB.out | (refine below_set ?_ (by assumption)) | (refine below_set ?_ (Aside0.out (by assumption)))))⟩).mono ?_); rintro e w23 ⟨rfl, hb⟩; have n0_ := ak (below_step (by repeat (first | (with_reducible first | exact HB.out | apply wA | apply wN | apply wD) | exact HB.out)) hb); clear HB; have HB := n0_; clear n0_; (try clear hb); (try clear hb2); (try clear hk); (try clear hi)) | (go_at_call 18; (with_reducible refine (mummerref01_Digits.calls k a1 t190 _ A15.out).mono ?_); rintro e w24 ⟨rfl, hb⟩; have n0_ := ak (below_step (by repeat (first | (with_reducible first | exact HB.out | apply wA | apply wN | apply wD) | exact HB.out)) hb); clear HB; have HB := n0_; clear n0_; (try clear hb); (try clear hb2); (try clear hk); (try clear hi)) | (go_at_call 17; (with_reducible refine (words_Digits.calls a2 t191 _ A17.out ⟨Wd.All.stay HT.out (by repeat (first | (with_reducible first | exact HB.out | apply wA | apply wN | apply wD) | exact HB.out | (refine below_set ?_ (by assumption)) | (refine below_set ?_ (Aside0.out (by assumption)))))⟩).mono ?_); rintro e w25 ⟨rfl, hb⟩; have n0_ := ak (below_step (by repeat (first | (with_reducible first | exact HB.out | apply wA | apply wN | apply wD) | exact HB.out)) hb); clear HB; have HB := n0_; clear n0_; (try clear hb); (try clear hb2); (try clear hk); (try clear hi)) | (go_at_call 18; (with_reducible refine (mummerref01_Digits.calls k a2 t192 _ A18.out).mono ?_); rintro e w26 ⟨rfl, hb⟩; have n0_ := ak (below_step (by repeat (first | (with_reducible first | exact HB.out | apply wA | apply wN | apply wD) | exact HB.out)) hb); clear HB; have HB := n0_; clear n0_; (try clear hb); (try clear hb2); (try clear hk); (try clear hi)) | (go_at_call 9; (with_reducible refine (mummerlaw01_shown.calls k  t193 _ hrt A20.out ⟨Wd.All.stay HT.out (by repeat (first | (with_reducible first | exact HB.out | apply wA | apply wN | apply wD) | exact HB.out | (refine below_set ?_ (by assumption)) | (refine below_set ?_ (Aside0.out (by assumption)))))⟩).mono ?_); rintro e w27 ⟨rfl, hb⟩; have n0_ := ak (below_step (by repeat (first | (with_reducible first | exact HB.out | apply wA | apply wN | apply wD) | exact HB.out)) hb); clear HB; have HB := n0_; clear n0_; (try clear hb); (try clear hb2); (try clear hk); (try clear hi)))
              go_ret
              exact ⟨by first | rfl | (simp [errW_none, errW_some] <;> rfl) | (simp [*, errW_none, errW_some] <;> rfl), by repeat (first | (with_reducible first | exact HB.out | apply wA | apply wN | apply wD) | exact HB.out)⟩
            · rw [if_neg c19] at H
              have c19b0 : (t191.toList == t192.toList) = false := beq_eq_false_iff_ne.mpr c19
              have c19b1 : (t191.toList != t192.toList) = true := bne_iff_ne.mpr c19
              exact absurd ((Option.some.inj H).trans hrt.out) (by decide)
          · rw [if_neg c16] at H
            have c16b0 : (t189.toList == t190.toList) = false := beq_eq_false_iff_ne.mpr c16
            have c16b1 : (t189.toList != t190.toList) = true := bne_iff_ne.mpr c16
            exact absurd ((Option.some.inj H).trans hrt.out) (by decide)
        · rw [if_neg c13] at H
          have c13b0 : (t184 == t186) = false := beq_eq_false_iff_ne.mpr c13
          have c13b1 : (t184 != t186) = true := bne_iff_ne.mpr c13
          exact absurd ((Option.some.inj H).trans hrt.out) (by decide)
      · rw [if_neg c12] at H
        have c12b0 : (t183 == t185) = false := beq_eq_false_iff_ne.mpr c12
        have c12b1 : (t183 != t185) = true := bne_iff_ne.mpr c12
        exact absurd ((Option.some.inj H).trans hrt.out) (by decide)
    · rw [if_neg c11] at H
      have c11b0 : (t187 == t188) = false := by simpa using c11
      (try (have c11b1 : decide (t187 = t188) = false := by simpa using c11))
      (try (have c11b2 : (t187 == t188) = false := by simpa using c11))
      (try (have c11b3 : ¬ (t187 = t188) := by simpa using c11))
      clear c11
      exact absurd ((Option.some.inj H).trans hrt.out) (by decide)
end Go.Proofs.YtciaocdpojnmcaaDoor.P
