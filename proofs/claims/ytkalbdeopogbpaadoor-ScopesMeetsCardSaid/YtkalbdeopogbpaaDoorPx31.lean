-- Written by wip/tools/myprint.py of this session over the kit's print; Lean checks it.
import Derived.Test.YtkalbdeopogbpaaDoorPx0
import Derived.Test.YtkalbdeopogbpaaDoorPx3
import Derived.Test.YtkalbdeopogbpaaDoorPx5
import Derived.Test.YtkalbdeopogbpaaDoorPx23
import Derived.Test.YtkalbdeopogbpaaDoorPx26
import Derived.Test.YtkalbdeopogbpaaDoorPx27
import Derived.Test.YtkalbdeopogbpaaDoorPx28
import Derived.Test.YtkalbdeopogbpaaDoorPx29
import Derived.Test.YtkalbdeopogbpaaDoorPx30
namespace Go.Proofs.YtkalbdeopogbpaaDoor.P
open Go.RowKit Go.Proofs.YtkalbdeopogbpaaDoorW.PrintWords Go.Proofs.YtkalbdeopogbpaaDoorW.PrintLast Go.Proofs.YtkalbdeopogbpaaDoorW.PrintMore
attribute [local go_sem] max2_int min2_int max_two min_two max_three min_three max_four min_four   -- for this text's walks alone
set_option linter.unusedVariables false
set_option linter.unusedSimpArgs false

/-! ### mummerlaw09_ScopesMeets: function 7 -/
def mummerlaw09_ScopesMeets.j0 : Nat → ByteArray → ByteArray → Bool → Option (Bool)
  | 0, _, _, _ => none
  | k + 1, x0, x1, x26 => if x26 = true then ((mummerlaw09_awake.f k).bind fun t376 => (some t376)) else ((scopes_Union.f k x0 x1).bind fun bt377 => ((mummerref09_Union.f k x0 x1).bind fun bt379 => ((scopes_Meet.f k x0 x1).bind fun bt381 => ((mummerref09_Meet.f k x0 x1).bind fun bt383 => (if bt377.1.toList = bt379.1.toList then (if bt377.2 = bt379.2 then (if bt381.1.toList = bt383.1.toList then (if bt381.2 = bt383.2 then ((scopes_Minus.f k x0 x1).bind fun bt385 => ((mummerref09_Minus.f k x0 x1).bind fun bt387 => ((scopes_Sub.f k x0 x1).bind fun bt389 => ((mummerref09_Sub.f k x0 x1).bind fun bt391 => ((scopes_Relate.f k x0 x1).bind fun bt393 => ((mummerref09_Relate.f k x0 x1).bind fun bt395 => (if bt385.1.toList = bt387.1.toList then (if bt385.2 = bt387.2 then (if (bt389.1 == bt391.1) = true then (if bt389.2 = bt391.2 then (if bt393.1 = bt395.1 then (if bt393.2 = bt395.2 then ((mummerlaw09_awake.f k).bind fun t397 => (some t397)) else (some false)) else (some false)) else (some false)) else (some false)) else (some false)) else (some false)))))))) else (some false)) else (some false)) else (some false)) else (some false))))))
def mummerlaw09_ScopesMeets.f (k : Nat) (a0 : ByteArray) (a1 : ByteArray) : Option (Bool) := if (a0.size : Int) > 300 then (mummerlaw09_ScopesMeets.j0 k a0 a1 true) else (mummerlaw09_ScopesMeets.j0 k a0 a1 (decide ((a1.size : Int) > 300)))
theorem mummerlaw09_ScopesMeets.mono_l : ∀ k, (∀ y0 y1 y2, LeO (mummerlaw09_ScopesMeets.j0 k y0 y1 y2) (mummerlaw09_ScopesMeets.j0 (k + 1) y0 y1 y2))
  | 0 => fun _ _ _ r h => by simp [mummerlaw09_ScopesMeets.j0] at h
  | k + 1 => by
    have ih0 := mummerlaw09_ScopesMeets.mono_l k
    · intro y0 y1 y2
      unfold mummerlaw09_ScopesMeets.j0
      repeat' first
      | (with_reducible exact ih0 _ _ _)
      | (with_reducible exact mummerlaw09_awake.mono _)
      | (with_reducible exact mummerref09_Meet.mono _ _ _)
      | (with_reducible exact mummerref09_Minus.mono _ _ _)
      | (with_reducible exact mummerref09_Relate.mono _ _ _)
      | (with_reducible exact mummerref09_Sub.mono _ _ _)
      | (with_reducible exact mummerref09_Union.mono _ _ _)
      | (with_reducible exact scopes_Meet.mono _ _ _)
      | (with_reducible exact scopes_Minus.mono _ _ _)
      | (with_reducible exact scopes_Relate.mono _ _ _)
      | (with_reducible exact scopes_Sub.mono _ _ _)
      | (with_reducible exact scopes_Union.mono _ _ _)
      | (with_reducible exact LeO.refl _)
      | (with_reducible exact LeO.none _)
      | (with_reducible refine LeO.ite ?_ ?_)
      | (with_reducible refine LeO.bind ?_ (fun _ => ?_))
      | exact ih0 _ _ _
      | exact mummerlaw09_awake.mono _
      | exact mummerref09_Meet.mono _ _ _
      | exact mummerref09_Minus.mono _ _ _
      | exact mummerref09_Relate.mono _ _ _
      | exact mummerref09_Sub.mono _ _ _
      | exact mummerref09_Union.mono _ _ _
      | exact scopes_Meet.mono _ _ _
      | exact scopes_Minus.mono _ _ _
      | exact scopes_Relate.mono _ _ _
      | exact scopes_Sub.mono _ _ _
      | exact scopes_Union.mono _ _ _
      | exact LeO.none _
      | refine LeO.ite ?_ ?_
      | refine LeO.bind ?_ (fun _ => ?_)
theorem mummerlaw09_ScopesMeets.mono : ∀ a0 a1 k, LeO (mummerlaw09_ScopesMeets.f k a0 a1) (mummerlaw09_ScopesMeets.f (k + 1) a0 a1) := by
  intro a0 a1 k
  have ih0 := mummerlaw09_ScopesMeets.mono_l k
  unfold mummerlaw09_ScopesMeets.f
  repeat' first
      | (with_reducible exact ih0 _ _ _)
      | (with_reducible exact mummerlaw09_awake.mono _)
      | (with_reducible exact mummerref09_Meet.mono _ _ _)
      | (with_reducible exact mummerref09_Minus.mono _ _ _)
      | (with_reducible exact mummerref09_Relate.mono _ _ _)
      | (with_reducible exact mummerref09_Sub.mono _ _ _)
      | (with_reducible exact mummerref09_Union.mono _ _ _)
      | (with_reducible exact scopes_Meet.mono _ _ _)
      | (with_reducible exact scopes_Minus.mono _ _ _)
      | (with_reducible exact scopes_Relate.mono _ _ _)
      | (with_reducible exact scopes_Sub.mono _ _ _)
      | (with_reducible exact scopes_Union.mono _ _ _)
      | (with_reducible exact LeO.refl _)
      | (with_reducible exact LeO.none _)
      | (with_reducible refine LeO.ite ?_ ?_)
      | (with_reducible refine LeO.bind ?_ (fun _ => ?_))
      | exact ih0 _ _ _
      | exact mummerlaw09_awake.mono _
      | exact mummerref09_Meet.mono _ _ _
      | exact mummerref09_Minus.mono _ _ _
      | exact mummerref09_Relate.mono _ _ _
      | exact mummerref09_Sub.mono _ _ _
      | exact mummerref09_Union.mono _ _ _
      | exact scopes_Meet.mono _ _ _
      | exact scopes_Minus.mono _ _ _
      | exact scopes_Relate.mono _ _ _
      | exact scopes_Sub.mono _ _ _
      | exact scopes_Union.mono _ _ _
      | exact LeO.none _
      | refine LeO.ite ?_ ?_
      | refine LeO.bind ?_ (fun _ => ?_)
set_option maxHeartbeats 8000000 in
set_option maxRecDepth 100000 in
theorem mummerlaw09_ScopesMeets.calls (k : Nat) (a0 : ByteArray) (a1 : ByteArray) (r : Bool) (w : World) (hrt : Aside0 (r = true)) (h : mummerlaw09_ScopesMeets.f k a0 a1 = some r) (HT : Aside0 (Sc.Tab w)) :
    Calls Tryd.prog 7 #[.string a0, .string a1] w fun e w' => e = .returned (.bool r) ∧ Below w.heap.size w w' := by
  have HB := ak (Below.refl w.heap.size w)
  have H : (if (a0.size : Int) > 300 then (mummerlaw09_ScopesMeets.j0 k a0 a1 true) else (mummerlaw09_ScopesMeets.j0 k a0 a1 (decide ((a1.size : Int) > 300)))) = some r := h
  clear h
  have HC3 := ak H
  clear H
  go_enter Tryd.func7, Tryd.ntmps7
  go_upto_region 1 with (fail)
  go_cut [26] (fun v26 wc => ∃ (kq : Nat) (x26_2 : Bool), v26 = .bool x26_2 ∧ Aside0 (mummerlaw09_ScopesMeets.j0 kq a0 a1 x26_2 = some r) ∧ Aside0 (kq ≤ k) ∧ Aside0 (Below w.heap.size w wc))
  case first =>
    have H := HC3.out
    clear HC3
    by_cases c4 : (a0.size : Int) > 300
    · rw [if_pos c4] at H
      have c4b0 : decide (300 < (a0.size : Int)) = true := decide_eq_true c4
      have c4b1 : decide (300 < a0.size) = true := decide_eq_true (by omega)
      clear c4
      (first | rw [c4b0] | (simp only [i64_w, i32_w]; rw [c4b0]) | skip)
      have H' := ak H
      clear H
      go_wp2
      go_meet
      case rel => exact ⟨_, (true), (by first | rfl | (simp; done) | (simp [*]; done)), H', ⟨by first | omega | exact Nat.le_refl _⟩, ⟨by repeat (first | (with_reducible first | exact HB.out | apply wA | apply wN | apply wD) | exact HB.out)⟩⟩
    · rw [if_neg c4] at H
      have c4b0 : decide (300 < (a0.size : Int)) = false := decide_eq_false c4
      have c4b1 : decide (300 < a0.size) = false := decide_eq_false (by omega)
      clear c4
      (first | rw [c4b0] | (simp only [i64_w, i32_w]; rw [c4b0]) | skip)
      have H' := ak H
      clear H
      go_wp2
      go_meet
      case rel => exact ⟨_, (decide ((a1.size : Int) > 300)), (by first | rfl | (simp; done) | (simp [*]; done)), H', ⟨by first | omega | exact Nat.le_refl _⟩, ⟨by repeat (first | (with_reducible first | exact HB.out | apply wA | apply wN | apply wD) | exact HB.out)⟩⟩
  case rest =>
    clear HC3
    try clear p2
    try clear c4
    try clear c4b0
    try clear c4b1
    obtain ⟨kq, x26_2, rfl, HA, HJ2, HB⟩ := hcut
    cases kq with
    | zero => exact absurd HA.out (by simp [mummerlaw09_ScopesMeets.j0])
    | succ kj2 =>
      have H := HA.out
      clear HA
      simp only [mummerlaw09_ScopesMeets.j0] at H
      by_cases c5 : x26_2 = true
      · subst c5
        have H1 : ((mummerlaw09_awake.f kj2).bind fun t376 => (some t376)) = some r := by rw [if_pos rfl] at H; exact H
        clear H
        have H := H1
        clear H1
        replace H := Option.bind_eq_some_iff.mp H
        obtain ⟨t376, A60, H⟩ := H
        replace H : (some t376) = some r := H
        have A6 := ak A60
        clear A60
        obtain rfl := Option.some.inj H
        go_wp2_with (first | ((with_reducible refine gate_callee (f := 10) rfl ?_); refine goesL_ (some 27) rfl rfl Tryd.func10 (by kernel_rfl) rfl #[] rfl (by (try simp only [List.map_toArray, List.map_cons, List.map_nil]); first | done | rfl | (simp only [List.length_drop, List.length_take]; rfl)) ?_; (with_reducible refine (mummerlaw09_awake.calls kj2  t376 _ hrt A6.out ⟨Sc.Tab.stay HT.out (by repeat (first | (with_reducible first | exact HB.out | apply wA | apply wN | apply wD) | exact HB.out | (refine below_set ?_ (by assumption))))⟩).mono ?_); rintro e w7 ⟨rfl, hb⟩; refine ⟨_, rfl, ?_⟩; have n0_ := ak (below_step (by repeat (first | (with_reducible first | exact HB.out | apply wA | apply wN | apply wD) | exact HB.out)) hb); clear HB; have HB := n0_; clear n0_; (try clear hb); (try clear hb2); (try clear hk); (try clear hi)))
        go_ret
        exact ⟨by first | rfl | (simp [errW_none, errW_some] <;> rfl) | (simp [*, errW_none, errW_some] <;> rfl), by repeat (first | (with_reducible first | exact HB.out | apply wA | apply wN | apply wD) | exact HB.out)⟩
      · replace c5 := Bool.eq_false_iff.mpr c5
        subst c5
        have H1 : ((scopes_Union.f kj2 a0 a1).bind fun bt377 => ((mummerref09_Union.f kj2 a0 a1).bind fun bt379 => ((scopes_Meet.f kj2 a0 a1).bind fun bt381 => ((mummerref09_Meet.f kj2 a0 a1).bind fun bt383 => (if bt377.1.toList = bt379.1.toList then (if bt377.2 = bt379.2 then (if bt381.1.toList = bt383.1.toList then (if bt381.2 = bt383.2 then ((scopes_Minus.f kj2 a0 a1).bind fun bt385 => ((mummerref09_Minus.f kj2 a0 a1).bind fun bt387 => ((scopes_Sub.f kj2 a0 a1).bind fun bt389 => ((mummerref09_Sub.f kj2 a0 a1).bind fun bt391 => ((scopes_Relate.f kj2 a0 a1).bind fun bt393 => ((mummerref09_Relate.f kj2 a0 a1).bind fun bt395 => (if bt385.1.toList = bt387.1.toList then (if bt385.2 = bt387.2 then (if (bt389.1 == bt391.1) = true then (if bt389.2 = bt391.2 then (if bt393.1 = bt395.1 then (if bt393.2 = bt395.2 then ((mummerlaw09_awake.f kj2).bind fun t397 => (some t397)) else (some false)) else (some false)) else (some false)) else (some false)) else (some false)) else (some false)))))))) else (some false)) else (some false)) else (some false)) else (some false)))))) = some r := by rw [if_neg (show ¬ (false = true) by decide)] at H; exact H
        clear H
        have H := H1
        clear H1
        replace H := Option.bind_eq_some_iff.mp H
        obtain ⟨⟨t377, t378⟩, A80, H⟩ := H
        replace H : ((mummerref09_Union.f kj2 a0 a1).bind fun bt379 => ((scopes_Meet.f kj2 a0 a1).bind fun bt381 => ((mummerref09_Meet.f kj2 a0 a1).bind fun bt383 => (if t377.toList = bt379.1.toList then (if t378 = bt379.2 then (if bt381.1.toList = bt383.1.toList then (if bt381.2 = bt383.2 then ((scopes_Minus.f kj2 a0 a1).bind fun bt385 => ((mummerref09_Minus.f kj2 a0 a1).bind fun bt387 => ((scopes_Sub.f kj2 a0 a1).bind fun bt389 => ((mummerref09_Sub.f kj2 a0 a1).bind fun bt391 => ((scopes_Relate.f kj2 a0 a1).bind fun bt393 => ((mummerref09_Relate.f kj2 a0 a1).bind fun bt395 => (if bt385.1.toList = bt387.1.toList then (if bt385.2 = bt387.2 then (if (bt389.1 == bt391.1) = true then (if bt389.2 = bt391.2 then (if bt393.1 = bt395.1 then (if bt393.2 = bt395.2 then ((mummerlaw09_awake.f kj2).bind fun t397 => (some t397)) else (some false)) else (some false)) else (some false)) else (some false)) else (some false)) else (some false)))))))) else (some false)) else (some false)) else (some false)) else (some false))))) = some r := H
        have A8 := ak A80
        clear A80
        replace H := Option.bind_eq_some_iff.mp H
        obtain ⟨⟨t379, t380⟩, A90, H⟩ := H
        replace H : ((scopes_Meet.f kj2 a0 a1).bind fun bt381 => ((mummerref09_Meet.f kj2 a0 a1).bind fun bt383 => (if t377.toList = t379.toList then (if t378 = t380 then (if bt381.1.toList = bt383.1.toList then (if bt381.2 = bt383.2 then ((scopes_Minus.f kj2 a0 a1).bind fun bt385 => ((mummerref09_Minus.f kj2 a0 a1).bind fun bt387 => ((scopes_Sub.f kj2 a0 a1).bind fun bt389 => ((mummerref09_Sub.f kj2 a0 a1).bind fun bt391 => ((scopes_Relate.f kj2 a0 a1).bind fun bt393 => ((mummerref09_Relate.f kj2 a0 a1).bind fun bt395 => (if bt385.1.toList = bt387.1.toList then (if bt385.2 = bt387.2 then (if (bt389.1 == bt391.1) = true then (if bt389.2 = bt391.2 then (if bt393.1 = bt395.1 then (if bt393.2 = bt395.2 then ((mummerlaw09_awake.f kj2).bind fun t397 => (some t397)) else (some false)) else (some false)) else (some false)) else (some false)) else (some false)) else (some false)))))))) else (some false)) else (some false)) else (some false)) else (some false)))) = some r := H
        have A9 := ak A90
        clear A90
        replace H := Option.bind_eq_some_iff.mp H
        obtain ⟨⟨t381, t382⟩, A100, H⟩ := H
        replace H : ((mummerref09_Meet.f kj2 a0 a1).bind fun bt383 => (if t377.toList = t379.toList then (if t378 = t380 then (if t381.toList = bt383.1.toList then (if t382 = bt383.2 then ((scopes_Minus.f kj2 a0 a1).bind fun bt385 => ((mummerref09_Minus.f kj2 a0 a1).bind fun bt387 => ((scopes_Sub.f kj2 a0 a1).bind fun bt389 => ((mummerref09_Sub.f kj2 a0 a1).bind fun bt391 => ((scopes_Relate.f kj2 a0 a1).bind fun bt393 => ((mummerref09_Relate.f kj2 a0 a1).bind fun bt395 => (if bt385.1.toList = bt387.1.toList then (if bt385.2 = bt387.2 then (if (bt389.1 == bt391.1) = true then (if bt389.2 = bt391.2 then (if bt393.1 = bt395.1 then (if bt393.2 = bt395.2 then ((mummerlaw09_awake.f kj2).bind fun t397 => (some t397)) else (some false)) else (some false)) else (some false)) else (some false)) else (some false)) else (some false)))))))) else (some false)) else (some false)) else (some false)) else (some false))) = some r := H
        have A10 := ak A100
        clear A100
        replace H := Option.bind_eq_some_iff.mp H
        obtain ⟨⟨t383, t384⟩, A110, H⟩ := H
        replace H : (if t377.toList = t379.toList then (if t378 = t380 then (if t381.toList = t383.toList then (if t382 = t384 then ((scopes_Minus.f kj2 a0 a1).bind fun bt385 => ((mummerref09_Minus.f kj2 a0 a1).bind fun bt387 => ((scopes_Sub.f kj2 a0 a1).bind fun bt389 => ((mummerref09_Sub.f kj2 a0 a1).bind fun bt391 => ((scopes_Relate.f kj2 a0 a1).bind fun bt393 => ((mummerref09_Relate.f kj2 a0 a1).bind fun bt395 => (if bt385.1.toList = bt387.1.toList then (if bt385.2 = bt387.2 then (if (bt389.1 == bt391.1) = true then (if bt389.2 = bt391.2 then (if bt393.1 = bt395.1 then (if bt393.2 = bt395.2 then ((mummerlaw09_awake.f kj2).bind fun t397 => (some t397)) else (some false)) else (some false)) else (some false)) else (some false)) else (some false)) else (some false)))))))) else (some false)) else (some false)) else (some false)) else (some false)) = some r := H
        have A11 := ak A110
        clear A110
        by_cases c12 : t377.toList = t379.toList
        · rw [if_pos c12] at H
          have c12b0 : (t377.toList == t379.toList) = true := beq_iff_eq.mpr c12
          have c12b1 : (t377.toList != t379.toList) = false := bne_eq_false_iff_eq.mpr c12
          clear c12
          by_cases c13 : t378 = t380
          · rw [if_pos c13] at H
            have c13b0 : (t378 == t380) = true := beq_iff_eq.mpr c13
            have c13b1 : (t378 != t380) = false := bne_eq_false_iff_eq.mpr c13
            clear c13
            by_cases c14 : t381.toList = t383.toList
            · rw [if_pos c14] at H
              have c14b0 : (t381.toList == t383.toList) = true := beq_iff_eq.mpr c14
              have c14b1 : (t381.toList != t383.toList) = false := bne_eq_false_iff_eq.mpr c14
              clear c14
              by_cases c15 : t382 = t384
              · rw [if_pos c15] at H
                have c15b0 : (t382 == t384) = true := beq_iff_eq.mpr c15
                have c15b1 : (t382 != t384) = false := bne_eq_false_iff_eq.mpr c15
                clear c15
                replace H := Option.bind_eq_some_iff.mp H
                obtain ⟨⟨t385, t386⟩, A160, H⟩ := H
                replace H : ((mummerref09_Minus.f kj2 a0 a1).bind fun bt387 => ((scopes_Sub.f kj2 a0 a1).bind fun bt389 => ((mummerref09_Sub.f kj2 a0 a1).bind fun bt391 => ((scopes_Relate.f kj2 a0 a1).bind fun bt393 => ((mummerref09_Relate.f kj2 a0 a1).bind fun bt395 => (if t385.toList = bt387.1.toList then (if t386 = bt387.2 then (if (bt389.1 == bt391.1) = true then (if bt389.2 = bt391.2 then (if bt393.1 = bt395.1 then (if bt393.2 = bt395.2 then ((mummerlaw09_awake.f kj2).bind fun t397 => (some t397)) else (some false)) else (some false)) else (some false)) else (some false)) else (some false)) else (some false))))))) = some r := H
                have A16 := ak A160
                clear A160
                replace H := Option.bind_eq_some_iff.mp H
                obtain ⟨⟨t387, t388⟩, A170, H⟩ := H
                replace H : ((scopes_Sub.f kj2 a0 a1).bind fun bt389 => ((mummerref09_Sub.f kj2 a0 a1).bind fun bt391 => ((scopes_Relate.f kj2 a0 a1).bind fun bt393 => ((mummerref09_Relate.f kj2 a0 a1).bind fun bt395 => (if t385.toList = t387.toList then (if t386 = t388 then (if (bt389.1 == bt391.1) = true then (if bt389.2 = bt391.2 then (if bt393.1 = bt395.1 then (if bt393.2 = bt395.2 then ((mummerlaw09_awake.f kj2).bind fun t397 => (some t397)) else (some false)) else (some false)) else (some false)) else (some false)) else (some false)) else (some false)))))) = some r := H
                have A17 := ak A170
                clear A170
                replace H := Option.bind_eq_some_iff.mp H
                obtain ⟨⟨t389, t390⟩, A180, H⟩ := H
                replace H : ((mummerref09_Sub.f kj2 a0 a1).bind fun bt391 => ((scopes_Relate.f kj2 a0 a1).bind fun bt393 => ((mummerref09_Relate.f kj2 a0 a1).bind fun bt395 => (if t385.toList = t387.toList then (if t386 = t388 then (if (t389 == bt391.1) = true then (if t390 = bt391.2 then (if bt393.1 = bt395.1 then (if bt393.2 = bt395.2 then ((mummerlaw09_awake.f kj2).bind fun t397 => (some t397)) else (some false)) else (some false)) else (some false)) else (some false)) else (some false)) else (some false))))) = some r := H
                have A18 := ak A180
                clear A180
                replace H := Option.bind_eq_some_iff.mp H
                obtain ⟨⟨t391, t392⟩, A190, H⟩ := H
                replace H : ((scopes_Relate.f kj2 a0 a1).bind fun bt393 => ((mummerref09_Relate.f kj2 a0 a1).bind fun bt395 => (if t385.toList = t387.toList then (if t386 = t388 then (if (t389 == t391) = true then (if t390 = t392 then (if bt393.1 = bt395.1 then (if bt393.2 = bt395.2 then ((mummerlaw09_awake.f kj2).bind fun t397 => (some t397)) else (some false)) else (some false)) else (some false)) else (some false)) else (some false)) else (some false)))) = some r := H
                have A19 := ak A190
                clear A190
                replace H := Option.bind_eq_some_iff.mp H
                obtain ⟨⟨t393, t394⟩, A200, H⟩ := H
                replace H : ((mummerref09_Relate.f kj2 a0 a1).bind fun bt395 => (if t385.toList = t387.toList then (if t386 = t388 then (if (t389 == t391) = true then (if t390 = t392 then (if t393 = bt395.1 then (if t394 = bt395.2 then ((mummerlaw09_awake.f kj2).bind fun t397 => (some t397)) else (some false)) else (some false)) else (some false)) else (some false)) else (some false)) else (some false))) = some r := H
                have A20 := ak A200
                clear A200
                replace H := Option.bind_eq_some_iff.mp H
                obtain ⟨⟨t395, t396⟩, A210, H⟩ := H
                replace H : (if t385.toList = t387.toList then (if t386 = t388 then (if (t389 == t391) = true then (if t390 = t392 then (if t393 = t395 then (if t394 = t396 then ((mummerlaw09_awake.f kj2).bind fun t397 => (some t397)) else (some false)) else (some false)) else (some false)) else (some false)) else (some false)) else (some false)) = some r := H
                have A21 := ak A210
                clear A210
                by_cases c22 : t385.toList = t387.toList
                · rw [if_pos c22] at H
                  have c22b0 : (t385.toList == t387.toList) = true := beq_iff_eq.mpr c22
                  have c22b1 : (t385.toList != t387.toList) = false := bne_eq_false_iff_eq.mpr c22
                  clear c22
                  by_cases c23 : t386 = t388
                  · rw [if_pos c23] at H
                    have c23b0 : (t386 == t388) = true := beq_iff_eq.mpr c23
                    have c23b1 : (t386 != t388) = false := bne_eq_false_iff_eq.mpr c23
                    clear c23
                    by_cases c24 : (t389 == t391) = true
                    · rw [if_pos c24] at H
                      have c24b0 : (t389 == t391) = true := c24
                      (try (have c24b1 : decide (t389 = t391) = true := by simpa using c24))
                      (try (have c24b2 : (t389 == t391) = true := by simpa using c24))
                      clear c24
                      by_cases c25 : t390 = t392
                      · rw [if_pos c25] at H
                        have c25b0 : (t390 == t392) = true := beq_iff_eq.mpr c25
                        have c25b1 : (t390 != t392) = false := bne_eq_false_iff_eq.mpr c25
                        clear c25
                        by_cases c26 : t393 = t395
                        · rw [if_pos c26] at H
                          have c26b0 : (t393 == t395) = true := beq_iff_eq.mpr c26
                          have c26b1 : (t393 != t395) = false := bne_eq_false_iff_eq.mpr c26
                          clear c26
                          by_cases c27 : t394 = t396
                          · rw [if_pos c27] at H
                            have c27b0 : (t394 == t396) = true := beq_iff_eq.mpr c27
                            have c27b1 : (t394 != t396) = false := bne_eq_false_iff_eq.mpr c27
                            clear c27
                            replace H := Option.bind_eq_some_iff.mp H
                            obtain ⟨t397, A280, H⟩ := H
                            replace H : (some t397) = some r := H
                            have A28 := ak A280
                            clear A280
                            obtain rfl := Option.some.inj H
                            go_wp2_with (first | ((with_reducible refine gate_callee (f := 26) rfl ?_); refine goesL_ (some 31) rfl rfl Tryd.func26 (by kernel_rfl) rfl #[.string a0, .string a1] rfl (by (try simp only [List.map_toArray, List.map_cons, List.map_nil]); first | done | rfl | (simp only [List.length_drop, List.length_take]; rfl)) ?_; (with_reducible refine (scopes_Union.calls kj2 a0 a1 t377 t378 _ A8.out).mono ?_); rintro e w29 ⟨rfl, hb⟩; refine ⟨_, rfl, ?_⟩; have n0_ := ak (below_step (by repeat (first | (with_reducible first | exact HB.out | apply wA | apply wN | apply wD) | exact HB.out)) hb); clear HB; have HB := n0_; clear n0_; (try clear hb); (try clear hb2); (try clear hk); (try clear hi)) | ((with_reducible refine gate_callee (f := 28) rfl ?_); refine goesL_ (some 37) rfl rfl Tryd.func28 (by kernel_rfl) rfl #[.string a0, .string a1] rfl (by (try simp only [List.map_toArray, List.map_cons, List.map_nil]); first | done | rfl | (simp only [List.length_drop, List.length_take]; rfl)) ?_; (with_reducible refine (mummerref09_Union.calls kj2 a0 a1 t379 t380 _ A9.out).mono ?_); rintro e w30 ⟨rfl, hb⟩; refine ⟨_, rfl, ?_⟩; have n0_ := ak (below_step (by repeat (first | (with_reducible first | exact HB.out | apply wA | apply wN | apply wD) | exact HB.out)) hb); clear HB; have HB := n0_; clear n0_; (try clear hb); (try clear hb2); (try clear hk); (try clear hi)) | ((with_reducible refine gate_callee (f := 27) rfl ?_); refine goesL_ (some 43) rfl rfl Tryd.func27 (by kernel_rfl) rfl #[.string a0, .string a1] rfl (by (try simp only [List.map_toArray, List.map_cons, List.map_nil]); first | done | rfl | (simp only [List.length_drop, List.length_take]; rfl)) ?_; (with_reducible refine (scopes_Meet.calls kj2 a0 a1 t381 t382 _ A10.out).mono ?_); rintro e w31 ⟨rfl, hb⟩; refine ⟨_, rfl, ?_⟩; have n0_ := ak (below_step (by repeat (first | (with_reducible first | exact HB.out | apply wA | apply wN | apply wD) | exact HB.out)) hb); clear HB; have HB := n0_; clear n0_; (try clear hb); (try clear hb2); (try clear hk); (try clear hi)) | ((with_reducible refine gate_callee (f := 29) rfl ?_); refine goesL_ (some 49) rfl rfl Tryd.func29 (by kernel_rfl) rfl #[.string a0, .string a1] rfl (by (try simp only [List.map_toArray, List.map_cons, List.map_nil]); first | done | rfl | (simp only [List.length_drop, List.length_take]; rfl)) ?_; (with_reducible refine (mummerref09_Meet.calls kj2 a0 a1 t383 t384 _ A11.out).mono ?_); rintro e w32 ⟨rfl, hb⟩; refine ⟨_, rfl, ?_⟩; have n0_ := ak (below_step (by repeat (first | (with_reducible first | exact HB.out | apply wA | apply wN | apply wD) | exact HB.out)) hb); clear HB; have HB := n0_; clear n0_; (try clear hb); (try clear hb2); (try clear hk); (try clear hi)) | ((with_reducible refine gate_callee (f := 30) rfl ?_); refine goesL_ (some 73) rfl rfl Tryd.func30 (by kernel_rfl) rfl #[.string a0, .string a1] rfl (by (try simp only [List.map_toArray, List.map_cons, List.map_nil]); first | done | rfl | (simp only [List.length_drop, List.length_take]; rfl)) ?_; (with_reducible refine (scopes_Minus.calls kj2 a0 a1 t385 t386 _ A16.out).mono ?_); rintro e w33 ⟨rfl, hb⟩; refine ⟨_, rfl, ?_⟩; have n0_ := ak (below_step (by repeat (first | (with_reducible first | exact HB.out | apply wA | apply wN | apply wD) | exact HB.out)) hb); clear HB; have HB := n0_; clear n0_; (try clear hb); (try clear hb2); (try clear hk); (try clear hi)) | ((with_reducible refine gate_callee (f := 31) rfl ?_); refine goesL_ (some 79) rfl rfl Tryd.func31 (by kernel_rfl) rfl #[.string a0, .string a1] rfl (by (try simp only [List.map_toArray, List.map_cons, List.map_nil]); first | done | rfl | (simp only [List.length_drop, List.length_take]; rfl)) ?_; (with_reducible refine (mummerref09_Minus.calls kj2 a0 a1 t387 t388 _ A17.out).mono ?_); rintro e w34 ⟨rfl, hb⟩; refine ⟨_, rfl, ?_⟩; have n0_ := ak (below_step (by repeat (first | (with_reducible first | exact HB.out | apply wA | apply wN | apply wD) | exact HB.out)) hb); clear HB; have HB := n0_; clear n0_; (try clear hb); (try clear hb2); (try clear hk); (try clear hi)) | ((with_reducible refine gate_callee (f := 32) rfl ?_); refine goesL_ (some 85) rfl rfl Tryd.func32 (by kernel_rfl) rfl #[.string a0, .string a1] rfl (by (try simp only [List.map_toArray, List.map_cons, List.map_nil]); first | done | rfl | (simp only [List.length_drop, List.length_take]; rfl)) ?_; (with_reducible refine (scopes_Sub.calls kj2 a0 a1 t389 t390 _ A18.out).mono ?_); rintro e w35 ⟨rfl, hb⟩; refine ⟨_, rfl, ?_⟩; have n0_ := ak (below_step (by repeat (first | (with_reducible first | exact HB.out | apply wA | apply wN | apply wD) | exact HB.out)) hb); clear HB; have HB := n0_; clear n0_; (try clear hb); (try clear hb2); (try clear hk); (try clear hi)) | ((with_reducible refine gate_callee (f := 33) rfl ?_); refine goesL_ (some 91) rfl rfl Tryd.func33 (by kernel_rfl) rfl #[.string a0, .string a1] rfl (by (try simp only [List.map_toArray, List.map_cons, List.map_nil]); first | done | rfl | (simp only [List.length_drop, List.length_take]; rfl)) ?_; (with_reducible refine (mummerref09_Sub.calls kj2 a0 a1 t391 t392 _ A19.out).mono ?_); rintro e w36 ⟨rfl, hb⟩; refine ⟨_, rfl, ?_⟩; have n0_ := ak (below_step (by repeat (first | (with_reducible first | exact HB.out | apply wA | apply wN | apply wD) | exact HB.out)) hb); clear HB; have HB := n0_; clear n0_; (try clear hb); (try clear hb2); (try clear hk); (try clear hi)) | ((with_reducible refine gate_callee (f := 34) rfl ?_); refine goesL_ (some 97) rfl rfl Tryd.func34 (by kernel_rfl) rfl #[.string a0, .string a1] rfl (by (try simp only [List.map_toArray, List.map_cons, List.map_nil]); first | done | rfl | (simp only [List.length_drop, List.length_take]; rfl)) ?_; (with_reducible refine (scopes_Relate.calls kj2 a0 a1 t393 t394 _ A20.out).mono ?_); rintro e w37 ⟨rfl, hb⟩; refine ⟨_, rfl, ?_⟩; have n0_ := ak (below_step (by repeat (first | (with_reducible first | exact HB.out | apply wA | apply wN | apply wD) | exact HB.out)) hb); clear HB; have HB := n0_; clear n0_; (try clear hb); (try clear hb2); (try clear hk); (try clear hi)) | ((with_reducible refine gate_callee (f := 35) rfl ?_); refine goesL_ (some 103) rfl rfl Tryd.func35 (by kernel_rfl) rfl #[.string a0, .string a1] rfl (by (try simp only [List.map_toArray, List.map_cons, List.map_nil]); first | done | rfl | (simp only [List.length_drop, List.length_take]; rfl)) ?_; (with_reducible refine (mummerref09_Relate.calls kj2 a0 a1 t395 t396 _ A21.out).mono ?_); rintro e w38 ⟨rfl, hb⟩; refine ⟨_, rfl, ?_⟩; have n0_ := ak (below_step (by repeat (first | (with_reducible first | exact HB.out | apply wA | apply wN | apply wD) | exact HB.out)) hb); clear HB; have HB := n0_; clear n0_; (try clear hb); (try clear hb2); (try clear hk); (try clear hi)) | (go_at_call 10; (with_reducible refine (mummerlaw09_awake.calls kj2  t397 _ hrt A28.out ⟨Sc.Tab.stay HT.out (by repeat (first | (with_reducible first | exact HB.out | apply wA | apply wN | apply wD) | exact HB.out | (refine below_set ?_ (by assumption))))⟩).mono ?_); rintro e w39 ⟨rfl, hb⟩; have n0_ := ak (below_step (by repeat (first | (with_reducible first | exact HB.out | apply wA | apply wN | apply wD) | exact HB.out)) hb); clear HB; have HB := n0_; clear n0_; (try clear hb); (try clear hb2); (try clear hk); (try clear hi)))
                            go_ret
                            exact ⟨by first | rfl | (simp [errW_none, errW_some] <;> rfl) | (simp [*, errW_none, errW_some] <;> rfl), by repeat (first | (with_reducible first | exact HB.out | apply wA | apply wN | apply wD) | exact HB.out)⟩
                          · rw [if_neg c27] at H
                            have c27b0 : (t394 == t396) = false := beq_eq_false_iff_ne.mpr c27
                            have c27b1 : (t394 != t396) = true := bne_iff_ne.mpr c27
                            exact absurd ((Option.some.inj H).trans hrt.out) (by decide)
                        · rw [if_neg c26] at H
                          have c26b0 : (t393 == t395) = false := beq_eq_false_iff_ne.mpr c26
                          have c26b1 : (t393 != t395) = true := bne_iff_ne.mpr c26
                          exact absurd ((Option.some.inj H).trans hrt.out) (by decide)
                      · rw [if_neg c25] at H
                        have c25b0 : (t390 == t392) = false := beq_eq_false_iff_ne.mpr c25
                        have c25b1 : (t390 != t392) = true := bne_iff_ne.mpr c25
                        exact absurd ((Option.some.inj H).trans hrt.out) (by decide)
                    · rw [if_neg c24] at H
                      have c24b0 : (t389 == t391) = false := by simpa using c24
                      (try (have c24b1 : decide (t389 = t391) = false := by simpa using c24))
                      (try (have c24b2 : (t389 == t391) = false := by simpa using c24))
                      (try (have c24b3 : ¬ (t389 = t391) := by simpa using c24))
                      clear c24
                      exact absurd ((Option.some.inj H).trans hrt.out) (by decide)
                  · rw [if_neg c23] at H
                    have c23b0 : (t386 == t388) = false := beq_eq_false_iff_ne.mpr c23
                    have c23b1 : (t386 != t388) = true := bne_iff_ne.mpr c23
                    exact absurd ((Option.some.inj H).trans hrt.out) (by decide)
                · rw [if_neg c22] at H
                  have c22b0 : (t385.toList == t387.toList) = false := beq_eq_false_iff_ne.mpr c22
                  have c22b1 : (t385.toList != t387.toList) = true := bne_iff_ne.mpr c22
                  exact absurd ((Option.some.inj H).trans hrt.out) (by decide)
              · rw [if_neg c15] at H
                have c15b0 : (t382 == t384) = false := beq_eq_false_iff_ne.mpr c15
                have c15b1 : (t382 != t384) = true := bne_iff_ne.mpr c15
                exact absurd ((Option.some.inj H).trans hrt.out) (by decide)
            · rw [if_neg c14] at H
              have c14b0 : (t381.toList == t383.toList) = false := beq_eq_false_iff_ne.mpr c14
              have c14b1 : (t381.toList != t383.toList) = true := bne_iff_ne.mpr c14
              exact absurd ((Option.some.inj H).trans hrt.out) (by decide)
          · rw [if_neg c13] at H
            have c13b0 : (t378 == t380) = false := beq_eq_false_iff_ne.mpr c13
            have c13b1 : (t378 != t380) = true := bne_iff_ne.mpr c13
            exact absurd ((Option.some.inj H).trans hrt.out) (by decide)
        · rw [if_neg c12] at H
          have c12b0 : (t377.toList == t379.toList) = false := beq_eq_false_iff_ne.mpr c12
          have c12b1 : (t377.toList != t379.toList) = true := bne_iff_ne.mpr c12
          exact absurd ((Option.some.inj H).trans hrt.out) (by decide)

end Go.Proofs.YtkalbdeopogbpaaDoor.P
