-- Written by wip/tools/myprint.py of this session over the kit's print; Lean checks it.
import Derived.Test.YtkalbdeopogbpaaDoorPx0
import Derived.Test.YtkalbdeopogbpaaDoorPx1
import Derived.Test.YtkalbdeopogbpaaDoorPx3
import Derived.Test.YtkalbdeopogbpaaDoorPx5
import Derived.Test.YtkalbdeopogbpaaDoorPx23
import Derived.Test.YtkalbdeopogbpaaDoorPx28
namespace Go.Proofs.YtkalbdeopogbpaaDoor.P
open Go.RowKit Go.Proofs.YtkalbdeopogbpaaDoorW.PrintWords Go.Proofs.YtkalbdeopogbpaaDoorW.PrintLast Go.Proofs.YtkalbdeopogbpaaDoorW.PrintMore
attribute [local go_sem] max2_int min2_int max_two min_two max_three min_three max_four min_four   -- for this text's walks alone
set_option linter.unusedVariables false
set_option linter.unusedSimpArgs false

/-! ### mummerlaw09_ScopesSubsets: function 8 -/
mutual
def mummerlaw09_ScopesSubsets.j0 : Nat → ByteArray → ByteArray → ByteArray → Bool → Option (Bool)
  | 0, _, _, _, _ => none
  | k + 1, x0, x1, x2, x48 => if x48 = true then ((mummerlaw09_awake.f k).bind fun t401 => (some t401)) else ((scopes_Sub.f k x0 x1).bind fun bt402 => ((scopes_Union.f k x0 x1).bind fun bt404 => ((scopes_Meet.f k x0 x1).bind fun bt406 => ((scopes_Minus.f k x0 x1).bind fun bt408 => (if bt402.2 = 0 then (if bt406.2 = 0 then (if bt408.2 = 0 then (if bt404.2 = 0 then (if (bt402.1 != (bt404.1.toList == x1.toList)) = true then (some false) else (if (bt402.1 != (bt406.1.toList == x0.toList)) = true then (some false) else (mummerlaw09_ScopesSubsets.j1 k x0 x1 x2 bt402.1 bt406.1 bt408.1 (bt402.1 != (bt408.1.toList == ([] : List UInt8)))))) else (if (bt402.1 != false) = true then (some false) else (if (bt402.1 != (bt406.1.toList == x0.toList)) = true then (some false) else (mummerlaw09_ScopesSubsets.j1 k x0 x1 x2 bt402.1 bt406.1 bt408.1 (bt402.1 != (bt408.1.toList == ([] : List UInt8))))))) else (some false)) else (some false)) else (some false))))))
def mummerlaw09_ScopesSubsets.j1 : Nat → ByteArray → ByteArray → ByteArray → Bool → ByteArray → ByteArray → Bool → Option (Bool)
  | 0, _, _, _, _, _, _, _ => none
  | k + 1, x0, x1, x2, x7, x11, x13, x107 => if x107 = true then (some false) else ((scopes_Union.f k x13 x11).bind fun bt410 => ((scopes_Meet.f k x13 x1).bind fun bt412 => (if bt410.2 = 0 then (if bt412.2 = 0 then (if bt410.1.toList = x0.toList then (if bt412.1.toList = ([] : List UInt8) then ((scopes_Sub.f k x1 x2).bind fun bt414 => ((scopes_Sub.f k x0 x2).bind fun bt416 => ((scopes_Sub.f k x1 x0).bind fun bt418 => ((scopes_Relate.f k x0 x1).bind fun bt420 => (if bt414.2 = 0 then (if bt416.2 = 0 then (if bt418.2 = 0 then (if bt420.2 = 0 then (if x7 = true then (if bt414.1 = true then (if bt416.1 = true then (if bt418.1 = true then (if x0.toList = x1.toList then (if ((bt420.1 == 0) == bt418.1) = true then (if ((bt420.1 == 1) == (!bt418.1)) = true then (if ((bt420.1 == 2) == false) = true then (if ((bt420.1 == 3) == false) = true then ((mummerlaw09_awake.f k).bind fun t422 => (some t422)) else (some false)) else (some false)) else (some false)) else (some false)) else (some false)) else (if ((bt420.1 == 0) == bt418.1) = true then (if ((bt420.1 == 1) == (!bt418.1)) = true then (if ((bt420.1 == 2) == false) = true then (if ((bt420.1 == 3) == false) = true then ((mummerlaw09_awake.f k).bind fun t423 => (some t423)) else (some false)) else (some false)) else (some false)) else (some false))) else (some false)) else (if bt418.1 = true then (if x0.toList = x1.toList then (if ((bt420.1 == 0) == bt418.1) = true then (if ((bt420.1 == 1) == (!bt418.1)) = true then (if ((bt420.1 == 2) == false) = true then (if ((bt420.1 == 3) == false) = true then ((mummerlaw09_awake.f k).bind fun t424 => (some t424)) else (some false)) else (some false)) else (some false)) else (some false)) else (some false)) else (if ((bt420.1 == 0) == bt418.1) = true then (if ((bt420.1 == 1) == (!bt418.1)) = true then (if ((bt420.1 == 2) == false) = true then (if ((bt420.1 == 3) == false) = true then ((mummerlaw09_awake.f k).bind fun t425 => (some t425)) else (some false)) else (some false)) else (some false)) else (some false)))) else (if ((bt420.1 == 0) == false) = true then (if ((bt420.1 == 1) == false) = true then (if ((bt420.1 == 2) == bt418.1) = true then (if ((bt420.1 == 3) == (!bt418.1)) = true then ((mummerlaw09_awake.f k).bind fun t426 => (some t426)) else (some false)) else (some false)) else (some false)) else (some false))) else (some false)) else (some false)) else (some false)) else (some false)))))) else (some false)) else (some false)) else (some false)) else (some false))))
end
def mummerlaw09_ScopesSubsets.f (k : Nat) (a0 : ByteArray) (a1 : ByteArray) (a2 : ByteArray) : Option (Bool) := if (a0.size : Int) > 300 then (mummerlaw09_ScopesSubsets.j0 k a0 a1 a2 true) else (if (a1.size : Int) > 300 then (mummerlaw09_ScopesSubsets.j0 k a0 a1 a2 true) else (if (a2.size : Int) > 300 then (mummerlaw09_ScopesSubsets.j0 k a0 a1 a2 true) else ((scopes_Check.f a0).bind fun t398 => (if t398 = 0 then ((scopes_Check.f a1).bind fun t399 => (if t399 = 0 then ((scopes_Check.f a2).bind fun t400 => (mummerlaw09_ScopesSubsets.j0 k a0 a1 a2 (t400 != 0))) else (mummerlaw09_ScopesSubsets.j0 k a0 a1 a2 true))) else (mummerlaw09_ScopesSubsets.j0 k a0 a1 a2 true)))))
theorem mummerlaw09_ScopesSubsets.mono_l : ∀ k, (∀ y0 y1 y2 y3, LeO (mummerlaw09_ScopesSubsets.j0 k y0 y1 y2 y3) (mummerlaw09_ScopesSubsets.j0 (k + 1) y0 y1 y2 y3)) ∧ (∀ y0 y1 y2 y3 y4 y5 y6, LeO (mummerlaw09_ScopesSubsets.j1 k y0 y1 y2 y3 y4 y5 y6) (mummerlaw09_ScopesSubsets.j1 (k + 1) y0 y1 y2 y3 y4 y5 y6))
  | 0 => ⟨fun _ _ _ _ r h => by simp [mummerlaw09_ScopesSubsets.j0] at h, fun _ _ _ _ _ _ _ r h => by simp [mummerlaw09_ScopesSubsets.j1] at h⟩
  | k + 1 => by
    obtain ⟨ih0, ih1⟩ := mummerlaw09_ScopesSubsets.mono_l k
    refine ⟨?_, ?_⟩
    · intro y0 y1 y2 y3
      unfold mummerlaw09_ScopesSubsets.j0
      repeat' first
      | (with_reducible exact ih0 _ _ _ _)
      | (with_reducible exact ih1 _ _ _ _ _ _ _)
      | (with_reducible exact mummerlaw09_awake.mono _)
      | (with_reducible exact scopes_Meet.mono _ _ _)
      | (with_reducible exact scopes_Minus.mono _ _ _)
      | (with_reducible exact scopes_Relate.mono _ _ _)
      | (with_reducible exact scopes_Sub.mono _ _ _)
      | (with_reducible exact scopes_Union.mono _ _ _)
      | (with_reducible exact LeO.refl _)
      | (with_reducible exact LeO.none _)
      | (with_reducible refine LeO.ite ?_ ?_)
      | (with_reducible refine LeO.bind ?_ (fun _ => ?_))
      | exact ih0 _ _ _ _
      | exact ih1 _ _ _ _ _ _ _
      | exact mummerlaw09_awake.mono _
      | exact scopes_Meet.mono _ _ _
      | exact scopes_Minus.mono _ _ _
      | exact scopes_Relate.mono _ _ _
      | exact scopes_Sub.mono _ _ _
      | exact scopes_Union.mono _ _ _
      | exact LeO.none _
      | refine LeO.ite ?_ ?_
      | refine LeO.bind ?_ (fun _ => ?_)
    · intro y0 y1 y2 y3 y4 y5 y6
      unfold mummerlaw09_ScopesSubsets.j1
      repeat' first
      | (with_reducible exact ih0 _ _ _ _)
      | (with_reducible exact ih1 _ _ _ _ _ _ _)
      | (with_reducible exact mummerlaw09_awake.mono _)
      | (with_reducible exact scopes_Meet.mono _ _ _)
      | (with_reducible exact scopes_Minus.mono _ _ _)
      | (with_reducible exact scopes_Relate.mono _ _ _)
      | (with_reducible exact scopes_Sub.mono _ _ _)
      | (with_reducible exact scopes_Union.mono _ _ _)
      | (with_reducible exact LeO.refl _)
      | (with_reducible exact LeO.none _)
      | (with_reducible refine LeO.ite ?_ ?_)
      | (with_reducible refine LeO.bind ?_ (fun _ => ?_))
      | exact ih0 _ _ _ _
      | exact ih1 _ _ _ _ _ _ _
      | exact mummerlaw09_awake.mono _
      | exact scopes_Meet.mono _ _ _
      | exact scopes_Minus.mono _ _ _
      | exact scopes_Relate.mono _ _ _
      | exact scopes_Sub.mono _ _ _
      | exact scopes_Union.mono _ _ _
      | exact LeO.none _
      | refine LeO.ite ?_ ?_
      | refine LeO.bind ?_ (fun _ => ?_)
theorem mummerlaw09_ScopesSubsets.mono : ∀ a0 a1 a2 k, LeO (mummerlaw09_ScopesSubsets.f k a0 a1 a2) (mummerlaw09_ScopesSubsets.f (k + 1) a0 a1 a2) := by
  intro a0 a1 a2 k
  obtain ⟨ih0, ih1⟩ := mummerlaw09_ScopesSubsets.mono_l k
  unfold mummerlaw09_ScopesSubsets.f
  repeat' first
      | (with_reducible exact ih0 _ _ _ _)
      | (with_reducible exact ih1 _ _ _ _ _ _ _)
      | (with_reducible exact mummerlaw09_awake.mono _)
      | (with_reducible exact scopes_Meet.mono _ _ _)
      | (with_reducible exact scopes_Minus.mono _ _ _)
      | (with_reducible exact scopes_Relate.mono _ _ _)
      | (with_reducible exact scopes_Sub.mono _ _ _)
      | (with_reducible exact scopes_Union.mono _ _ _)
      | (with_reducible exact LeO.refl _)
      | (with_reducible exact LeO.none _)
      | (with_reducible refine LeO.ite ?_ ?_)
      | (with_reducible refine LeO.bind ?_ (fun _ => ?_))
      | exact ih0 _ _ _ _
      | exact ih1 _ _ _ _ _ _ _
      | exact mummerlaw09_awake.mono _
      | exact scopes_Meet.mono _ _ _
      | exact scopes_Minus.mono _ _ _
      | exact scopes_Relate.mono _ _ _
      | exact scopes_Sub.mono _ _ _
      | exact scopes_Union.mono _ _ _
      | exact LeO.none _
      | refine LeO.ite ?_ ?_
      | refine LeO.bind ?_ (fun _ => ?_)
set_option maxHeartbeats 8000000 in
set_option maxRecDepth 100000 in
theorem mummerlaw09_ScopesSubsets.calls (k : Nat) (a0 : ByteArray) (a1 : ByteArray) (a2 : ByteArray) (r : Bool) (w : World) (hrt : Aside0 (r = true)) (h : mummerlaw09_ScopesSubsets.f k a0 a1 a2 = some r) (HT : Aside0 (Sc.Tab w)) :
    Calls Tryd.prog 8 #[.string a0, .string a1, .string a2] w fun e w' => e = .returned (.bool r) ∧ Below w.heap.size w w' := by
  have HB := ak (Below.refl w.heap.size w)
  have H : (if (a0.size : Int) > 300 then (mummerlaw09_ScopesSubsets.j0 k a0 a1 a2 true) else (if (a1.size : Int) > 300 then (mummerlaw09_ScopesSubsets.j0 k a0 a1 a2 true) else (if (a2.size : Int) > 300 then (mummerlaw09_ScopesSubsets.j0 k a0 a1 a2 true) else ((scopes_Check.f a0).bind fun t398 => (if t398 = 0 then ((scopes_Check.f a1).bind fun t399 => (if t399 = 0 then ((scopes_Check.f a2).bind fun t400 => (mummerlaw09_ScopesSubsets.j0 k a0 a1 a2 (t400 != 0))) else (mummerlaw09_ScopesSubsets.j0 k a0 a1 a2 true))) else (mummerlaw09_ScopesSubsets.j0 k a0 a1 a2 true)))))) = some r := h
  clear h
  have HC4 := ak H
  clear H
  go_enter Tryd.func8, Tryd.ntmps8
  go_upto_region 1 with (fail)
  go_cut [48] (fun v48 wc => ∃ (kq : Nat) (x48_3 : Bool), v48 = .bool x48_3 ∧ Aside0 (mummerlaw09_ScopesSubsets.j0 kq a0 a1 a2 x48_3 = some r) ∧ Aside0 (kq ≤ k) ∧ Aside0 (Below w.heap.size w wc))
  case first =>
    as_aux_lemma =>
    have H := HC4.out
    clear HC4
    by_cases c5 : (a0.size : Int) > 300
    · rw [if_pos c5] at H
      have c5b0 : decide (300 < (a0.size : Int)) = true := decide_eq_true c5
      have c5b1 : decide (300 < a0.size) = true := decide_eq_true (by omega)
      clear c5
      (first | rw [c5b0] | (simp only [i64_w, i32_w]; rw [c5b0]) | skip)
      have H' := ak H
      clear H
      go_wp2
      go_meet
      case rel => exact ⟨_, (true), (by first | rfl | (simp; done) | (simp [*]; done)), H', ⟨by first | omega | exact Nat.le_refl _⟩, ⟨by repeat (first | (with_reducible first | exact HB.out | apply wA | apply wN | apply wD) | exact HB.out)⟩⟩
    · rw [if_neg c5] at H
      have c5b0 : decide (300 < (a0.size : Int)) = false := decide_eq_false c5
      have c5b1 : decide (300 < a0.size) = false := decide_eq_false (by omega)
      clear c5
      (first | rw [c5b0] | (simp only [i64_w, i32_w]; rw [c5b0]) | skip)
      by_cases c6 : (a1.size : Int) > 300
      · rw [if_pos c6] at H
        have c6b0 : decide (300 < (a1.size : Int)) = true := decide_eq_true c6
        have c6b1 : decide (300 < a1.size) = true := decide_eq_true (by omega)
        clear c6
        have H' := ak H
        clear H
        go_wp2
        go_meet
        case rel => exact ⟨_, (true), (by first | rfl | (simp; done) | (simp [*]; done)), H', ⟨by first | omega | exact Nat.le_refl _⟩, ⟨by repeat (first | (with_reducible first | exact HB.out | apply wA | apply wN | apply wD) | exact HB.out)⟩⟩
      · rw [if_neg c6] at H
        have c6b0 : decide (300 < (a1.size : Int)) = false := decide_eq_false c6
        have c6b1 : decide (300 < a1.size) = false := decide_eq_false (by omega)
        clear c6
        by_cases c7 : (a2.size : Int) > 300
        · rw [if_pos c7] at H
          have c7b0 : decide (300 < (a2.size : Int)) = true := decide_eq_true c7
          have c7b1 : decide (300 < a2.size) = true := decide_eq_true (by omega)
          clear c7
          have H' := ak H
          clear H
          go_wp2
          go_meet
          case rel => exact ⟨_, (true), (by first | rfl | (simp; done) | (simp [*]; done)), H', ⟨by first | omega | exact Nat.le_refl _⟩, ⟨by repeat (first | (with_reducible first | exact HB.out | apply wA | apply wN | apply wD) | exact HB.out)⟩⟩
        · rw [if_neg c7] at H
          have c7b0 : decide (300 < (a2.size : Int)) = false := decide_eq_false c7
          have c7b1 : decide (300 < a2.size) = false := decide_eq_false (by omega)
          clear c7
          replace H := Option.bind_eq_some_iff.mp H
          obtain ⟨t398, A80, H⟩ := H
          replace H : (if t398 = 0 then ((scopes_Check.f a1).bind fun t399 => (if t399 = 0 then ((scopes_Check.f a2).bind fun t400 => (mummerlaw09_ScopesSubsets.j0 k a0 a1 a2 (t400 != 0))) else (mummerlaw09_ScopesSubsets.j0 k a0 a1 a2 true))) else (mummerlaw09_ScopesSubsets.j0 k a0 a1 a2 true)) = some r := H
          have A8 := ak A80
          clear A80
          by_cases c9 : t398 = 0
          · rw [if_pos c9] at H
            have c9b0 : (t398 == 0) = true := beq_iff_eq.mpr c9
            have c9b1 : (t398 != 0) = false := bne_eq_false_iff_eq.mpr c9
            clear c9
            replace H := Option.bind_eq_some_iff.mp H
            obtain ⟨t399, A100, H⟩ := H
            replace H : (if t399 = 0 then ((scopes_Check.f a2).bind fun t400 => (mummerlaw09_ScopesSubsets.j0 k a0 a1 a2 (t400 != 0))) else (mummerlaw09_ScopesSubsets.j0 k a0 a1 a2 true)) = some r := H
            have A10 := ak A100
            clear A100
            by_cases c11 : t399 = 0
            · rw [if_pos c11] at H
              have c11b0 : (t399 == 0) = true := beq_iff_eq.mpr c11
              have c11b1 : (t399 != 0) = false := bne_eq_false_iff_eq.mpr c11
              clear c11
              replace H := Option.bind_eq_some_iff.mp H
              obtain ⟨t400, A120, H⟩ := H
              replace H : (mummerlaw09_ScopesSubsets.j0 k a0 a1 a2 (t400 != 0)) = some r := H
              have A12 := ak A120
              clear A120
              have H' := ak H
              clear H
              go_wp2_with (first | (go_at_call 15; (with_reducible refine (scopes_Check.calls a0 t398 _ A8.out).mono ?_); rintro e w13 ⟨rfl, hb⟩; have n0_ := ak (below_step (by repeat (first | (with_reducible first | exact HB.out | apply wA | apply wN | apply wD) | exact HB.out)) hb); clear HB; have HB := n0_; clear n0_; (try clear hb); (try clear hb2); (try clear hk); (try clear hi)) | (go_at_call 15; (with_reducible refine (scopes_Check.calls a1 t399 _ A10.out).mono ?_); rintro e w14 ⟨rfl, hb⟩; have n0_ := ak (below_step (by repeat (first | (with_reducible first | exact HB.out | apply wA | apply wN | apply wD) | exact HB.out)) hb); clear HB; have HB := n0_; clear n0_; (try clear hb); (try clear hb2); (try clear hk); (try clear hi)) | (go_at_call 15; (with_reducible refine (scopes_Check.calls a2 t400 _ A12.out).mono ?_); rintro e w15 ⟨rfl, hb⟩; have n0_ := ak (below_step (by repeat (first | (with_reducible first | exact HB.out | apply wA | apply wN | apply wD) | exact HB.out)) hb); clear HB; have HB := n0_; clear n0_; (try clear hb); (try clear hb2); (try clear hk); (try clear hi)))
              go_meet
              case rel => exact ⟨_, ((t400 != 0)), (by first | rfl | (simp; done) | (simp [*]; done) | (cases t400 <;> simp)), H', ⟨by first | omega | exact Nat.le_refl _⟩, ⟨by repeat (first | (with_reducible first | exact HB.out | apply wA | apply wN | apply wD) | exact HB.out)⟩⟩
            · rw [if_neg c11] at H
              have c11b0 : (t399 == 0) = false := beq_eq_false_iff_ne.mpr c11
              have c11b1 : (t399 != 0) = true := bne_iff_ne.mpr c11
              have H' := ak H
              clear H
              go_wp2_with (first | (go_at_call 15; (with_reducible refine (scopes_Check.calls a0 t398 _ A8.out).mono ?_); rintro e w16 ⟨rfl, hb⟩; have n0_ := ak (below_step (by repeat (first | (with_reducible first | exact HB.out | apply wA | apply wN | apply wD) | exact HB.out)) hb); clear HB; have HB := n0_; clear n0_; (try clear hb); (try clear hb2); (try clear hk); (try clear hi)) | (go_at_call 15; (with_reducible refine (scopes_Check.calls a1 t399 _ A10.out).mono ?_); rintro e w17 ⟨rfl, hb⟩; have n0_ := ak (below_step (by repeat (first | (with_reducible first | exact HB.out | apply wA | apply wN | apply wD) | exact HB.out)) hb); clear HB; have HB := n0_; clear n0_; (try clear hb); (try clear hb2); (try clear hk); (try clear hi)))
              go_meet
              case rel => exact ⟨_, (true), (by first | rfl | (simp; done) | (simp [*]; done)), H', ⟨by first | omega | exact Nat.le_refl _⟩, ⟨by repeat (first | (with_reducible first | exact HB.out | apply wA | apply wN | apply wD) | exact HB.out)⟩⟩
          · rw [if_neg c9] at H
            have c9b0 : (t398 == 0) = false := beq_eq_false_iff_ne.mpr c9
            have c9b1 : (t398 != 0) = true := bne_iff_ne.mpr c9
            have H' := ak H
            clear H
            go_wp2_with (first | (go_at_call 15; (with_reducible refine (scopes_Check.calls a0 t398 _ A8.out).mono ?_); rintro e w18 ⟨rfl, hb⟩; have n0_ := ak (below_step (by repeat (first | (with_reducible first | exact HB.out | apply wA | apply wN | apply wD) | exact HB.out)) hb); clear HB; have HB := n0_; clear n0_; (try clear hb); (try clear hb2); (try clear hk); (try clear hi)))
            go_meet
            case rel => exact ⟨_, (true), (by first | rfl | (simp; done) | (simp [*]; done)), H', ⟨by first | omega | exact Nat.le_refl _⟩, ⟨by repeat (first | (with_reducible first | exact HB.out | apply wA | apply wN | apply wD) | exact HB.out)⟩⟩
  case rest =>
    as_aux_lemma =>
    clear HC4
    try clear c1
    try clear p2
    try clear c5
    try clear c5b0
    try clear c5b1
    try clear c6
    try clear c6b0
    try clear c6b1
    try clear c7
    try clear c7b0
    try clear c7b1
    try clear c8
    try clear c9
    try clear c9b0
    try clear c9b1
    try clear c11
    try clear c11b0
    try clear c11b1
    obtain ⟨kq, x48_3, rfl, HA, HJ3, HB⟩ := hcut
    cases kq with
    | zero => exact absurd HA.out (by simp [mummerlaw09_ScopesSubsets.j0])
    | succ kj3 =>
      have H := HA.out
      clear HA
      simp only [mummerlaw09_ScopesSubsets.j0] at H
      by_cases c19 : x48_3 = true
      · subst c19
        have H1 : ((mummerlaw09_awake.f kj3).bind fun t401 => (some t401)) = some r := by rw [if_pos rfl] at H; exact H
        clear H
        have H := H1
        clear H1
        replace H := Option.bind_eq_some_iff.mp H
        obtain ⟨t401, A200, H⟩ := H
        replace H : (some t401) = some r := H
        have A20 := ak A200
        clear A200
        obtain rfl := Option.some.inj H
        go_wp2_with (first | ((with_reducible refine gate_callee (f := 10) rfl ?_); refine goesL_ (some 49) rfl rfl Tryd.func10 (by kernel_rfl) rfl #[] rfl (by (try simp only [List.map_toArray, List.map_cons, List.map_nil]); first | done | rfl | (simp only [List.length_drop, List.length_take]; rfl)) ?_; (with_reducible refine (mummerlaw09_awake.calls kj3  t401 _ hrt A20.out ⟨Sc.Tab.stay HT.out (by repeat (first | (with_reducible first | exact HB.out | apply wA | apply wN | apply wD) | exact HB.out | (refine below_set ?_ (by assumption))))⟩).mono ?_); rintro e w21 ⟨rfl, hb⟩; refine ⟨_, rfl, ?_⟩; have n0_ := ak (below_step (by repeat (first | (with_reducible first | exact HB.out | apply wA | apply wN | apply wD) | exact HB.out)) hb); clear HB; have HB := n0_; clear n0_; (try clear hb); (try clear hb2); (try clear hk); (try clear hi)))
        go_ret
        exact ⟨by first | rfl | (simp [errW_none, errW_some] <;> rfl) | (simp [*, errW_none, errW_some] <;> rfl), by repeat (first | (with_reducible first | exact HB.out | apply wA | apply wN | apply wD) | exact HB.out)⟩
      · replace c19 := Bool.eq_false_iff.mpr c19
        subst c19
        have H1 : ((scopes_Sub.f kj3 a0 a1).bind fun bt402 => ((scopes_Union.f kj3 a0 a1).bind fun bt404 => ((scopes_Meet.f kj3 a0 a1).bind fun bt406 => ((scopes_Minus.f kj3 a0 a1).bind fun bt408 => (if bt402.2 = 0 then (if bt406.2 = 0 then (if bt408.2 = 0 then (if bt404.2 = 0 then (if (bt402.1 != (bt404.1.toList == a1.toList)) = true then (some false) else (if (bt402.1 != (bt406.1.toList == a0.toList)) = true then (some false) else (mummerlaw09_ScopesSubsets.j1 kj3 a0 a1 a2 bt402.1 bt406.1 bt408.1 (bt402.1 != (bt408.1.toList == ([] : List UInt8)))))) else (if (bt402.1 != false) = true then (some false) else (if (bt402.1 != (bt406.1.toList == a0.toList)) = true then (some false) else (mummerlaw09_ScopesSubsets.j1 kj3 a0 a1 a2 bt402.1 bt406.1 bt408.1 (bt402.1 != (bt408.1.toList == ([] : List UInt8))))))) else (some false)) else (some false)) else (some false)))))) = some r := by rw [if_neg (show ¬ (false = true) by decide)] at H; exact H
        clear H
        have H := H1
        clear H1
        replace H := Option.bind_eq_some_iff.mp H
        obtain ⟨⟨t402, t403⟩, A220, H⟩ := H
        replace H : ((scopes_Union.f kj3 a0 a1).bind fun bt404 => ((scopes_Meet.f kj3 a0 a1).bind fun bt406 => ((scopes_Minus.f kj3 a0 a1).bind fun bt408 => (if t403 = 0 then (if bt406.2 = 0 then (if bt408.2 = 0 then (if bt404.2 = 0 then (if (t402 != (bt404.1.toList == a1.toList)) = true then (some false) else (if (t402 != (bt406.1.toList == a0.toList)) = true then (some false) else (mummerlaw09_ScopesSubsets.j1 kj3 a0 a1 a2 t402 bt406.1 bt408.1 (t402 != (bt408.1.toList == ([] : List UInt8)))))) else (if (t402 != false) = true then (some false) else (if (t402 != (bt406.1.toList == a0.toList)) = true then (some false) else (mummerlaw09_ScopesSubsets.j1 kj3 a0 a1 a2 t402 bt406.1 bt408.1 (t402 != (bt408.1.toList == ([] : List UInt8))))))) else (some false)) else (some false)) else (some false))))) = some r := H
        have A22 := ak A220
        clear A220
        replace H := Option.bind_eq_some_iff.mp H
        obtain ⟨⟨t404, t405⟩, A230, H⟩ := H
        replace H : ((scopes_Meet.f kj3 a0 a1).bind fun bt406 => ((scopes_Minus.f kj3 a0 a1).bind fun bt408 => (if t403 = 0 then (if bt406.2 = 0 then (if bt408.2 = 0 then (if t405 = 0 then (if (t402 != (t404.toList == a1.toList)) = true then (some false) else (if (t402 != (bt406.1.toList == a0.toList)) = true then (some false) else (mummerlaw09_ScopesSubsets.j1 kj3 a0 a1 a2 t402 bt406.1 bt408.1 (t402 != (bt408.1.toList == ([] : List UInt8)))))) else (if (t402 != false) = true then (some false) else (if (t402 != (bt406.1.toList == a0.toList)) = true then (some false) else (mummerlaw09_ScopesSubsets.j1 kj3 a0 a1 a2 t402 bt406.1 bt408.1 (t402 != (bt408.1.toList == ([] : List UInt8))))))) else (some false)) else (some false)) else (some false)))) = some r := H
        have A23 := ak A230
        clear A230
        replace H := Option.bind_eq_some_iff.mp H
        obtain ⟨⟨t406, t407⟩, A240, H⟩ := H
        replace H : ((scopes_Minus.f kj3 a0 a1).bind fun bt408 => (if t403 = 0 then (if t407 = 0 then (if bt408.2 = 0 then (if t405 = 0 then (if (t402 != (t404.toList == a1.toList)) = true then (some false) else (if (t402 != (t406.toList == a0.toList)) = true then (some false) else (mummerlaw09_ScopesSubsets.j1 kj3 a0 a1 a2 t402 t406 bt408.1 (t402 != (bt408.1.toList == ([] : List UInt8)))))) else (if (t402 != false) = true then (some false) else (if (t402 != (t406.toList == a0.toList)) = true then (some false) else (mummerlaw09_ScopesSubsets.j1 kj3 a0 a1 a2 t402 t406 bt408.1 (t402 != (bt408.1.toList == ([] : List UInt8))))))) else (some false)) else (some false)) else (some false))) = some r := H
        have A24 := ak A240
        clear A240
        replace H := Option.bind_eq_some_iff.mp H
        obtain ⟨⟨t408, t409⟩, A250, H⟩ := H
        replace H : (if t403 = 0 then (if t407 = 0 then (if t409 = 0 then (if t405 = 0 then (if (t402 != (t404.toList == a1.toList)) = true then (some false) else (if (t402 != (t406.toList == a0.toList)) = true then (some false) else (mummerlaw09_ScopesSubsets.j1 kj3 a0 a1 a2 t402 t406 t408 (t402 != (t408.toList == ([] : List UInt8)))))) else (if (t402 != false) = true then (some false) else (if (t402 != (t406.toList == a0.toList)) = true then (some false) else (mummerlaw09_ScopesSubsets.j1 kj3 a0 a1 a2 t402 t406 t408 (t402 != (t408.toList == ([] : List UInt8))))))) else (some false)) else (some false)) else (some false)) = some r := H
        have A25 := ak A250
        clear A250
        have HC26 := ak H
        clear H
        go_upto_region 7 with (first | ((with_reducible refine gate_callee (f := 32) rfl ?_); refine goesL_ (some 53) rfl rfl Tryd.func32 (by kernel_rfl) rfl #[.string a0, .string a1] rfl (by (try simp only [List.map_toArray, List.map_cons, List.map_nil]); first | done | rfl | (simp only [List.length_drop, List.length_take]; rfl)) ?_; (with_reducible refine (scopes_Sub.calls kj3 a0 a1 t402 t403 _ A22.out).mono ?_); rintro e w27 ⟨rfl, hb⟩; refine ⟨_, rfl, ?_⟩; have n0_ := ak (below_step (by repeat (first | (with_reducible first | exact HB.out | apply wA | apply wN | apply wD) | exact HB.out)) hb); clear HB; have HB := n0_; clear n0_; (try clear hb); (try clear hb2); (try clear hk); (try clear hi)) | ((with_reducible refine gate_callee (f := 26) rfl ?_); refine goesL_ (some 59) rfl rfl Tryd.func26 (by kernel_rfl) rfl #[.string a0, .string a1] rfl (by (try simp only [List.map_toArray, List.map_cons, List.map_nil]); first | done | rfl | (simp only [List.length_drop, List.length_take]; rfl)) ?_; (with_reducible refine (scopes_Union.calls kj3 a0 a1 t404 t405 _ A23.out).mono ?_); rintro e w28 ⟨rfl, hb⟩; refine ⟨_, rfl, ?_⟩; have n0_ := ak (below_step (by repeat (first | (with_reducible first | exact HB.out | apply wA | apply wN | apply wD) | exact HB.out)) hb); clear HB; have HB := n0_; clear n0_; (try clear hb); (try clear hb2); (try clear hk); (try clear hi)) | ((with_reducible refine gate_callee (f := 27) rfl ?_); refine goesL_ (some 65) rfl rfl Tryd.func27 (by kernel_rfl) rfl #[.string a0, .string a1] rfl (by (try simp only [List.map_toArray, List.map_cons, List.map_nil]); first | done | rfl | (simp only [List.length_drop, List.length_take]; rfl)) ?_; (with_reducible refine (scopes_Meet.calls kj3 a0 a1 t406 t407 _ A24.out).mono ?_); rintro e w29 ⟨rfl, hb⟩; refine ⟨_, rfl, ?_⟩; have n0_ := ak (below_step (by repeat (first | (with_reducible first | exact HB.out | apply wA | apply wN | apply wD) | exact HB.out)) hb); clear HB; have HB := n0_; clear n0_; (try clear hb); (try clear hb2); (try clear hk); (try clear hi)) | ((with_reducible refine gate_callee (f := 30) rfl ?_); refine goesL_ (some 71) rfl rfl Tryd.func30 (by kernel_rfl) rfl #[.string a0, .string a1] rfl (by (try simp only [List.map_toArray, List.map_cons, List.map_nil]); first | done | rfl | (simp only [List.length_drop, List.length_take]; rfl)) ?_; (with_reducible refine (scopes_Minus.calls kj3 a0 a1 t408 t409 _ A25.out).mono ?_); rintro e w30 ⟨rfl, hb⟩; refine ⟨_, rfl, ?_⟩; have n0_ := ak (below_step (by repeat (first | (with_reducible first | exact HB.out | apply wA | apply wN | apply wD) | exact HB.out)) hb); clear HB; have HB := n0_; clear n0_; (try clear hb); (try clear hb2); (try clear hk); (try clear hi)))
        (try simp only [Act.put, List.setIfInBounds_toArray, List.set_cons_zero, List.set_cons_succ])
        go_cut [107] (fun v107 wc => ∃ (kq : Nat) (x107_25 : Bool), v107 = .bool x107_25 ∧ Aside0 (mummerlaw09_ScopesSubsets.j1 kq a0 a1 a2 t402 t406 t408 x107_25 = some r) ∧ Aside0 (kq ≤ kj3) ∧ Aside0 (Below w.heap.size w wc))
        case first =>
          as_aux_lemma =>
          have H := HC26.out
          clear HC26
          by_cases c31 : t403 = 0
          · rw [if_pos c31] at H
            have c31b0 : (t403 == 0) = true := beq_iff_eq.mpr c31
            have c31b1 : (t403 != 0) = false := bne_eq_false_iff_eq.mpr c31
            clear c31
            (first | rw [c31b0] | (simp only [i64_w, i32_w]; rw [c31b0]) | skip)
            by_cases c32 : t407 = 0
            · rw [if_pos c32] at H
              have c32b0 : (t407 == 0) = true := beq_iff_eq.mpr c32
              have c32b1 : (t407 != 0) = false := bne_eq_false_iff_eq.mpr c32
              clear c32
              by_cases c33 : t409 = 0
              · rw [if_pos c33] at H
                have c33b0 : (t409 == 0) = true := beq_iff_eq.mpr c33
                have c33b1 : (t409 != 0) = false := bne_eq_false_iff_eq.mpr c33
                clear c33
                by_cases c34 : t405 = 0
                · rw [if_pos c34] at H
                  have c34b0 : (t405 == 0) = true := beq_iff_eq.mpr c34
                  have c34b1 : (t405 != 0) = false := bne_eq_false_iff_eq.mpr c34
                  clear c34
                  by_cases c35 : (t402 != (t404.toList == a1.toList)) = true
                  · rw [if_pos c35] at H
                    have c35b0 : (t402 != (t404.toList == a1.toList)) = true := c35
                    (try (have c35b1 : decide (t402 = (t404.toList == a1.toList)) = false := by simpa using c35))
                    (try (have c35b2 : (t402 == (t404.toList == a1.toList)) = false := by simpa using c35))
                    (try (have c35b3 : ¬ (t402 = (t404.toList == a1.toList)) := by simpa using c35))
                    clear c35
                    exact absurd ((Option.some.inj H).trans hrt.out) (by decide)
                  · rw [if_neg c35] at H
                    have c35b0 : (t402 != (t404.toList == a1.toList)) = false := by simpa using c35
                    (try (have c35b1 : decide (t402 = (t404.toList == a1.toList)) = true := by simpa using c35))
                    (try (have c35b2 : (t402 == (t404.toList == a1.toList)) = true := by simpa using c35))
                    clear c35
                    by_cases c36 : (t402 != (t406.toList == a0.toList)) = true
                    · rw [if_pos c36] at H
                      have c36b0 : (t402 != (t406.toList == a0.toList)) = true := c36
                      (try (have c36b1 : decide (t402 = (t406.toList == a0.toList)) = false := by simpa using c36))
                      (try (have c36b2 : (t402 == (t406.toList == a0.toList)) = false := by simpa using c36))
                      (try (have c36b3 : ¬ (t402 = (t406.toList == a0.toList)) := by simpa using c36))
                      clear c36
                      exact absurd ((Option.some.inj H).trans hrt.out) (by decide)
                    · rw [if_neg c36] at H
                      have c36b0 : (t402 != (t406.toList == a0.toList)) = false := by simpa using c36
                      (try (have c36b1 : decide (t402 = (t406.toList == a0.toList)) = true := by simpa using c36))
                      (try (have c36b2 : (t402 == (t406.toList == a0.toList)) = true := by simpa using c36))
                      clear c36
                      have H' := ak H
                      clear H
                      go_wp2
                      go_meet
                      case rel => exact ⟨_, ((t402 != (t408.toList == ([] : List UInt8)))), (by first | rfl | (simp; done) | (simp [*]; done) | (cases t402 <;> simp)), H', ⟨by have := HJ3.out; first | omega | exact Nat.le_refl _⟩, ⟨by repeat (first | (with_reducible first | exact HB.out | apply wA | apply wN | apply wD) | exact HB.out)⟩⟩
                · rw [if_neg c34] at H
                  have c34b0 : (t405 == 0) = false := beq_eq_false_iff_ne.mpr c34
                  have c34b1 : (t405 != 0) = true := bne_iff_ne.mpr c34
                  by_cases c37 : (t402 != false) = true
                  · rw [if_pos c37] at H
                    have c37b0 : (t402 != false) = true := c37
                    (try (have c37b1 : decide (t402 = false) = false := by simpa using c37))
                    (try (have c37b2 : (t402 == false) = false := by simpa using c37))
                    (try (have c37b3 : ¬ (t402 = false) := by simpa using c37))
                    clear c37
                    exact absurd ((Option.some.inj H).trans hrt.out) (by decide)
                  · rw [if_neg c37] at H
                    have c37b0 : (t402 != false) = false := by simpa using c37
                    (try (have c37b1 : decide (t402 = false) = true := by simpa using c37))
                    (try (have c37b2 : (t402 == false) = true := by simpa using c37))
                    clear c37
                    by_cases c38 : (t402 != (t406.toList == a0.toList)) = true
                    · rw [if_pos c38] at H
                      have c38b0 : (t402 != (t406.toList == a0.toList)) = true := c38
                      (try (have c38b1 : decide (t402 = (t406.toList == a0.toList)) = false := by simpa using c38))
                      (try (have c38b2 : (t402 == (t406.toList == a0.toList)) = false := by simpa using c38))
                      (try (have c38b3 : ¬ (t402 = (t406.toList == a0.toList)) := by simpa using c38))
                      clear c38
                      exact absurd ((Option.some.inj H).trans hrt.out) (by decide)
                    · rw [if_neg c38] at H
                      have c38b0 : (t402 != (t406.toList == a0.toList)) = false := by simpa using c38
                      (try (have c38b1 : decide (t402 = (t406.toList == a0.toList)) = true := by simpa using c38))
                      (try (have c38b2 : (t402 == (t406.toList == a0.toList)) = true := by simpa using c38))
                      clear c38
                      have H' := ak H
                      clear H
                      go_wp2
                      go_meet
                      case rel => exact ⟨_, ((t402 != (t408.toList == ([] : List UInt8)))), (by first | rfl | (simp; done) | (simp [*]; done) | (cases t402 <;> simp)), H', ⟨by have := HJ3.out; first | omega | exact Nat.le_refl _⟩, ⟨by repeat (first | (with_reducible first | exact HB.out | apply wA | apply wN | apply wD) | exact HB.out)⟩⟩
              · rw [if_neg c33] at H
                have c33b0 : (t409 == 0) = false := beq_eq_false_iff_ne.mpr c33
                have c33b1 : (t409 != 0) = true := bne_iff_ne.mpr c33
                exact absurd ((Option.some.inj H).trans hrt.out) (by decide)
            · rw [if_neg c32] at H
              have c32b0 : (t407 == 0) = false := beq_eq_false_iff_ne.mpr c32
              have c32b1 : (t407 != 0) = true := bne_iff_ne.mpr c32
              exact absurd ((Option.some.inj H).trans hrt.out) (by decide)
          · rw [if_neg c31] at H
            have c31b0 : (t403 == 0) = false := beq_eq_false_iff_ne.mpr c31
            have c31b1 : (t403 != 0) = true := bne_iff_ne.mpr c31
            (first | rw [c31b0] | (simp only [i64_w, i32_w]; rw [c31b0]) | skip)
            exact absurd ((Option.some.inj H).trans hrt.out) (by decide)
        case rest =>
          as_aux_lemma =>
          clear HC26
          try clear c1
          try clear c2
          try clear p2
          try clear c3
          try clear c5
          try clear c5b0
          try clear c5b1
          try clear c6
          try clear c6b0
          try clear c6b1
          try clear c7
          try clear c7b0
          try clear c7b1
          try clear c8
          try clear c9
          try clear c9b0
          try clear c9b1
          try clear c10
          try clear c11
          try clear c11b0
          try clear c11b1
          try clear c19
          try clear c26
          try clear c27
          try clear c30
          try clear c31
          try clear c31b0
          try clear c31b1
          try clear c32
          try clear c32b0
          try clear c32b1
          try clear c33
          try clear c33b0
          try clear c33b1
          try clear c34
          try clear c34b0
          try clear c34b1
          try clear c35
          try clear c35b0
          try clear c35b1
          try clear c35b2
          try clear c36
          try clear c36b0
          try clear c36b1
          try clear c36b2
          try clear c37
          try clear c37b0
          try clear c37b1
          try clear c37b2
          try clear c38
          try clear c38b0
          try clear c38b1
          try clear c38b2
          try clear p2
          obtain ⟨kq, x107_25, rfl, HA, HJ25, HB⟩ := hcut
          cases kq with
          | zero => exact absurd HA.out (by simp [mummerlaw09_ScopesSubsets.j1])
          | succ kj25 =>
            have H := HA.out
            clear HA
            simp only [mummerlaw09_ScopesSubsets.j1] at H
            by_cases c39 : x107_25 = true
            · subst c39
              have H1 : (some false) = some r := by rw [if_pos rfl] at H; exact H
              clear H
              have H := H1
              clear H1
              exact absurd ((Option.some.inj H).trans hrt.out) (by decide)
            · replace c39 := Bool.eq_false_iff.mpr c39
              subst c39
              have H1 : ((scopes_Union.f kj25 t408 t406).bind fun bt410 => ((scopes_Meet.f kj25 t408 a1).bind fun bt412 => (if bt410.2 = 0 then (if bt412.2 = 0 then (if bt410.1.toList = a0.toList then (if bt412.1.toList = ([] : List UInt8) then ((scopes_Sub.f kj25 a1 a2).bind fun bt414 => ((scopes_Sub.f kj25 a0 a2).bind fun bt416 => ((scopes_Sub.f kj25 a1 a0).bind fun bt418 => ((scopes_Relate.f kj25 a0 a1).bind fun bt420 => (if bt414.2 = 0 then (if bt416.2 = 0 then (if bt418.2 = 0 then (if bt420.2 = 0 then (if t402 = true then (if bt414.1 = true then (if bt416.1 = true then (if bt418.1 = true then (if a0.toList = a1.toList then (if ((bt420.1 == 0) == bt418.1) = true then (if ((bt420.1 == 1) == (!bt418.1)) = true then (if ((bt420.1 == 2) == false) = true then (if ((bt420.1 == 3) == false) = true then ((mummerlaw09_awake.f kj25).bind fun t422 => (some t422)) else (some false)) else (some false)) else (some false)) else (some false)) else (some false)) else (if ((bt420.1 == 0) == bt418.1) = true then (if ((bt420.1 == 1) == (!bt418.1)) = true then (if ((bt420.1 == 2) == false) = true then (if ((bt420.1 == 3) == false) = true then ((mummerlaw09_awake.f kj25).bind fun t423 => (some t423)) else (some false)) else (some false)) else (some false)) else (some false))) else (some false)) else (if bt418.1 = true then (if a0.toList = a1.toList then (if ((bt420.1 == 0) == bt418.1) = true then (if ((bt420.1 == 1) == (!bt418.1)) = true then (if ((bt420.1 == 2) == false) = true then (if ((bt420.1 == 3) == false) = true then ((mummerlaw09_awake.f kj25).bind fun t424 => (some t424)) else (some false)) else (some false)) else (some false)) else (some false)) else (some false)) else (if ((bt420.1 == 0) == bt418.1) = true then (if ((bt420.1 == 1) == (!bt418.1)) = true then (if ((bt420.1 == 2) == false) = true then (if ((bt420.1 == 3) == false) = true then ((mummerlaw09_awake.f kj25).bind fun t425 => (some t425)) else (some false)) else (some false)) else (some false)) else (some false)))) else (if ((bt420.1 == 0) == false) = true then (if ((bt420.1 == 1) == false) = true then (if ((bt420.1 == 2) == bt418.1) = true then (if ((bt420.1 == 3) == (!bt418.1)) = true then ((mummerlaw09_awake.f kj25).bind fun t426 => (some t426)) else (some false)) else (some false)) else (some false)) else (some false))) else (some false)) else (some false)) else (some false)) else (some false)))))) else (some false)) else (some false)) else (some false)) else (some false)))) = some r := by rw [if_neg (show ¬ (false = true) by decide)] at H; exact H
              clear H
              have H := H1
              clear H1
              replace H := Option.bind_eq_some_iff.mp H
              obtain ⟨⟨t410, t411⟩, A400, H⟩ := H
              replace H : ((scopes_Meet.f kj25 t408 a1).bind fun bt412 => (if t411 = 0 then (if bt412.2 = 0 then (if t410.toList = a0.toList then (if bt412.1.toList = ([] : List UInt8) then ((scopes_Sub.f kj25 a1 a2).bind fun bt414 => ((scopes_Sub.f kj25 a0 a2).bind fun bt416 => ((scopes_Sub.f kj25 a1 a0).bind fun bt418 => ((scopes_Relate.f kj25 a0 a1).bind fun bt420 => (if bt414.2 = 0 then (if bt416.2 = 0 then (if bt418.2 = 0 then (if bt420.2 = 0 then (if t402 = true then (if bt414.1 = true then (if bt416.1 = true then (if bt418.1 = true then (if a0.toList = a1.toList then (if ((bt420.1 == 0) == bt418.1) = true then (if ((bt420.1 == 1) == (!bt418.1)) = true then (if ((bt420.1 == 2) == false) = true then (if ((bt420.1 == 3) == false) = true then ((mummerlaw09_awake.f kj25).bind fun t422 => (some t422)) else (some false)) else (some false)) else (some false)) else (some false)) else (some false)) else (if ((bt420.1 == 0) == bt418.1) = true then (if ((bt420.1 == 1) == (!bt418.1)) = true then (if ((bt420.1 == 2) == false) = true then (if ((bt420.1 == 3) == false) = true then ((mummerlaw09_awake.f kj25).bind fun t423 => (some t423)) else (some false)) else (some false)) else (some false)) else (some false))) else (some false)) else (if bt418.1 = true then (if a0.toList = a1.toList then (if ((bt420.1 == 0) == bt418.1) = true then (if ((bt420.1 == 1) == (!bt418.1)) = true then (if ((bt420.1 == 2) == false) = true then (if ((bt420.1 == 3) == false) = true then ((mummerlaw09_awake.f kj25).bind fun t424 => (some t424)) else (some false)) else (some false)) else (some false)) else (some false)) else (some false)) else (if ((bt420.1 == 0) == bt418.1) = true then (if ((bt420.1 == 1) == (!bt418.1)) = true then (if ((bt420.1 == 2) == false) = true then (if ((bt420.1 == 3) == false) = true then ((mummerlaw09_awake.f kj25).bind fun t425 => (some t425)) else (some false)) else (some false)) else (some false)) else (some false)))) else (if ((bt420.1 == 0) == false) = true then (if ((bt420.1 == 1) == false) = true then (if ((bt420.1 == 2) == bt418.1) = true then (if ((bt420.1 == 3) == (!bt418.1)) = true then ((mummerlaw09_awake.f kj25).bind fun t426 => (some t426)) else (some false)) else (some false)) else (some false)) else (some false))) else (some false)) else (some false)) else (some false)) else (some false)))))) else (some false)) else (some false)) else (some false)) else (some false))) = some r := H
              have A40 := ak A400
              clear A400
              replace H := Option.bind_eq_some_iff.mp H
              obtain ⟨⟨t412, t413⟩, A410, H⟩ := H
              replace H : (if t411 = 0 then (if t413 = 0 then (if t410.toList = a0.toList then (if t412.toList = ([] : List UInt8) then ((scopes_Sub.f kj25 a1 a2).bind fun bt414 => ((scopes_Sub.f kj25 a0 a2).bind fun bt416 => ((scopes_Sub.f kj25 a1 a0).bind fun bt418 => ((scopes_Relate.f kj25 a0 a1).bind fun bt420 => (if bt414.2 = 0 then (if bt416.2 = 0 then (if bt418.2 = 0 then (if bt420.2 = 0 then (if t402 = true then (if bt414.1 = true then (if bt416.1 = true then (if bt418.1 = true then (if a0.toList = a1.toList then (if ((bt420.1 == 0) == bt418.1) = true then (if ((bt420.1 == 1) == (!bt418.1)) = true then (if ((bt420.1 == 2) == false) = true then (if ((bt420.1 == 3) == false) = true then ((mummerlaw09_awake.f kj25).bind fun t422 => (some t422)) else (some false)) else (some false)) else (some false)) else (some false)) else (some false)) else (if ((bt420.1 == 0) == bt418.1) = true then (if ((bt420.1 == 1) == (!bt418.1)) = true then (if ((bt420.1 == 2) == false) = true then (if ((bt420.1 == 3) == false) = true then ((mummerlaw09_awake.f kj25).bind fun t423 => (some t423)) else (some false)) else (some false)) else (some false)) else (some false))) else (some false)) else (if bt418.1 = true then (if a0.toList = a1.toList then (if ((bt420.1 == 0) == bt418.1) = true then (if ((bt420.1 == 1) == (!bt418.1)) = true then (if ((bt420.1 == 2) == false) = true then (if ((bt420.1 == 3) == false) = true then ((mummerlaw09_awake.f kj25).bind fun t424 => (some t424)) else (some false)) else (some false)) else (some false)) else (some false)) else (some false)) else (if ((bt420.1 == 0) == bt418.1) = true then (if ((bt420.1 == 1) == (!bt418.1)) = true then (if ((bt420.1 == 2) == false) = true then (if ((bt420.1 == 3) == false) = true then ((mummerlaw09_awake.f kj25).bind fun t425 => (some t425)) else (some false)) else (some false)) else (some false)) else (some false)))) else (if ((bt420.1 == 0) == false) = true then (if ((bt420.1 == 1) == false) = true then (if ((bt420.1 == 2) == bt418.1) = true then (if ((bt420.1 == 3) == (!bt418.1)) = true then ((mummerlaw09_awake.f kj25).bind fun t426 => (some t426)) else (some false)) else (some false)) else (some false)) else (some false))) else (some false)) else (some false)) else (some false)) else (some false)))))) else (some false)) else (some false)) else (some false)) else (some false)) = some r := H
              have A41 := ak A410
              clear A410
              by_cases c42 : t411 = 0
              · rw [if_pos c42] at H
                have c42b0 : (t411 == 0) = true := beq_iff_eq.mpr c42
                have c42b1 : (t411 != 0) = false := bne_eq_false_iff_eq.mpr c42
                clear c42
                by_cases c43 : t413 = 0
                · rw [if_pos c43] at H
                  have c43b0 : (t413 == 0) = true := beq_iff_eq.mpr c43
                  have c43b1 : (t413 != 0) = false := bne_eq_false_iff_eq.mpr c43
                  clear c43
                  by_cases c44 : t410.toList = a0.toList
                  · rw [if_pos c44] at H
                    have c44b0 : (t410.toList == a0.toList) = true := beq_iff_eq.mpr c44
                    have c44b1 : (t410.toList != a0.toList) = false := bne_eq_false_iff_eq.mpr c44
                    clear c44
                    by_cases c45 : t412.toList = ([] : List UInt8)
                    · rw [if_pos c45] at H
                      have c45b0 : (t412.toList == ([] : List UInt8)) = true := beq_iff_eq.mpr c45
                      have c45b1 : (t412.toList != ([] : List UInt8)) = false := bne_eq_false_iff_eq.mpr c45
                      clear c45
                      replace H := Option.bind_eq_some_iff.mp H
                      obtain ⟨⟨t414, t415⟩, A460, H⟩ := H
                      replace H : ((scopes_Sub.f kj25 a0 a2).bind fun bt416 => ((scopes_Sub.f kj25 a1 a0).bind fun bt418 => ((scopes_Relate.f kj25 a0 a1).bind fun bt420 => (if t415 = 0 then (if bt416.2 = 0 then (if bt418.2 = 0 then (if bt420.2 = 0 then (if t402 = true then (if t414 = true then (if bt416.1 = true then (if bt418.1 = true then (if a0.toList = a1.toList then (if ((bt420.1 == 0) == bt418.1) = true then (if ((bt420.1 == 1) == (!bt418.1)) = true then (if ((bt420.1 == 2) == false) = true then (if ((bt420.1 == 3) == false) = true then ((mummerlaw09_awake.f kj25).bind fun t422 => (some t422)) else (some false)) else (some false)) else (some false)) else (some false)) else (some false)) else (if ((bt420.1 == 0) == bt418.1) = true then (if ((bt420.1 == 1) == (!bt418.1)) = true then (if ((bt420.1 == 2) == false) = true then (if ((bt420.1 == 3) == false) = true then ((mummerlaw09_awake.f kj25).bind fun t423 => (some t423)) else (some false)) else (some false)) else (some false)) else (some false))) else (some false)) else (if bt418.1 = true then (if a0.toList = a1.toList then (if ((bt420.1 == 0) == bt418.1) = true then (if ((bt420.1 == 1) == (!bt418.1)) = true then (if ((bt420.1 == 2) == false) = true then (if ((bt420.1 == 3) == false) = true then ((mummerlaw09_awake.f kj25).bind fun t424 => (some t424)) else (some false)) else (some false)) else (some false)) else (some false)) else (some false)) else (if ((bt420.1 == 0) == bt418.1) = true then (if ((bt420.1 == 1) == (!bt418.1)) = true then (if ((bt420.1 == 2) == false) = true then (if ((bt420.1 == 3) == false) = true then ((mummerlaw09_awake.f kj25).bind fun t425 => (some t425)) else (some false)) else (some false)) else (some false)) else (some false)))) else (if ((bt420.1 == 0) == false) = true then (if ((bt420.1 == 1) == false) = true then (if ((bt420.1 == 2) == bt418.1) = true then (if ((bt420.1 == 3) == (!bt418.1)) = true then ((mummerlaw09_awake.f kj25).bind fun t426 => (some t426)) else (some false)) else (some false)) else (some false)) else (some false))) else (some false)) else (some false)) else (some false)) else (some false))))) = some r := H
                      have A46 := ak A460
                      clear A460
                      replace H := Option.bind_eq_some_iff.mp H
                      obtain ⟨⟨t416, t417⟩, A470, H⟩ := H
                      replace H : ((scopes_Sub.f kj25 a1 a0).bind fun bt418 => ((scopes_Relate.f kj25 a0 a1).bind fun bt420 => (if t415 = 0 then (if t417 = 0 then (if bt418.2 = 0 then (if bt420.2 = 0 then (if t402 = true then (if t414 = true then (if t416 = true then (if bt418.1 = true then (if a0.toList = a1.toList then (if ((bt420.1 == 0) == bt418.1) = true then (if ((bt420.1 == 1) == (!bt418.1)) = true then (if ((bt420.1 == 2) == false) = true then (if ((bt420.1 == 3) == false) = true then ((mummerlaw09_awake.f kj25).bind fun t422 => (some t422)) else (some false)) else (some false)) else (some false)) else (some false)) else (some false)) else (if ((bt420.1 == 0) == bt418.1) = true then (if ((bt420.1 == 1) == (!bt418.1)) = true then (if ((bt420.1 == 2) == false) = true then (if ((bt420.1 == 3) == false) = true then ((mummerlaw09_awake.f kj25).bind fun t423 => (some t423)) else (some false)) else (some false)) else (some false)) else (some false))) else (some false)) else (if bt418.1 = true then (if a0.toList = a1.toList then (if ((bt420.1 == 0) == bt418.1) = true then (if ((bt420.1 == 1) == (!bt418.1)) = true then (if ((bt420.1 == 2) == false) = true then (if ((bt420.1 == 3) == false) = true then ((mummerlaw09_awake.f kj25).bind fun t424 => (some t424)) else (some false)) else (some false)) else (some false)) else (some false)) else (some false)) else (if ((bt420.1 == 0) == bt418.1) = true then (if ((bt420.1 == 1) == (!bt418.1)) = true then (if ((bt420.1 == 2) == false) = true then (if ((bt420.1 == 3) == false) = true then ((mummerlaw09_awake.f kj25).bind fun t425 => (some t425)) else (some false)) else (some false)) else (some false)) else (some false)))) else (if ((bt420.1 == 0) == false) = true then (if ((bt420.1 == 1) == false) = true then (if ((bt420.1 == 2) == bt418.1) = true then (if ((bt420.1 == 3) == (!bt418.1)) = true then ((mummerlaw09_awake.f kj25).bind fun t426 => (some t426)) else (some false)) else (some false)) else (some false)) else (some false))) else (some false)) else (some false)) else (some false)) else (some false)))) = some r := H
                      have A47 := ak A470
                      clear A470
                      replace H := Option.bind_eq_some_iff.mp H
                      obtain ⟨⟨t418, t419⟩, A480, H⟩ := H
                      replace H : ((scopes_Relate.f kj25 a0 a1).bind fun bt420 => (if t415 = 0 then (if t417 = 0 then (if t419 = 0 then (if bt420.2 = 0 then (if t402 = true then (if t414 = true then (if t416 = true then (if t418 = true then (if a0.toList = a1.toList then (if ((bt420.1 == 0) == t418) = true then (if ((bt420.1 == 1) == (!t418)) = true then (if ((bt420.1 == 2) == false) = true then (if ((bt420.1 == 3) == false) = true then ((mummerlaw09_awake.f kj25).bind fun t422 => (some t422)) else (some false)) else (some false)) else (some false)) else (some false)) else (some false)) else (if ((bt420.1 == 0) == t418) = true then (if ((bt420.1 == 1) == (!t418)) = true then (if ((bt420.1 == 2) == false) = true then (if ((bt420.1 == 3) == false) = true then ((mummerlaw09_awake.f kj25).bind fun t423 => (some t423)) else (some false)) else (some false)) else (some false)) else (some false))) else (some false)) else (if t418 = true then (if a0.toList = a1.toList then (if ((bt420.1 == 0) == t418) = true then (if ((bt420.1 == 1) == (!t418)) = true then (if ((bt420.1 == 2) == false) = true then (if ((bt420.1 == 3) == false) = true then ((mummerlaw09_awake.f kj25).bind fun t424 => (some t424)) else (some false)) else (some false)) else (some false)) else (some false)) else (some false)) else (if ((bt420.1 == 0) == t418) = true then (if ((bt420.1 == 1) == (!t418)) = true then (if ((bt420.1 == 2) == false) = true then (if ((bt420.1 == 3) == false) = true then ((mummerlaw09_awake.f kj25).bind fun t425 => (some t425)) else (some false)) else (some false)) else (some false)) else (some false)))) else (if ((bt420.1 == 0) == false) = true then (if ((bt420.1 == 1) == false) = true then (if ((bt420.1 == 2) == t418) = true then (if ((bt420.1 == 3) == (!t418)) = true then ((mummerlaw09_awake.f kj25).bind fun t426 => (some t426)) else (some false)) else (some false)) else (some false)) else (some false))) else (some false)) else (some false)) else (some false)) else (some false))) = some r := H
                      have A48 := ak A480
                      clear A480
                      replace H := Option.bind_eq_some_iff.mp H
                      obtain ⟨⟨t420, t421⟩, A490, H⟩ := H
                      replace H : (if t415 = 0 then (if t417 = 0 then (if t419 = 0 then (if t421 = 0 then (if t402 = true then (if t414 = true then (if t416 = true then (if t418 = true then (if a0.toList = a1.toList then (if ((t420 == 0) == t418) = true then (if ((t420 == 1) == (!t418)) = true then (if ((t420 == 2) == false) = true then (if ((t420 == 3) == false) = true then ((mummerlaw09_awake.f kj25).bind fun t422 => (some t422)) else (some false)) else (some false)) else (some false)) else (some false)) else (some false)) else (if ((t420 == 0) == t418) = true then (if ((t420 == 1) == (!t418)) = true then (if ((t420 == 2) == false) = true then (if ((t420 == 3) == false) = true then ((mummerlaw09_awake.f kj25).bind fun t423 => (some t423)) else (some false)) else (some false)) else (some false)) else (some false))) else (some false)) else (if t418 = true then (if a0.toList = a1.toList then (if ((t420 == 0) == t418) = true then (if ((t420 == 1) == (!t418)) = true then (if ((t420 == 2) == false) = true then (if ((t420 == 3) == false) = true then ((mummerlaw09_awake.f kj25).bind fun t424 => (some t424)) else (some false)) else (some false)) else (some false)) else (some false)) else (some false)) else (if ((t420 == 0) == t418) = true then (if ((t420 == 1) == (!t418)) = true then (if ((t420 == 2) == false) = true then (if ((t420 == 3) == false) = true then ((mummerlaw09_awake.f kj25).bind fun t425 => (some t425)) else (some false)) else (some false)) else (some false)) else (some false)))) else (if ((t420 == 0) == false) = true then (if ((t420 == 1) == false) = true then (if ((t420 == 2) == t418) = true then (if ((t420 == 3) == (!t418)) = true then ((mummerlaw09_awake.f kj25).bind fun t426 => (some t426)) else (some false)) else (some false)) else (some false)) else (some false))) else (some false)) else (some false)) else (some false)) else (some false)) = some r := H
                      have A49 := ak A490
                      clear A490
                      by_cases c50 : t415 = 0
                      · rw [if_pos c50] at H
                        have c50b0 : (t415 == 0) = true := beq_iff_eq.mpr c50
                        have c50b1 : (t415 != 0) = false := bne_eq_false_iff_eq.mpr c50
                        clear c50
                        by_cases c51 : t417 = 0
                        · rw [if_pos c51] at H
                          have c51b0 : (t417 == 0) = true := beq_iff_eq.mpr c51
                          have c51b1 : (t417 != 0) = false := bne_eq_false_iff_eq.mpr c51
                          clear c51
                          by_cases c52 : t419 = 0
                          · rw [if_pos c52] at H
                            have c52b0 : (t419 == 0) = true := beq_iff_eq.mpr c52
                            have c52b1 : (t419 != 0) = false := bne_eq_false_iff_eq.mpr c52
                            clear c52
                            by_cases c53 : t421 = 0
                            · rw [if_pos c53] at H
                              have c53b0 : (t421 == 0) = true := beq_iff_eq.mpr c53
                              have c53b1 : (t421 != 0) = false := bne_eq_false_iff_eq.mpr c53
                              clear c53
                              by_cases c54 : t402 = true
                              · subst c54
                                have H1 : (if t414 = true then (if t416 = true then (if t418 = true then (if a0.toList = a1.toList then (if ((t420 == 0) == t418) = true then (if ((t420 == 1) == (!t418)) = true then (if ((t420 == 2) == false) = true then (if ((t420 == 3) == false) = true then ((mummerlaw09_awake.f kj25).bind fun t422 => (some t422)) else (some false)) else (some false)) else (some false)) else (some false)) else (some false)) else (if ((t420 == 0) == t418) = true then (if ((t420 == 1) == (!t418)) = true then (if ((t420 == 2) == false) = true then (if ((t420 == 3) == false) = true then ((mummerlaw09_awake.f kj25).bind fun t423 => (some t423)) else (some false)) else (some false)) else (some false)) else (some false))) else (some false)) else (if t418 = true then (if a0.toList = a1.toList then (if ((t420 == 0) == t418) = true then (if ((t420 == 1) == (!t418)) = true then (if ((t420 == 2) == false) = true then (if ((t420 == 3) == false) = true then ((mummerlaw09_awake.f kj25).bind fun t424 => (some t424)) else (some false)) else (some false)) else (some false)) else (some false)) else (some false)) else (if ((t420 == 0) == t418) = true then (if ((t420 == 1) == (!t418)) = true then (if ((t420 == 2) == false) = true then (if ((t420 == 3) == false) = true then ((mummerlaw09_awake.f kj25).bind fun t425 => (some t425)) else (some false)) else (some false)) else (some false)) else (some false)))) = some r := by rw [if_pos rfl] at H; exact H
                                clear H
                                have H := H1
                                clear H1
                                by_cases c55 : t414 = true
                                · subst c55
                                  have H1 : (if t416 = true then (if t418 = true then (if a0.toList = a1.toList then (if ((t420 == 0) == t418) = true then (if ((t420 == 1) == (!t418)) = true then (if ((t420 == 2) == false) = true then (if ((t420 == 3) == false) = true then ((mummerlaw09_awake.f kj25).bind fun t422 => (some t422)) else (some false)) else (some false)) else (some false)) else (some false)) else (some false)) else (if ((t420 == 0) == t418) = true then (if ((t420 == 1) == (!t418)) = true then (if ((t420 == 2) == false) = true then (if ((t420 == 3) == false) = true then ((mummerlaw09_awake.f kj25).bind fun t423 => (some t423)) else (some false)) else (some false)) else (some false)) else (some false))) else (some false)) = some r := by rw [if_pos rfl] at H; exact H
                                  clear H
                                  have H := H1
                                  clear H1
                                  by_cases c56 : t416 = true
                                  · subst c56
                                    have H1 : (if t418 = true then (if a0.toList = a1.toList then (if ((t420 == 0) == t418) = true then (if ((t420 == 1) == (!t418)) = true then (if ((t420 == 2) == false) = true then (if ((t420 == 3) == false) = true then ((mummerlaw09_awake.f kj25).bind fun t422 => (some t422)) else (some false)) else (some false)) else (some false)) else (some false)) else (some false)) else (if ((t420 == 0) == t418) = true then (if ((t420 == 1) == (!t418)) = true then (if ((t420 == 2) == false) = true then (if ((t420 == 3) == false) = true then ((mummerlaw09_awake.f kj25).bind fun t423 => (some t423)) else (some false)) else (some false)) else (some false)) else (some false))) = some r := by rw [if_pos rfl] at H; exact H
                                    clear H
                                    have H := H1
                                    clear H1
                                    by_cases c57 : t418 = true
                                    · subst c57
                                      have H1 : (if a0.toList = a1.toList then (if ((t420 == 0) == true) = true then (if ((t420 == 1) == (!true)) = true then (if ((t420 == 2) == false) = true then (if ((t420 == 3) == false) = true then ((mummerlaw09_awake.f kj25).bind fun t422 => (some t422)) else (some false)) else (some false)) else (some false)) else (some false)) else (some false)) = some r := by rw [if_pos rfl] at H; exact H
                                      clear H
                                      have H := H1
                                      clear H1
                                      by_cases c58 : a0.toList = a1.toList
                                      · rw [if_pos c58] at H
                                        have c58b0 : (a0.toList == a1.toList) = true := beq_iff_eq.mpr c58
                                        have c58b1 : (a0.toList != a1.toList) = false := bne_eq_false_iff_eq.mpr c58
                                        clear c58
                                        by_cases c59 : ((t420 == 0) == true) = true
                                        · rw [if_pos c59] at H
                                          have c59b0 : ((t420 == 0) == true) = true := c59
                                          (try (have c59b4 : (t420 == 0) = true := by simpa using c59))
                                          (try (have c59b5 : decide (t420 = 0) = true := by simpa using c59))
                                          (try (have c59b1 : decide ((t420 == 0) = true) = true := by simpa using c59))
                                          (try (have c59b2 : ((t420 == 0) == true) = true := by simpa using c59))
                                          clear c59
                                          by_cases c60 : ((t420 == 1) == (!true)) = true
                                          · rw [if_pos c60] at H
                                            have c60b0 : ((t420 == 1) == (!true)) = true := c60
                                            (try (have c60b4 : (t420 == 1) = (!true) := by simpa using c60))
                                            (try (have c60b5 : decide (t420 = 1) = (!true) := by simpa using c60))
                                            (try (have c60b1 : decide ((t420 == 1) = (!true)) = true := by simpa using c60))
                                            (try (have c60b2 : ((t420 == 1) == (!true)) = true := by simpa using c60))
                                            clear c60
                                            by_cases c61 : ((t420 == 2) == false) = true
                                            · rw [if_pos c61] at H
                                              have c61b0 : ((t420 == 2) == false) = true := c61
                                              (try (have c61b4 : (t420 == 2) = false := by simpa using c61))
                                              (try (have c61b5 : decide (t420 = 2) = false := by simpa using c61))
                                              (try (have c61b1 : decide ((t420 == 2) = false) = true := by simpa using c61))
                                              (try (have c61b2 : ((t420 == 2) == false) = true := by simpa using c61))
                                              clear c61
                                              by_cases c62 : ((t420 == 3) == false) = true
                                              · rw [if_pos c62] at H
                                                have c62b0 : ((t420 == 3) == false) = true := c62
                                                (try (have c62b4 : (t420 == 3) = false := by simpa using c62))
                                                (try (have c62b5 : decide (t420 = 3) = false := by simpa using c62))
                                                (try (have c62b1 : decide ((t420 == 3) = false) = true := by simpa using c62))
                                                (try (have c62b2 : ((t420 == 3) == false) = true := by simpa using c62))
                                                clear c62
                                                replace H := Option.bind_eq_some_iff.mp H
                                                obtain ⟨t422, A630, H⟩ := H
                                                replace H : (some t422) = some r := H
                                                have A63 := ak A630
                                                clear A630
                                                obtain rfl := Option.some.inj H
                                                go_wp2_with (first | ((with_reducible refine gate_callee (f := 26) rfl ?_); refine goesL_ (some 111) rfl rfl Tryd.func26 (by kernel_rfl) rfl #[.string t408, .string t406] rfl (by (try simp only [List.map_toArray, List.map_cons, List.map_nil]); first | done | rfl | (simp only [List.length_drop, List.length_take]; rfl)) ?_; (with_reducible refine (scopes_Union.calls kj25 t408 t406 t410 t411 _ A40.out).mono ?_); rintro e w64 ⟨rfl, hb⟩; refine ⟨_, rfl, ?_⟩; have n0_ := ak (below_step (by repeat (first | (with_reducible first | exact HB.out | apply wA | apply wN | apply wD) | exact HB.out)) hb); clear HB; have HB := n0_; clear n0_; (try clear hb); (try clear hb2); (try clear hk); (try clear hi)) | ((with_reducible refine gate_callee (f := 27) rfl ?_); refine goesL_ (some 117) rfl rfl Tryd.func27 (by kernel_rfl) rfl #[.string t408, .string a1] rfl (by (try simp only [List.map_toArray, List.map_cons, List.map_nil]); first | done | rfl | (simp only [List.length_drop, List.length_take]; rfl)) ?_; (with_reducible refine (scopes_Meet.calls kj25 t408 a1 t412 t413 _ A41.out).mono ?_); rintro e w65 ⟨rfl, hb⟩; refine ⟨_, rfl, ?_⟩; have n0_ := ak (below_step (by repeat (first | (with_reducible first | exact HB.out | apply wA | apply wN | apply wD) | exact HB.out)) hb); clear HB; have HB := n0_; clear n0_; (try clear hb); (try clear hb2); (try clear hk); (try clear hi)) | ((with_reducible refine gate_callee (f := 32) rfl ?_); refine goesL_ (some 138) rfl rfl Tryd.func32 (by kernel_rfl) rfl #[.string a1, .string a2] rfl (by (try simp only [List.map_toArray, List.map_cons, List.map_nil]); first | done | rfl | (simp only [List.length_drop, List.length_take]; rfl)) ?_; (with_reducible refine (scopes_Sub.calls kj25 a1 a2 true t415 _ A46.out).mono ?_); rintro e w66 ⟨rfl, hb⟩; refine ⟨_, rfl, ?_⟩; have n0_ := ak (below_step (by repeat (first | (with_reducible first | exact HB.out | apply wA | apply wN | apply wD) | exact HB.out)) hb); clear HB; have HB := n0_; clear n0_; (try clear hb); (try clear hb2); (try clear hk); (try clear hi)) | ((with_reducible refine gate_callee (f := 32) rfl ?_); refine goesL_ (some 144) rfl rfl Tryd.func32 (by kernel_rfl) rfl #[.string a0, .string a2] rfl (by (try simp only [List.map_toArray, List.map_cons, List.map_nil]); first | done | rfl | (simp only [List.length_drop, List.length_take]; rfl)) ?_; (with_reducible refine (scopes_Sub.calls kj25 a0 a2 true t417 _ A47.out).mono ?_); rintro e w67 ⟨rfl, hb⟩; refine ⟨_, rfl, ?_⟩; have n0_ := ak (below_step (by repeat (first | (with_reducible first | exact HB.out | apply wA | apply wN | apply wD) | exact HB.out)) hb); clear HB; have HB := n0_; clear n0_; (try clear hb); (try clear hb2); (try clear hk); (try clear hi)) | ((with_reducible refine gate_callee (f := 32) rfl ?_); refine goesL_ (some 150) rfl rfl Tryd.func32 (by kernel_rfl) rfl #[.string a1, .string a0] rfl (by (try simp only [List.map_toArray, List.map_cons, List.map_nil]); first | done | rfl | (simp only [List.length_drop, List.length_take]; rfl)) ?_; (with_reducible refine (scopes_Sub.calls kj25 a1 a0 true t419 _ A48.out).mono ?_); rintro e w68 ⟨rfl, hb⟩; refine ⟨_, rfl, ?_⟩; have n0_ := ak (below_step (by repeat (first | (with_reducible first | exact HB.out | apply wA | apply wN | apply wD) | exact HB.out)) hb); clear HB; have HB := n0_; clear n0_; (try clear hb); (try clear hb2); (try clear hk); (try clear hi)) | ((with_reducible refine gate_callee (f := 34) rfl ?_); refine goesL_ (some 156) rfl rfl Tryd.func34 (by kernel_rfl) rfl #[.string a0, .string a1] rfl (by (try simp only [List.map_toArray, List.map_cons, List.map_nil]); first | done | rfl | (simp only [List.length_drop, List.length_take]; rfl)) ?_; (with_reducible refine (scopes_Relate.calls kj25 a0 a1 t420 t421 _ A49.out).mono ?_); rintro e w69 ⟨rfl, hb⟩; refine ⟨_, rfl, ?_⟩; have n0_ := ak (below_step (by repeat (first | (with_reducible first | exact HB.out | apply wA | apply wN | apply wD) | exact HB.out)) hb); clear HB; have HB := n0_; clear n0_; (try clear hb); (try clear hb2); (try clear hk); (try clear hi)) | (go_at_call 10; (with_reducible refine (mummerlaw09_awake.calls kj25  t422 _ hrt A63.out ⟨Sc.Tab.stay HT.out (by repeat (first | (with_reducible first | exact HB.out | apply wA | apply wN | apply wD) | exact HB.out | (refine below_set ?_ (by assumption))))⟩).mono ?_); rintro e w70 ⟨rfl, hb⟩; have n0_ := ak (below_step (by repeat (first | (with_reducible first | exact HB.out | apply wA | apply wN | apply wD) | exact HB.out)) hb); clear HB; have HB := n0_; clear n0_; (try clear hb); (try clear hb2); (try clear hk); (try clear hi)))
                                                go_ret
                                                exact ⟨by first | rfl | (simp [errW_none, errW_some] <;> rfl) | (simp [*, errW_none, errW_some] <;> rfl), by repeat (first | (with_reducible first | exact HB.out | apply wA | apply wN | apply wD) | exact HB.out)⟩
                                              · rw [if_neg c62] at H
                                                have c62b0 : ((t420 == 3) == false) = false := by simpa using c62
                                                (try (have c62b1 : decide ((t420 == 3) = false) = false := by simpa using c62))
                                                (try (have c62b2 : ((t420 == 3) == false) = false := by simpa using c62))
                                                (try (have c62b3 : ¬ ((t420 == 3) = false) := by simpa using c62))
                                                clear c62
                                                exact absurd ((Option.some.inj H).trans hrt.out) (by decide)
                                            · rw [if_neg c61] at H
                                              have c61b0 : ((t420 == 2) == false) = false := by simpa using c61
                                              (try (have c61b1 : decide ((t420 == 2) = false) = false := by simpa using c61))
                                              (try (have c61b2 : ((t420 == 2) == false) = false := by simpa using c61))
                                              (try (have c61b3 : ¬ ((t420 == 2) = false) := by simpa using c61))
                                              clear c61
                                              exact absurd ((Option.some.inj H).trans hrt.out) (by decide)
                                          · rw [if_neg c60] at H
                                            have c60b0 : ((t420 == 1) == (!true)) = false := by simpa using c60
                                            (try (have c60b1 : decide ((t420 == 1) = (!true)) = false := by simpa using c60))
                                            (try (have c60b2 : ((t420 == 1) == (!true)) = false := by simpa using c60))
                                            (try (have c60b3 : ¬ ((t420 == 1) = (!true)) := by simpa using c60))
                                            clear c60
                                            exact absurd ((Option.some.inj H).trans hrt.out) (by decide)
                                        · rw [if_neg c59] at H
                                          have c59b0 : ((t420 == 0) == true) = false := by simpa using c59
                                          (try (have c59b1 : decide ((t420 == 0) = true) = false := by simpa using c59))
                                          (try (have c59b2 : ((t420 == 0) == true) = false := by simpa using c59))
                                          (try (have c59b3 : ¬ ((t420 == 0) = true) := by simpa using c59))
                                          clear c59
                                          exact absurd ((Option.some.inj H).trans hrt.out) (by decide)
                                      · rw [if_neg c58] at H
                                        have c58b0 : (a0.toList == a1.toList) = false := beq_eq_false_iff_ne.mpr c58
                                        have c58b1 : (a0.toList != a1.toList) = true := bne_iff_ne.mpr c58
                                        exact absurd ((Option.some.inj H).trans hrt.out) (by decide)
                                    · replace c57 := Bool.eq_false_iff.mpr c57
                                      subst c57
                                      have H1 : (if ((t420 == 0) == false) = true then (if ((t420 == 1) == (!false)) = true then (if ((t420 == 2) == false) = true then (if ((t420 == 3) == false) = true then ((mummerlaw09_awake.f kj25).bind fun t423 => (some t423)) else (some false)) else (some false)) else (some false)) else (some false)) = some r := by rw [if_neg (show ¬ (false = true) by decide)] at H; exact H
                                      clear H
                                      have H := H1
                                      clear H1
                                      by_cases c71 : ((t420 == 0) == false) = true
                                      · rw [if_pos c71] at H
                                        have c71b0 : ((t420 == 0) == false) = true := c71
                                        (try (have c71b4 : (t420 == 0) = false := by simpa using c71))
                                        (try (have c71b5 : decide (t420 = 0) = false := by simpa using c71))
                                        (try (have c71b1 : decide ((t420 == 0) = false) = true := by simpa using c71))
                                        (try (have c71b2 : ((t420 == 0) == false) = true := by simpa using c71))
                                        clear c71
                                        by_cases c72 : ((t420 == 1) == (!false)) = true
                                        · rw [if_pos c72] at H
                                          have c72b0 : ((t420 == 1) == (!false)) = true := c72
                                          (try (have c72b4 : (t420 == 1) = (!false) := by simpa using c72))
                                          (try (have c72b5 : decide (t420 = 1) = (!false) := by simpa using c72))
                                          (try (have c72b1 : decide ((t420 == 1) = (!false)) = true := by simpa using c72))
                                          (try (have c72b2 : ((t420 == 1) == (!false)) = true := by simpa using c72))
                                          clear c72
                                          by_cases c73 : ((t420 == 2) == false) = true
                                          · rw [if_pos c73] at H
                                            have c73b0 : ((t420 == 2) == false) = true := c73
                                            (try (have c73b4 : (t420 == 2) = false := by simpa using c73))
                                            (try (have c73b5 : decide (t420 = 2) = false := by simpa using c73))
                                            (try (have c73b1 : decide ((t420 == 2) = false) = true := by simpa using c73))
                                            (try (have c73b2 : ((t420 == 2) == false) = true := by simpa using c73))
                                            clear c73
                                            by_cases c74 : ((t420 == 3) == false) = true
                                            · rw [if_pos c74] at H
                                              have c74b0 : ((t420 == 3) == false) = true := c74
                                              (try (have c74b4 : (t420 == 3) = false := by simpa using c74))
                                              (try (have c74b5 : decide (t420 = 3) = false := by simpa using c74))
                                              (try (have c74b1 : decide ((t420 == 3) = false) = true := by simpa using c74))
                                              (try (have c74b2 : ((t420 == 3) == false) = true := by simpa using c74))
                                              clear c74
                                              replace H := Option.bind_eq_some_iff.mp H
                                              obtain ⟨t423, A750, H⟩ := H
                                              replace H : (some t423) = some r := H
                                              have A75 := ak A750
                                              clear A750
                                              obtain rfl := Option.some.inj H
                                              go_wp2_with (first | ((with_reducible refine gate_callee (f := 26) rfl ?_); refine goesL_ (some 111) rfl rfl Tryd.func26 (by kernel_rfl) rfl #[.string t408, .string t406] rfl (by (try simp only [List.map_toArray, List.map_cons, List.map_nil]); first | done | rfl | (simp only [List.length_drop, List.length_take]; rfl)) ?_; (with_reducible refine (scopes_Union.calls kj25 t408 t406 t410 t411 _ A40.out).mono ?_); rintro e w76 ⟨rfl, hb⟩; refine ⟨_, rfl, ?_⟩; have n0_ := ak (below_step (by repeat (first | (with_reducible first | exact HB.out | apply wA | apply wN | apply wD) | exact HB.out)) hb); clear HB; have HB := n0_; clear n0_; (try clear hb); (try clear hb2); (try clear hk); (try clear hi)) | ((with_reducible refine gate_callee (f := 27) rfl ?_); refine goesL_ (some 117) rfl rfl Tryd.func27 (by kernel_rfl) rfl #[.string t408, .string a1] rfl (by (try simp only [List.map_toArray, List.map_cons, List.map_nil]); first | done | rfl | (simp only [List.length_drop, List.length_take]; rfl)) ?_; (with_reducible refine (scopes_Meet.calls kj25 t408 a1 t412 t413 _ A41.out).mono ?_); rintro e w77 ⟨rfl, hb⟩; refine ⟨_, rfl, ?_⟩; have n0_ := ak (below_step (by repeat (first | (with_reducible first | exact HB.out | apply wA | apply wN | apply wD) | exact HB.out)) hb); clear HB; have HB := n0_; clear n0_; (try clear hb); (try clear hb2); (try clear hk); (try clear hi)) | ((with_reducible refine gate_callee (f := 32) rfl ?_); refine goesL_ (some 138) rfl rfl Tryd.func32 (by kernel_rfl) rfl #[.string a1, .string a2] rfl (by (try simp only [List.map_toArray, List.map_cons, List.map_nil]); first | done | rfl | (simp only [List.length_drop, List.length_take]; rfl)) ?_; (with_reducible refine (scopes_Sub.calls kj25 a1 a2 true t415 _ A46.out).mono ?_); rintro e w78 ⟨rfl, hb⟩; refine ⟨_, rfl, ?_⟩; have n0_ := ak (below_step (by repeat (first | (with_reducible first | exact HB.out | apply wA | apply wN | apply wD) | exact HB.out)) hb); clear HB; have HB := n0_; clear n0_; (try clear hb); (try clear hb2); (try clear hk); (try clear hi)) | ((with_reducible refine gate_callee (f := 32) rfl ?_); refine goesL_ (some 144) rfl rfl Tryd.func32 (by kernel_rfl) rfl #[.string a0, .string a2] rfl (by (try simp only [List.map_toArray, List.map_cons, List.map_nil]); first | done | rfl | (simp only [List.length_drop, List.length_take]; rfl)) ?_; (with_reducible refine (scopes_Sub.calls kj25 a0 a2 true t417 _ A47.out).mono ?_); rintro e w79 ⟨rfl, hb⟩; refine ⟨_, rfl, ?_⟩; have n0_ := ak (below_step (by repeat (first | (with_reducible first | exact HB.out | apply wA | apply wN | apply wD) | exact HB.out)) hb); clear HB; have HB := n0_; clear n0_; (try clear hb); (try clear hb2); (try clear hk); (try clear hi)) | ((with_reducible refine gate_callee (f := 32) rfl ?_); refine goesL_ (some 150) rfl rfl Tryd.func32 (by kernel_rfl) rfl #[.string a1, .string a0] rfl (by (try simp only [List.map_toArray, List.map_cons, List.map_nil]); first | done | rfl | (simp only [List.length_drop, List.length_take]; rfl)) ?_; (with_reducible refine (scopes_Sub.calls kj25 a1 a0 false t419 _ A48.out).mono ?_); rintro e w80 ⟨rfl, hb⟩; refine ⟨_, rfl, ?_⟩; have n0_ := ak (below_step (by repeat (first | (with_reducible first | exact HB.out | apply wA | apply wN | apply wD) | exact HB.out)) hb); clear HB; have HB := n0_; clear n0_; (try clear hb); (try clear hb2); (try clear hk); (try clear hi)) | ((with_reducible refine gate_callee (f := 34) rfl ?_); refine goesL_ (some 156) rfl rfl Tryd.func34 (by kernel_rfl) rfl #[.string a0, .string a1] rfl (by (try simp only [List.map_toArray, List.map_cons, List.map_nil]); first | done | rfl | (simp only [List.length_drop, List.length_take]; rfl)) ?_; (with_reducible refine (scopes_Relate.calls kj25 a0 a1 t420 t421 _ A49.out).mono ?_); rintro e w81 ⟨rfl, hb⟩; refine ⟨_, rfl, ?_⟩; have n0_ := ak (below_step (by repeat (first | (with_reducible first | exact HB.out | apply wA | apply wN | apply wD) | exact HB.out)) hb); clear HB; have HB := n0_; clear n0_; (try clear hb); (try clear hb2); (try clear hk); (try clear hi)) | (go_at_call 10; (with_reducible refine (mummerlaw09_awake.calls kj25  t423 _ hrt A75.out ⟨Sc.Tab.stay HT.out (by repeat (first | (with_reducible first | exact HB.out | apply wA | apply wN | apply wD) | exact HB.out | (refine below_set ?_ (by assumption))))⟩).mono ?_); rintro e w82 ⟨rfl, hb⟩; have n0_ := ak (below_step (by repeat (first | (with_reducible first | exact HB.out | apply wA | apply wN | apply wD) | exact HB.out)) hb); clear HB; have HB := n0_; clear n0_; (try clear hb); (try clear hb2); (try clear hk); (try clear hi)))
                                              go_ret
                                              exact ⟨by first | rfl | (simp [errW_none, errW_some] <;> rfl) | (simp [*, errW_none, errW_some] <;> rfl), by repeat (first | (with_reducible first | exact HB.out | apply wA | apply wN | apply wD) | exact HB.out)⟩
                                            · rw [if_neg c74] at H
                                              have c74b0 : ((t420 == 3) == false) = false := by simpa using c74
                                              (try (have c74b1 : decide ((t420 == 3) = false) = false := by simpa using c74))
                                              (try (have c74b2 : ((t420 == 3) == false) = false := by simpa using c74))
                                              (try (have c74b3 : ¬ ((t420 == 3) = false) := by simpa using c74))
                                              clear c74
                                              exact absurd ((Option.some.inj H).trans hrt.out) (by decide)
                                          · rw [if_neg c73] at H
                                            have c73b0 : ((t420 == 2) == false) = false := by simpa using c73
                                            (try (have c73b1 : decide ((t420 == 2) = false) = false := by simpa using c73))
                                            (try (have c73b2 : ((t420 == 2) == false) = false := by simpa using c73))
                                            (try (have c73b3 : ¬ ((t420 == 2) = false) := by simpa using c73))
                                            clear c73
                                            exact absurd ((Option.some.inj H).trans hrt.out) (by decide)
                                        · rw [if_neg c72] at H
                                          have c72b0 : ((t420 == 1) == (!false)) = false := by simpa using c72
                                          (try (have c72b1 : decide ((t420 == 1) = (!false)) = false := by simpa using c72))
                                          (try (have c72b2 : ((t420 == 1) == (!false)) = false := by simpa using c72))
                                          (try (have c72b3 : ¬ ((t420 == 1) = (!false)) := by simpa using c72))
                                          clear c72
                                          exact absurd ((Option.some.inj H).trans hrt.out) (by decide)
                                      · rw [if_neg c71] at H
                                        have c71b0 : ((t420 == 0) == false) = false := by simpa using c71
                                        (try (have c71b1 : decide ((t420 == 0) = false) = false := by simpa using c71))
                                        (try (have c71b2 : ((t420 == 0) == false) = false := by simpa using c71))
                                        (try (have c71b3 : ¬ ((t420 == 0) = false) := by simpa using c71))
                                        clear c71
                                        exact absurd ((Option.some.inj H).trans hrt.out) (by decide)
                                  · replace c56 := Bool.eq_false_iff.mpr c56
                                    subst c56
                                    have H1 : (some false) = some r := by rw [if_neg (show ¬ (false = true) by decide)] at H; exact H
                                    clear H
                                    have H := H1
                                    clear H1
                                    exact absurd ((Option.some.inj H).trans hrt.out) (by decide)
                                · replace c55 := Bool.eq_false_iff.mpr c55
                                  subst c55
                                  have H1 : (if t418 = true then (if a0.toList = a1.toList then (if ((t420 == 0) == t418) = true then (if ((t420 == 1) == (!t418)) = true then (if ((t420 == 2) == false) = true then (if ((t420 == 3) == false) = true then ((mummerlaw09_awake.f kj25).bind fun t424 => (some t424)) else (some false)) else (some false)) else (some false)) else (some false)) else (some false)) else (if ((t420 == 0) == t418) = true then (if ((t420 == 1) == (!t418)) = true then (if ((t420 == 2) == false) = true then (if ((t420 == 3) == false) = true then ((mummerlaw09_awake.f kj25).bind fun t425 => (some t425)) else (some false)) else (some false)) else (some false)) else (some false))) = some r := by rw [if_neg (show ¬ (false = true) by decide)] at H; exact H
                                  clear H
                                  have H := H1
                                  clear H1
                                  by_cases c83 : t418 = true
                                  · subst c83
                                    have H1 : (if a0.toList = a1.toList then (if ((t420 == 0) == true) = true then (if ((t420 == 1) == (!true)) = true then (if ((t420 == 2) == false) = true then (if ((t420 == 3) == false) = true then ((mummerlaw09_awake.f kj25).bind fun t424 => (some t424)) else (some false)) else (some false)) else (some false)) else (some false)) else (some false)) = some r := by rw [if_pos rfl] at H; exact H
                                    clear H
                                    have H := H1
                                    clear H1
                                    by_cases c84 : a0.toList = a1.toList
                                    · rw [if_pos c84] at H
                                      have c84b0 : (a0.toList == a1.toList) = true := beq_iff_eq.mpr c84
                                      have c84b1 : (a0.toList != a1.toList) = false := bne_eq_false_iff_eq.mpr c84
                                      clear c84
                                      by_cases c85 : ((t420 == 0) == true) = true
                                      · rw [if_pos c85] at H
                                        have c85b0 : ((t420 == 0) == true) = true := c85
                                        (try (have c85b4 : (t420 == 0) = true := by simpa using c85))
                                        (try (have c85b5 : decide (t420 = 0) = true := by simpa using c85))
                                        (try (have c85b1 : decide ((t420 == 0) = true) = true := by simpa using c85))
                                        (try (have c85b2 : ((t420 == 0) == true) = true := by simpa using c85))
                                        clear c85
                                        by_cases c86 : ((t420 == 1) == (!true)) = true
                                        · rw [if_pos c86] at H
                                          have c86b0 : ((t420 == 1) == (!true)) = true := c86
                                          (try (have c86b4 : (t420 == 1) = (!true) := by simpa using c86))
                                          (try (have c86b5 : decide (t420 = 1) = (!true) := by simpa using c86))
                                          (try (have c86b1 : decide ((t420 == 1) = (!true)) = true := by simpa using c86))
                                          (try (have c86b2 : ((t420 == 1) == (!true)) = true := by simpa using c86))
                                          clear c86
                                          by_cases c87 : ((t420 == 2) == false) = true
                                          · rw [if_pos c87] at H
                                            have c87b0 : ((t420 == 2) == false) = true := c87
                                            (try (have c87b4 : (t420 == 2) = false := by simpa using c87))
                                            (try (have c87b5 : decide (t420 = 2) = false := by simpa using c87))
                                            (try (have c87b1 : decide ((t420 == 2) = false) = true := by simpa using c87))
                                            (try (have c87b2 : ((t420 == 2) == false) = true := by simpa using c87))
                                            clear c87
                                            by_cases c88 : ((t420 == 3) == false) = true
                                            · rw [if_pos c88] at H
                                              have c88b0 : ((t420 == 3) == false) = true := c88
                                              (try (have c88b4 : (t420 == 3) = false := by simpa using c88))
                                              (try (have c88b5 : decide (t420 = 3) = false := by simpa using c88))
                                              (try (have c88b1 : decide ((t420 == 3) = false) = true := by simpa using c88))
                                              (try (have c88b2 : ((t420 == 3) == false) = true := by simpa using c88))
                                              clear c88
                                              replace H := Option.bind_eq_some_iff.mp H
                                              obtain ⟨t424, A890, H⟩ := H
                                              replace H : (some t424) = some r := H
                                              have A89 := ak A890
                                              clear A890
                                              obtain rfl := Option.some.inj H
                                              go_wp2_with (first | ((with_reducible refine gate_callee (f := 26) rfl ?_); refine goesL_ (some 111) rfl rfl Tryd.func26 (by kernel_rfl) rfl #[.string t408, .string t406] rfl (by (try simp only [List.map_toArray, List.map_cons, List.map_nil]); first | done | rfl | (simp only [List.length_drop, List.length_take]; rfl)) ?_; (with_reducible refine (scopes_Union.calls kj25 t408 t406 t410 t411 _ A40.out).mono ?_); rintro e w90 ⟨rfl, hb⟩; refine ⟨_, rfl, ?_⟩; have n0_ := ak (below_step (by repeat (first | (with_reducible first | exact HB.out | apply wA | apply wN | apply wD) | exact HB.out)) hb); clear HB; have HB := n0_; clear n0_; (try clear hb); (try clear hb2); (try clear hk); (try clear hi)) | ((with_reducible refine gate_callee (f := 27) rfl ?_); refine goesL_ (some 117) rfl rfl Tryd.func27 (by kernel_rfl) rfl #[.string t408, .string a1] rfl (by (try simp only [List.map_toArray, List.map_cons, List.map_nil]); first | done | rfl | (simp only [List.length_drop, List.length_take]; rfl)) ?_; (with_reducible refine (scopes_Meet.calls kj25 t408 a1 t412 t413 _ A41.out).mono ?_); rintro e w91 ⟨rfl, hb⟩; refine ⟨_, rfl, ?_⟩; have n0_ := ak (below_step (by repeat (first | (with_reducible first | exact HB.out | apply wA | apply wN | apply wD) | exact HB.out)) hb); clear HB; have HB := n0_; clear n0_; (try clear hb); (try clear hb2); (try clear hk); (try clear hi)) | ((with_reducible refine gate_callee (f := 32) rfl ?_); refine goesL_ (some 138) rfl rfl Tryd.func32 (by kernel_rfl) rfl #[.string a1, .string a2] rfl (by (try simp only [List.map_toArray, List.map_cons, List.map_nil]); first | done | rfl | (simp only [List.length_drop, List.length_take]; rfl)) ?_; (with_reducible refine (scopes_Sub.calls kj25 a1 a2 false t415 _ A46.out).mono ?_); rintro e w92 ⟨rfl, hb⟩; refine ⟨_, rfl, ?_⟩; have n0_ := ak (below_step (by repeat (first | (with_reducible first | exact HB.out | apply wA | apply wN | apply wD) | exact HB.out)) hb); clear HB; have HB := n0_; clear n0_; (try clear hb); (try clear hb2); (try clear hk); (try clear hi)) | ((with_reducible refine gate_callee (f := 32) rfl ?_); refine goesL_ (some 144) rfl rfl Tryd.func32 (by kernel_rfl) rfl #[.string a0, .string a2] rfl (by (try simp only [List.map_toArray, List.map_cons, List.map_nil]); first | done | rfl | (simp only [List.length_drop, List.length_take]; rfl)) ?_; (with_reducible refine (scopes_Sub.calls kj25 a0 a2 t416 t417 _ A47.out).mono ?_); rintro e w93 ⟨rfl, hb⟩; refine ⟨_, rfl, ?_⟩; have n0_ := ak (below_step (by repeat (first | (with_reducible first | exact HB.out | apply wA | apply wN | apply wD) | exact HB.out)) hb); clear HB; have HB := n0_; clear n0_; (try clear hb); (try clear hb2); (try clear hk); (try clear hi)) | ((with_reducible refine gate_callee (f := 32) rfl ?_); refine goesL_ (some 150) rfl rfl Tryd.func32 (by kernel_rfl) rfl #[.string a1, .string a0] rfl (by (try simp only [List.map_toArray, List.map_cons, List.map_nil]); first | done | rfl | (simp only [List.length_drop, List.length_take]; rfl)) ?_; (with_reducible refine (scopes_Sub.calls kj25 a1 a0 true t419 _ A48.out).mono ?_); rintro e w94 ⟨rfl, hb⟩; refine ⟨_, rfl, ?_⟩; have n0_ := ak (below_step (by repeat (first | (with_reducible first | exact HB.out | apply wA | apply wN | apply wD) | exact HB.out)) hb); clear HB; have HB := n0_; clear n0_; (try clear hb); (try clear hb2); (try clear hk); (try clear hi)) | ((with_reducible refine gate_callee (f := 34) rfl ?_); refine goesL_ (some 156) rfl rfl Tryd.func34 (by kernel_rfl) rfl #[.string a0, .string a1] rfl (by (try simp only [List.map_toArray, List.map_cons, List.map_nil]); first | done | rfl | (simp only [List.length_drop, List.length_take]; rfl)) ?_; (with_reducible refine (scopes_Relate.calls kj25 a0 a1 t420 t421 _ A49.out).mono ?_); rintro e w95 ⟨rfl, hb⟩; refine ⟨_, rfl, ?_⟩; have n0_ := ak (below_step (by repeat (first | (with_reducible first | exact HB.out | apply wA | apply wN | apply wD) | exact HB.out)) hb); clear HB; have HB := n0_; clear n0_; (try clear hb); (try clear hb2); (try clear hk); (try clear hi)) | (go_at_call 10; (with_reducible refine (mummerlaw09_awake.calls kj25  t424 _ hrt A89.out ⟨Sc.Tab.stay HT.out (by repeat (first | (with_reducible first | exact HB.out | apply wA | apply wN | apply wD) | exact HB.out | (refine below_set ?_ (by assumption))))⟩).mono ?_); rintro e w96 ⟨rfl, hb⟩; have n0_ := ak (below_step (by repeat (first | (with_reducible first | exact HB.out | apply wA | apply wN | apply wD) | exact HB.out)) hb); clear HB; have HB := n0_; clear n0_; (try clear hb); (try clear hb2); (try clear hk); (try clear hi)))
                                              go_ret
                                              exact ⟨by first | rfl | (simp [errW_none, errW_some] <;> rfl) | (simp [*, errW_none, errW_some] <;> rfl), by repeat (first | (with_reducible first | exact HB.out | apply wA | apply wN | apply wD) | exact HB.out)⟩
                                            · rw [if_neg c88] at H
                                              have c88b0 : ((t420 == 3) == false) = false := by simpa using c88
                                              (try (have c88b1 : decide ((t420 == 3) = false) = false := by simpa using c88))
                                              (try (have c88b2 : ((t420 == 3) == false) = false := by simpa using c88))
                                              (try (have c88b3 : ¬ ((t420 == 3) = false) := by simpa using c88))
                                              clear c88
                                              exact absurd ((Option.some.inj H).trans hrt.out) (by decide)
                                          · rw [if_neg c87] at H
                                            have c87b0 : ((t420 == 2) == false) = false := by simpa using c87
                                            (try (have c87b1 : decide ((t420 == 2) = false) = false := by simpa using c87))
                                            (try (have c87b2 : ((t420 == 2) == false) = false := by simpa using c87))
                                            (try (have c87b3 : ¬ ((t420 == 2) = false) := by simpa using c87))
                                            clear c87
                                            exact absurd ((Option.some.inj H).trans hrt.out) (by decide)
                                        · rw [if_neg c86] at H
                                          have c86b0 : ((t420 == 1) == (!true)) = false := by simpa using c86
                                          (try (have c86b1 : decide ((t420 == 1) = (!true)) = false := by simpa using c86))
                                          (try (have c86b2 : ((t420 == 1) == (!true)) = false := by simpa using c86))
                                          (try (have c86b3 : ¬ ((t420 == 1) = (!true)) := by simpa using c86))
                                          clear c86
                                          exact absurd ((Option.some.inj H).trans hrt.out) (by decide)
                                      · rw [if_neg c85] at H
                                        have c85b0 : ((t420 == 0) == true) = false := by simpa using c85
                                        (try (have c85b1 : decide ((t420 == 0) = true) = false := by simpa using c85))
                                        (try (have c85b2 : ((t420 == 0) == true) = false := by simpa using c85))
                                        (try (have c85b3 : ¬ ((t420 == 0) = true) := by simpa using c85))
                                        clear c85
                                        exact absurd ((Option.some.inj H).trans hrt.out) (by decide)
                                    · rw [if_neg c84] at H
                                      have c84b0 : (a0.toList == a1.toList) = false := beq_eq_false_iff_ne.mpr c84
                                      have c84b1 : (a0.toList != a1.toList) = true := bne_iff_ne.mpr c84
                                      exact absurd ((Option.some.inj H).trans hrt.out) (by decide)
                                  · replace c83 := Bool.eq_false_iff.mpr c83
                                    subst c83
                                    have H1 : (if ((t420 == 0) == false) = true then (if ((t420 == 1) == (!false)) = true then (if ((t420 == 2) == false) = true then (if ((t420 == 3) == false) = true then ((mummerlaw09_awake.f kj25).bind fun t425 => (some t425)) else (some false)) else (some false)) else (some false)) else (some false)) = some r := by rw [if_neg (show ¬ (false = true) by decide)] at H; exact H
                                    clear H
                                    have H := H1
                                    clear H1
                                    by_cases c97 : ((t420 == 0) == false) = true
                                    · rw [if_pos c97] at H
                                      have c97b0 : ((t420 == 0) == false) = true := c97
                                      (try (have c97b4 : (t420 == 0) = false := by simpa using c97))
                                      (try (have c97b5 : decide (t420 = 0) = false := by simpa using c97))
                                      (try (have c97b1 : decide ((t420 == 0) = false) = true := by simpa using c97))
                                      (try (have c97b2 : ((t420 == 0) == false) = true := by simpa using c97))
                                      clear c97
                                      by_cases c98 : ((t420 == 1) == (!false)) = true
                                      · rw [if_pos c98] at H
                                        have c98b0 : ((t420 == 1) == (!false)) = true := c98
                                        (try (have c98b4 : (t420 == 1) = (!false) := by simpa using c98))
                                        (try (have c98b5 : decide (t420 = 1) = (!false) := by simpa using c98))
                                        (try (have c98b1 : decide ((t420 == 1) = (!false)) = true := by simpa using c98))
                                        (try (have c98b2 : ((t420 == 1) == (!false)) = true := by simpa using c98))
                                        clear c98
                                        by_cases c99 : ((t420 == 2) == false) = true
                                        · rw [if_pos c99] at H
                                          have c99b0 : ((t420 == 2) == false) = true := c99
                                          (try (have c99b4 : (t420 == 2) = false := by simpa using c99))
                                          (try (have c99b5 : decide (t420 = 2) = false := by simpa using c99))
                                          (try (have c99b1 : decide ((t420 == 2) = false) = true := by simpa using c99))
                                          (try (have c99b2 : ((t420 == 2) == false) = true := by simpa using c99))
                                          clear c99
                                          by_cases c100 : ((t420 == 3) == false) = true
                                          · rw [if_pos c100] at H
                                            have c100b0 : ((t420 == 3) == false) = true := c100
                                            (try (have c100b4 : (t420 == 3) = false := by simpa using c100))
                                            (try (have c100b5 : decide (t420 = 3) = false := by simpa using c100))
                                            (try (have c100b1 : decide ((t420 == 3) = false) = true := by simpa using c100))
                                            (try (have c100b2 : ((t420 == 3) == false) = true := by simpa using c100))
                                            clear c100
                                            replace H := Option.bind_eq_some_iff.mp H
                                            obtain ⟨t425, A1010, H⟩ := H
                                            replace H : (some t425) = some r := H
                                            have A101 := ak A1010
                                            clear A1010
                                            obtain rfl := Option.some.inj H
                                            go_wp2_with (first | ((with_reducible refine gate_callee (f := 26) rfl ?_); refine goesL_ (some 111) rfl rfl Tryd.func26 (by kernel_rfl) rfl #[.string t408, .string t406] rfl (by (try simp only [List.map_toArray, List.map_cons, List.map_nil]); first | done | rfl | (simp only [List.length_drop, List.length_take]; rfl)) ?_; (with_reducible refine (scopes_Union.calls kj25 t408 t406 t410 t411 _ A40.out).mono ?_); rintro e w102 ⟨rfl, hb⟩; refine ⟨_, rfl, ?_⟩; have n0_ := ak (below_step (by repeat (first | (with_reducible first | exact HB.out | apply wA | apply wN | apply wD) | exact HB.out)) hb); clear HB; have HB := n0_; clear n0_; (try clear hb); (try clear hb2); (try clear hk); (try clear hi)) | ((with_reducible refine gate_callee (f := 27) rfl ?_); refine goesL_ (some 117) rfl rfl Tryd.func27 (by kernel_rfl) rfl #[.string t408, .string a1] rfl (by (try simp only [List.map_toArray, List.map_cons, List.map_nil]); first | done | rfl | (simp only [List.length_drop, List.length_take]; rfl)) ?_; (with_reducible refine (scopes_Meet.calls kj25 t408 a1 t412 t413 _ A41.out).mono ?_); rintro e w103 ⟨rfl, hb⟩; refine ⟨_, rfl, ?_⟩; have n0_ := ak (below_step (by repeat (first | (with_reducible first | exact HB.out | apply wA | apply wN | apply wD) | exact HB.out)) hb); clear HB; have HB := n0_; clear n0_; (try clear hb); (try clear hb2); (try clear hk); (try clear hi)) | ((with_reducible refine gate_callee (f := 32) rfl ?_); refine goesL_ (some 138) rfl rfl Tryd.func32 (by kernel_rfl) rfl #[.string a1, .string a2] rfl (by (try simp only [List.map_toArray, List.map_cons, List.map_nil]); first | done | rfl | (simp only [List.length_drop, List.length_take]; rfl)) ?_; (with_reducible refine (scopes_Sub.calls kj25 a1 a2 false t415 _ A46.out).mono ?_); rintro e w104 ⟨rfl, hb⟩; refine ⟨_, rfl, ?_⟩; have n0_ := ak (below_step (by repeat (first | (with_reducible first | exact HB.out | apply wA | apply wN | apply wD) | exact HB.out)) hb); clear HB; have HB := n0_; clear n0_; (try clear hb); (try clear hb2); (try clear hk); (try clear hi)) | ((with_reducible refine gate_callee (f := 32) rfl ?_); refine goesL_ (some 144) rfl rfl Tryd.func32 (by kernel_rfl) rfl #[.string a0, .string a2] rfl (by (try simp only [List.map_toArray, List.map_cons, List.map_nil]); first | done | rfl | (simp only [List.length_drop, List.length_take]; rfl)) ?_; (with_reducible refine (scopes_Sub.calls kj25 a0 a2 t416 t417 _ A47.out).mono ?_); rintro e w105 ⟨rfl, hb⟩; refine ⟨_, rfl, ?_⟩; have n0_ := ak (below_step (by repeat (first | (with_reducible first | exact HB.out | apply wA | apply wN | apply wD) | exact HB.out)) hb); clear HB; have HB := n0_; clear n0_; (try clear hb); (try clear hb2); (try clear hk); (try clear hi)) | ((with_reducible refine gate_callee (f := 32) rfl ?_); refine goesL_ (some 150) rfl rfl Tryd.func32 (by kernel_rfl) rfl #[.string a1, .string a0] rfl (by (try simp only [List.map_toArray, List.map_cons, List.map_nil]); first | done | rfl | (simp only [List.length_drop, List.length_take]; rfl)) ?_; (with_reducible refine (scopes_Sub.calls kj25 a1 a0 false t419 _ A48.out).mono ?_); rintro e w106 ⟨rfl, hb⟩; refine ⟨_, rfl, ?_⟩; have n0_ := ak (below_step (by repeat (first | (with_reducible first | exact HB.out | apply wA | apply wN | apply wD) | exact HB.out)) hb); clear HB; have HB := n0_; clear n0_; (try clear hb); (try clear hb2); (try clear hk); (try clear hi)) | ((with_reducible refine gate_callee (f := 34) rfl ?_); refine goesL_ (some 156) rfl rfl Tryd.func34 (by kernel_rfl) rfl #[.string a0, .string a1] rfl (by (try simp only [List.map_toArray, List.map_cons, List.map_nil]); first | done | rfl | (simp only [List.length_drop, List.length_take]; rfl)) ?_; (with_reducible refine (scopes_Relate.calls kj25 a0 a1 t420 t421 _ A49.out).mono ?_); rintro e w107 ⟨rfl, hb⟩; refine ⟨_, rfl, ?_⟩; have n0_ := ak (below_step (by repeat (first | (with_reducible first | exact HB.out | apply wA | apply wN | apply wD) | exact HB.out)) hb); clear HB; have HB := n0_; clear n0_; (try clear hb); (try clear hb2); (try clear hk); (try clear hi)) | (go_at_call 10; (with_reducible refine (mummerlaw09_awake.calls kj25  t425 _ hrt A101.out ⟨Sc.Tab.stay HT.out (by repeat (first | (with_reducible first | exact HB.out | apply wA | apply wN | apply wD) | exact HB.out | (refine below_set ?_ (by assumption))))⟩).mono ?_); rintro e w108 ⟨rfl, hb⟩; have n0_ := ak (below_step (by repeat (first | (with_reducible first | exact HB.out | apply wA | apply wN | apply wD) | exact HB.out)) hb); clear HB; have HB := n0_; clear n0_; (try clear hb); (try clear hb2); (try clear hk); (try clear hi)))
                                            go_ret
                                            exact ⟨by first | rfl | (simp [errW_none, errW_some] <;> rfl) | (simp [*, errW_none, errW_some] <;> rfl), by repeat (first | (with_reducible first | exact HB.out | apply wA | apply wN | apply wD) | exact HB.out)⟩
                                          · rw [if_neg c100] at H
                                            have c100b0 : ((t420 == 3) == false) = false := by simpa using c100
                                            (try (have c100b1 : decide ((t420 == 3) = false) = false := by simpa using c100))
                                            (try (have c100b2 : ((t420 == 3) == false) = false := by simpa using c100))
                                            (try (have c100b3 : ¬ ((t420 == 3) = false) := by simpa using c100))
                                            clear c100
                                            exact absurd ((Option.some.inj H).trans hrt.out) (by decide)
                                        · rw [if_neg c99] at H
                                          have c99b0 : ((t420 == 2) == false) = false := by simpa using c99
                                          (try (have c99b1 : decide ((t420 == 2) = false) = false := by simpa using c99))
                                          (try (have c99b2 : ((t420 == 2) == false) = false := by simpa using c99))
                                          (try (have c99b3 : ¬ ((t420 == 2) = false) := by simpa using c99))
                                          clear c99
                                          exact absurd ((Option.some.inj H).trans hrt.out) (by decide)
                                      · rw [if_neg c98] at H
                                        have c98b0 : ((t420 == 1) == (!false)) = false := by simpa using c98
                                        (try (have c98b1 : decide ((t420 == 1) = (!false)) = false := by simpa using c98))
                                        (try (have c98b2 : ((t420 == 1) == (!false)) = false := by simpa using c98))
                                        (try (have c98b3 : ¬ ((t420 == 1) = (!false)) := by simpa using c98))
                                        clear c98
                                        exact absurd ((Option.some.inj H).trans hrt.out) (by decide)
                                    · rw [if_neg c97] at H
                                      have c97b0 : ((t420 == 0) == false) = false := by simpa using c97
                                      (try (have c97b1 : decide ((t420 == 0) = false) = false := by simpa using c97))
                                      (try (have c97b2 : ((t420 == 0) == false) = false := by simpa using c97))
                                      (try (have c97b3 : ¬ ((t420 == 0) = false) := by simpa using c97))
                                      clear c97
                                      exact absurd ((Option.some.inj H).trans hrt.out) (by decide)
                              · replace c54 := Bool.eq_false_iff.mpr c54
                                subst c54
                                have H1 : (if ((t420 == 0) == false) = true then (if ((t420 == 1) == false) = true then (if ((t420 == 2) == t418) = true then (if ((t420 == 3) == (!t418)) = true then ((mummerlaw09_awake.f kj25).bind fun t426 => (some t426)) else (some false)) else (some false)) else (some false)) else (some false)) = some r := by rw [if_neg (show ¬ (false = true) by decide)] at H; exact H
                                clear H
                                have H := H1
                                clear H1
                                by_cases c109 : ((t420 == 0) == false) = true
                                · rw [if_pos c109] at H
                                  have c109b0 : ((t420 == 0) == false) = true := c109
                                  (try (have c109b4 : (t420 == 0) = false := by simpa using c109))
                                  (try (have c109b5 : decide (t420 = 0) = false := by simpa using c109))
                                  (try (have c109b1 : decide ((t420 == 0) = false) = true := by simpa using c109))
                                  (try (have c109b2 : ((t420 == 0) == false) = true := by simpa using c109))
                                  clear c109
                                  by_cases c110 : ((t420 == 1) == false) = true
                                  · rw [if_pos c110] at H
                                    have c110b0 : ((t420 == 1) == false) = true := c110
                                    (try (have c110b4 : (t420 == 1) = false := by simpa using c110))
                                    (try (have c110b5 : decide (t420 = 1) = false := by simpa using c110))
                                    (try (have c110b1 : decide ((t420 == 1) = false) = true := by simpa using c110))
                                    (try (have c110b2 : ((t420 == 1) == false) = true := by simpa using c110))
                                    clear c110
                                    by_cases c111 : ((t420 == 2) == t418) = true
                                    · rw [if_pos c111] at H
                                      have c111b0 : ((t420 == 2) == t418) = true := c111
                                      (try (have c111b4 : (t420 == 2) = t418 := by simpa using c111))
                                      (try (have c111b5 : decide (t420 = 2) = t418 := by simpa using c111))
                                      (try (have c111b1 : decide ((t420 == 2) = t418) = true := by simpa using c111))
                                      (try (have c111b2 : ((t420 == 2) == t418) = true := by simpa using c111))
                                      clear c111
                                      by_cases c112 : ((t420 == 3) == (!t418)) = true
                                      · rw [if_pos c112] at H
                                        have c112b0 : ((t420 == 3) == (!t418)) = true := c112
                                        (try (have c112b4 : (t420 == 3) = (!t418) := by simpa using c112))
                                        (try (have c112b5 : decide (t420 = 3) = (!t418) := by simpa using c112))
                                        (try (have c112b1 : decide ((t420 == 3) = (!t418)) = true := by simpa using c112))
                                        (try (have c112b2 : ((t420 == 3) == (!t418)) = true := by simpa using c112))
                                        clear c112
                                        replace H := Option.bind_eq_some_iff.mp H
                                        obtain ⟨t426, A1130, H⟩ := H
                                        replace H : (some t426) = some r := H
                                        have A113 := ak A1130
                                        clear A1130
                                        obtain rfl := Option.some.inj H
                                        go_wp2_with (first | ((with_reducible refine gate_callee (f := 26) rfl ?_); refine goesL_ (some 111) rfl rfl Tryd.func26 (by kernel_rfl) rfl #[.string t408, .string t406] rfl (by (try simp only [List.map_toArray, List.map_cons, List.map_nil]); first | done | rfl | (simp only [List.length_drop, List.length_take]; rfl)) ?_; (with_reducible refine (scopes_Union.calls kj25 t408 t406 t410 t411 _ A40.out).mono ?_); rintro e w114 ⟨rfl, hb⟩; refine ⟨_, rfl, ?_⟩; have n0_ := ak (below_step (by repeat (first | (with_reducible first | exact HB.out | apply wA | apply wN | apply wD) | exact HB.out)) hb); clear HB; have HB := n0_; clear n0_; (try clear hb); (try clear hb2); (try clear hk); (try clear hi)) | ((with_reducible refine gate_callee (f := 27) rfl ?_); refine goesL_ (some 117) rfl rfl Tryd.func27 (by kernel_rfl) rfl #[.string t408, .string a1] rfl (by (try simp only [List.map_toArray, List.map_cons, List.map_nil]); first | done | rfl | (simp only [List.length_drop, List.length_take]; rfl)) ?_; (with_reducible refine (scopes_Meet.calls kj25 t408 a1 t412 t413 _ A41.out).mono ?_); rintro e w115 ⟨rfl, hb⟩; refine ⟨_, rfl, ?_⟩; have n0_ := ak (below_step (by repeat (first | (with_reducible first | exact HB.out | apply wA | apply wN | apply wD) | exact HB.out)) hb); clear HB; have HB := n0_; clear n0_; (try clear hb); (try clear hb2); (try clear hk); (try clear hi)) | ((with_reducible refine gate_callee (f := 32) rfl ?_); refine goesL_ (some 138) rfl rfl Tryd.func32 (by kernel_rfl) rfl #[.string a1, .string a2] rfl (by (try simp only [List.map_toArray, List.map_cons, List.map_nil]); first | done | rfl | (simp only [List.length_drop, List.length_take]; rfl)) ?_; (with_reducible refine (scopes_Sub.calls kj25 a1 a2 t414 t415 _ A46.out).mono ?_); rintro e w116 ⟨rfl, hb⟩; refine ⟨_, rfl, ?_⟩; have n0_ := ak (below_step (by repeat (first | (with_reducible first | exact HB.out | apply wA | apply wN | apply wD) | exact HB.out)) hb); clear HB; have HB := n0_; clear n0_; (try clear hb); (try clear hb2); (try clear hk); (try clear hi)) | ((with_reducible refine gate_callee (f := 32) rfl ?_); refine goesL_ (some 144) rfl rfl Tryd.func32 (by kernel_rfl) rfl #[.string a0, .string a2] rfl (by (try simp only [List.map_toArray, List.map_cons, List.map_nil]); first | done | rfl | (simp only [List.length_drop, List.length_take]; rfl)) ?_; (with_reducible refine (scopes_Sub.calls kj25 a0 a2 t416 t417 _ A47.out).mono ?_); rintro e w117 ⟨rfl, hb⟩; refine ⟨_, rfl, ?_⟩; have n0_ := ak (below_step (by repeat (first | (with_reducible first | exact HB.out | apply wA | apply wN | apply wD) | exact HB.out)) hb); clear HB; have HB := n0_; clear n0_; (try clear hb); (try clear hb2); (try clear hk); (try clear hi)) | ((with_reducible refine gate_callee (f := 32) rfl ?_); refine goesL_ (some 150) rfl rfl Tryd.func32 (by kernel_rfl) rfl #[.string a1, .string a0] rfl (by (try simp only [List.map_toArray, List.map_cons, List.map_nil]); first | done | rfl | (simp only [List.length_drop, List.length_take]; rfl)) ?_; (with_reducible refine (scopes_Sub.calls kj25 a1 a0 t418 t419 _ A48.out).mono ?_); rintro e w118 ⟨rfl, hb⟩; refine ⟨_, rfl, ?_⟩; have n0_ := ak (below_step (by repeat (first | (with_reducible first | exact HB.out | apply wA | apply wN | apply wD) | exact HB.out)) hb); clear HB; have HB := n0_; clear n0_; (try clear hb); (try clear hb2); (try clear hk); (try clear hi)) | ((with_reducible refine gate_callee (f := 34) rfl ?_); refine goesL_ (some 156) rfl rfl Tryd.func34 (by kernel_rfl) rfl #[.string a0, .string a1] rfl (by (try simp only [List.map_toArray, List.map_cons, List.map_nil]); first | done | rfl | (simp only [List.length_drop, List.length_take]; rfl)) ?_; (with_reducible refine (scopes_Relate.calls kj25 a0 a1 t420 t421 _ A49.out).mono ?_); rintro e w119 ⟨rfl, hb⟩; refine ⟨_, rfl, ?_⟩; have n0_ := ak (below_step (by repeat (first | (with_reducible first | exact HB.out | apply wA | apply wN | apply wD) | exact HB.out)) hb); clear HB; have HB := n0_; clear n0_; (try clear hb); (try clear hb2); (try clear hk); (try clear hi)) | (go_at_call 10; (with_reducible refine (mummerlaw09_awake.calls kj25  t426 _ hrt A113.out ⟨Sc.Tab.stay HT.out (by repeat (first | (with_reducible first | exact HB.out | apply wA | apply wN | apply wD) | exact HB.out | (refine below_set ?_ (by assumption))))⟩).mono ?_); rintro e w120 ⟨rfl, hb⟩; have n0_ := ak (below_step (by repeat (first | (with_reducible first | exact HB.out | apply wA | apply wN | apply wD) | exact HB.out)) hb); clear HB; have HB := n0_; clear n0_; (try clear hb); (try clear hb2); (try clear hk); (try clear hi)))
                                        go_ret
                                        exact ⟨by first | rfl | (simp [errW_none, errW_some] <;> rfl) | (simp [*, errW_none, errW_some] <;> rfl), by repeat (first | (with_reducible first | exact HB.out | apply wA | apply wN | apply wD) | exact HB.out)⟩
                                      · rw [if_neg c112] at H
                                        have c112b0 : ((t420 == 3) == (!t418)) = false := by simpa using c112
                                        (try (have c112b1 : decide ((t420 == 3) = (!t418)) = false := by simpa using c112))
                                        (try (have c112b2 : ((t420 == 3) == (!t418)) = false := by simpa using c112))
                                        (try (have c112b3 : ¬ ((t420 == 3) = (!t418)) := by simpa using c112))
                                        clear c112
                                        exact absurd ((Option.some.inj H).trans hrt.out) (by decide)
                                    · rw [if_neg c111] at H
                                      have c111b0 : ((t420 == 2) == t418) = false := by simpa using c111
                                      (try (have c111b1 : decide ((t420 == 2) = t418) = false := by simpa using c111))
                                      (try (have c111b2 : ((t420 == 2) == t418) = false := by simpa using c111))
                                      (try (have c111b3 : ¬ ((t420 == 2) = t418) := by simpa using c111))
                                      clear c111
                                      exact absurd ((Option.some.inj H).trans hrt.out) (by decide)
                                  · rw [if_neg c110] at H
                                    have c110b0 : ((t420 == 1) == false) = false := by simpa using c110
                                    (try (have c110b1 : decide ((t420 == 1) = false) = false := by simpa using c110))
                                    (try (have c110b2 : ((t420 == 1) == false) = false := by simpa using c110))
                                    (try (have c110b3 : ¬ ((t420 == 1) = false) := by simpa using c110))
                                    clear c110
                                    exact absurd ((Option.some.inj H).trans hrt.out) (by decide)
                                · rw [if_neg c109] at H
                                  have c109b0 : ((t420 == 0) == false) = false := by simpa using c109
                                  (try (have c109b1 : decide ((t420 == 0) = false) = false := by simpa using c109))
                                  (try (have c109b2 : ((t420 == 0) == false) = false := by simpa using c109))
                                  (try (have c109b3 : ¬ ((t420 == 0) = false) := by simpa using c109))
                                  clear c109
                                  exact absurd ((Option.some.inj H).trans hrt.out) (by decide)
                            · rw [if_neg c53] at H
                              have c53b0 : (t421 == 0) = false := beq_eq_false_iff_ne.mpr c53
                              have c53b1 : (t421 != 0) = true := bne_iff_ne.mpr c53
                              exact absurd ((Option.some.inj H).trans hrt.out) (by decide)
                          · rw [if_neg c52] at H
                            have c52b0 : (t419 == 0) = false := beq_eq_false_iff_ne.mpr c52
                            have c52b1 : (t419 != 0) = true := bne_iff_ne.mpr c52
                            exact absurd ((Option.some.inj H).trans hrt.out) (by decide)
                        · rw [if_neg c51] at H
                          have c51b0 : (t417 == 0) = false := beq_eq_false_iff_ne.mpr c51
                          have c51b1 : (t417 != 0) = true := bne_iff_ne.mpr c51
                          exact absurd ((Option.some.inj H).trans hrt.out) (by decide)
                      · rw [if_neg c50] at H
                        have c50b0 : (t415 == 0) = false := beq_eq_false_iff_ne.mpr c50
                        have c50b1 : (t415 != 0) = true := bne_iff_ne.mpr c50
                        exact absurd ((Option.some.inj H).trans hrt.out) (by decide)
                    · rw [if_neg c45] at H
                      have c45b0 : (t412.toList == ([] : List UInt8)) = false := beq_eq_false_iff_ne.mpr c45
                      have c45b1 : (t412.toList != ([] : List UInt8)) = true := bne_iff_ne.mpr c45
                      exact absurd ((Option.some.inj H).trans hrt.out) (by decide)
                  · rw [if_neg c44] at H
                    have c44b0 : (t410.toList == a0.toList) = false := beq_eq_false_iff_ne.mpr c44
                    have c44b1 : (t410.toList != a0.toList) = true := bne_iff_ne.mpr c44
                    exact absurd ((Option.some.inj H).trans hrt.out) (by decide)
                · rw [if_neg c43] at H
                  have c43b0 : (t413 == 0) = false := beq_eq_false_iff_ne.mpr c43
                  have c43b1 : (t413 != 0) = true := bne_iff_ne.mpr c43
                  exact absurd ((Option.some.inj H).trans hrt.out) (by decide)
              · rw [if_neg c42] at H
                have c42b0 : (t411 == 0) = false := beq_eq_false_iff_ne.mpr c42
                have c42b1 : (t411 != 0) = true := bne_iff_ne.mpr c42
                exact absurd ((Option.some.inj H).trans hrt.out) (by decide)

end Go.Proofs.YtkalbdeopogbpaaDoor.P
