-- Written by wip/tools/myprint.py of this session over the kit's print; Lean checks it.
import Derived.Test.YtkalbdeopogbpaaDoorPx0
import Derived.Test.YtkalbdeopogbpaaDoorPx1
import Derived.Test.YtkalbdeopogbpaaDoorPx5
import Derived.Test.YtkalbdeopogbpaaDoorPx7
import Derived.Test.YtkalbdeopogbpaaDoorPx8
import Derived.Test.YtkalbdeopogbpaaDoorPx10
import Derived.Test.YtkalbdeopogbpaaDoorPx11
namespace Go.Proofs.YtkalbdeopogbpaaDoor.P
open Go.RowKit Go.Proofs.YtkalbdeopogbpaaDoorW.PrintWords Go.Proofs.YtkalbdeopogbpaaDoorW.PrintLast Go.Proofs.YtkalbdeopogbpaaDoorW.PrintMore
attribute [local go_sem] max2_int min2_int max_two min_two max_three min_three max_four min_four   -- for this text's walks alone
set_option linter.unusedVariables false
set_option linter.unusedSimpArgs false

/-! ### mummerlaw09_ScopesChecks: function 3 -/
def mummerlaw09_ScopesChecks.j0 : Nat → ByteArray → List Int → Bool → Option (Bool)
  | 0, _, _, _ => none
  | k + 1, x0, x1, x29 => if x29 = true then ((mummerlaw09_awake.f k).bind fun t194 => (some t194)) else ((scopes_Of.f x1).bind fun bt195 => ((mummerref09_Of.f k x1).bind fun bt197 => ((scopes_Ids.f x0).bind fun bt199 => ((mummerref09_Ids.f k x0).bind fun bt203 => ((scopes_Check.f x0).bind fun t207 => ((mummerref09_Check.f k x0).bind fun t208 => (if t207 = t208 then (if bt195.1.toList = bt197.1.toList then (if bt195.2 = bt197.2 then ((mummerlaw09_ints.f k bt199.1 bt203.1).bind fun t209 => (if t209 = true then (if bt199.2 = bt203.2 then ((mummerlaw09_awake.f k).bind fun t210 => (some t210)) else (some false)) else (some false))) else (some false)) else (some false)) else (some false))))))))
def mummerlaw09_ScopesChecks.f (k : Nat) (a0 : ByteArray) (l1 : List Int) : Option (Bool) := (mummerlaw09_far.f a0).bind fun t193 => (if t193 = true then (mummerlaw09_ScopesChecks.j0 k a0 l1 true) else (if (l1.length : Int) > 300 then (if (l1.length : Int) < 9990 then (mummerlaw09_ScopesChecks.j0 k a0 l1 true) else (mummerlaw09_ScopesChecks.j0 k a0 l1 (decide ((l1.length : Int) > 10010)))) else (mummerlaw09_ScopesChecks.j0 k a0 l1 (decide ((l1.length : Int) > 10010)))))
theorem mummerlaw09_ScopesChecks.mono_l : ∀ k, (∀ y0 y1 y2, LeO (mummerlaw09_ScopesChecks.j0 k y0 y1 y2) (mummerlaw09_ScopesChecks.j0 (k + 1) y0 y1 y2))
  | 0 => fun _ _ _ r h => by simp [mummerlaw09_ScopesChecks.j0] at h
  | k + 1 => by
    have ih0 := mummerlaw09_ScopesChecks.mono_l k
    · intro y0 y1 y2
      unfold mummerlaw09_ScopesChecks.j0
      repeat' first
      | (with_reducible exact ih0 _ _ _)
      | (with_reducible exact mummerlaw09_awake.mono _)
      | (with_reducible exact mummerlaw09_ints.mono _ _ _)
      | (with_reducible exact mummerref09_Check.mono _ _)
      | (with_reducible exact mummerref09_Ids.mono _ _)
      | (with_reducible exact mummerref09_Of.mono _ _)
      | (with_reducible exact LeO.refl _)
      | (with_reducible exact LeO.none _)
      | (with_reducible refine LeO.ite ?_ ?_)
      | (with_reducible refine LeO.bind ?_ (fun _ => ?_))
      | exact ih0 _ _ _
      | exact mummerlaw09_awake.mono _
      | exact mummerlaw09_ints.mono _ _ _
      | exact mummerref09_Check.mono _ _
      | exact mummerref09_Ids.mono _ _
      | exact mummerref09_Of.mono _ _
      | exact LeO.none _
      | refine LeO.ite ?_ ?_
      | refine LeO.bind ?_ (fun _ => ?_)
theorem mummerlaw09_ScopesChecks.mono : ∀ a0 a1 k, LeO (mummerlaw09_ScopesChecks.f k a0 a1) (mummerlaw09_ScopesChecks.f (k + 1) a0 a1) := by
  intro a0 a1 k
  have ih0 := mummerlaw09_ScopesChecks.mono_l k
  unfold mummerlaw09_ScopesChecks.f
  repeat' first
      | (with_reducible exact ih0 _ _ _)
      | (with_reducible exact mummerlaw09_awake.mono _)
      | (with_reducible exact mummerlaw09_ints.mono _ _ _)
      | (with_reducible exact mummerref09_Check.mono _ _)
      | (with_reducible exact mummerref09_Ids.mono _ _)
      | (with_reducible exact mummerref09_Of.mono _ _)
      | (with_reducible exact LeO.refl _)
      | (with_reducible exact LeO.none _)
      | (with_reducible refine LeO.ite ?_ ?_)
      | (with_reducible refine LeO.bind ?_ (fun _ => ?_))
      | exact ih0 _ _ _
      | exact mummerlaw09_awake.mono _
      | exact mummerlaw09_ints.mono _ _ _
      | exact mummerref09_Check.mono _ _
      | exact mummerref09_Ids.mono _ _
      | exact mummerref09_Of.mono _ _
      | exact LeO.none _
      | refine LeO.ite ?_ ?_
      | refine LeO.bind ?_ (fun _ => ?_)
set_option maxHeartbeats 8000000 in
set_option maxRecDepth 100000 in
theorem mummerlaw09_ScopesChecks.calls (k : Nat) (a0 : ByteArray) (A1 : Option Addr) (c1 : Nat) (l1 : List Int) (r : Bool) (w : World) (hr1 : Kd.C (Kd.int .i64) w A1 l1.length l1) (hc1 : l1.length ≤ c1) (hrt : Aside0 (r = true)) (h : mummerlaw09_ScopesChecks.f k a0 l1 = some r) (HT : Aside0 (Sc.Tab w)) :
    Calls Tryd.prog 3 #[.string a0, .slice A1 l1.length c1] w fun e w' => e = .returned (.bool r) ∧ Below w.heap.size w w' := by
  have HR1 := ak hr1
  have HC1 := ak hc1
  clear hr1 hc1
  have HB := ak (Below.refl w.heap.size w)
  have H : ((mummerlaw09_far.f a0).bind fun t193 => (if t193 = true then (mummerlaw09_ScopesChecks.j0 k a0 l1 true) else (if (l1.length : Int) > 300 then (if (l1.length : Int) < 9990 then (mummerlaw09_ScopesChecks.j0 k a0 l1 true) else (mummerlaw09_ScopesChecks.j0 k a0 l1 (decide ((l1.length : Int) > 10010)))) else (mummerlaw09_ScopesChecks.j0 k a0 l1 (decide ((l1.length : Int) > 10010)))))) = some r := h
  clear h
  have HC3 := ak H
  clear H
  go_enter Tryd.func3, Tryd.ntmps3
  go_upto_region 1 with (fail)
  go_cut [29] (fun v29 wc => ∃ (kq : Nat) (x29_2 : Bool), v29 = .bool x29_2 ∧ Aside0 (mummerlaw09_ScopesChecks.j0 kq a0 l1 x29_2 = some r) ∧ Aside0 (kq ≤ k) ∧ Aside0 (Below w.heap.size w wc))
  case first =>
    have H := HC3.out
    clear HC3
    replace H := Option.bind_eq_some_iff.mp H
    obtain ⟨t193, A40, H⟩ := H
    replace H : (if t193 = true then (mummerlaw09_ScopesChecks.j0 k a0 l1 true) else (if (l1.length : Int) > 300 then (if (l1.length : Int) < 9990 then (mummerlaw09_ScopesChecks.j0 k a0 l1 true) else (mummerlaw09_ScopesChecks.j0 k a0 l1 (decide ((l1.length : Int) > 10010)))) else (mummerlaw09_ScopesChecks.j0 k a0 l1 (decide ((l1.length : Int) > 10010))))) = some r := H
    have A4 := ak A40
    clear A40
    by_cases c5 : t193 = true
    · subst c5
      have H1 : (mummerlaw09_ScopesChecks.j0 k a0 l1 true) = some r := by rw [if_pos rfl] at H; exact H
      clear H
      have H := H1
      clear H1
      have H' := ak H
      clear H
      go_wp2_with (first | ((with_reducible refine gate_callee (f := 9) rfl ?_); refine goesL_ (some 14) rfl rfl Tryd.func9 (by kernel_rfl) rfl #[.string a0] rfl (by (try simp only [List.map_toArray, List.map_cons, List.map_nil]); first | done | rfl | (simp only [List.length_drop, List.length_take]; rfl)) ?_; (with_reducible refine (mummerlaw09_far.calls a0 true _ A4.out).mono ?_); rintro e w' ⟨rfl, ⟨nd, rfl⟩⟩; refine ⟨_, rfl, ?_⟩))
      go_meet
      case rel => exact ⟨_, (true), (by first | rfl | (simp; done) | (simp [*]; done)), H', ⟨by first | omega | exact Nat.le_refl _⟩, ⟨by repeat (first | (with_reducible first | exact HB.out | apply wA | apply wN | apply wD) | exact HB.out)⟩⟩
    · replace c5 := Bool.eq_false_iff.mpr c5
      subst c5
      have H1 : (if (l1.length : Int) > 300 then (if (l1.length : Int) < 9990 then (mummerlaw09_ScopesChecks.j0 k a0 l1 true) else (mummerlaw09_ScopesChecks.j0 k a0 l1 (decide ((l1.length : Int) > 10010)))) else (mummerlaw09_ScopesChecks.j0 k a0 l1 (decide ((l1.length : Int) > 10010)))) = some r := by rw [if_neg (show ¬ (false = true) by decide)] at H; exact H
      clear H
      have H := H1
      clear H1
      by_cases c6 : (l1.length : Int) > 300
      · rw [if_pos c6] at H
        have c6b0 : decide (300 < (l1.length : Int)) = true := decide_eq_true c6
        have c6b1 : decide (300 < l1.length) = true := decide_eq_true (by omega)
        clear c6
        (first | rw [c6b0] | (simp only [i64_w, i32_w]; rw [c6b0]) | skip)
        by_cases c7 : (l1.length : Int) < 9990
        · rw [if_pos c7] at H
          have c7b0 : decide ((l1.length : Int) < 9990) = true := decide_eq_true c7
          have c7b1 : decide (l1.length < 9990) = true := decide_eq_true (by omega)
          clear c7
          have H' := ak H
          clear H
          go_wp2_with (first | ((with_reducible refine gate_callee (f := 9) rfl ?_); refine goesL_ (some 14) rfl rfl Tryd.func9 (by kernel_rfl) rfl #[.string a0] rfl (by (try simp only [List.map_toArray, List.map_cons, List.map_nil]); first | done | rfl | (simp only [List.length_drop, List.length_take]; rfl)) ?_; (with_reducible refine (mummerlaw09_far.calls a0 false _ A4.out).mono ?_); rintro e w' ⟨rfl, ⟨nd, rfl⟩⟩; refine ⟨_, rfl, ?_⟩))
          go_meet
          case rel => exact ⟨_, (true), (by first | rfl | (simp; done) | (simp [*]; done)), H', ⟨by first | omega | exact Nat.le_refl _⟩, ⟨by repeat (first | (with_reducible first | exact HB.out | apply wA | apply wN | apply wD) | exact HB.out)⟩⟩
        · rw [if_neg c7] at H
          have c7b0 : decide ((l1.length : Int) < 9990) = false := decide_eq_false c7
          have c7b1 : decide (l1.length < 9990) = false := decide_eq_false (by omega)
          clear c7
          have H' := ak H
          clear H
          go_wp2_with (first | ((with_reducible refine gate_callee (f := 9) rfl ?_); refine goesL_ (some 14) rfl rfl Tryd.func9 (by kernel_rfl) rfl #[.string a0] rfl (by (try simp only [List.map_toArray, List.map_cons, List.map_nil]); first | done | rfl | (simp only [List.length_drop, List.length_take]; rfl)) ?_; (with_reducible refine (mummerlaw09_far.calls a0 false _ A4.out).mono ?_); rintro e w' ⟨rfl, ⟨nd, rfl⟩⟩; refine ⟨_, rfl, ?_⟩))
          go_meet
          case rel => exact ⟨_, (decide ((l1.length : Int) > 10010)), (by first | rfl | (simp; done) | (simp [*]; done)), H', ⟨by first | omega | exact Nat.le_refl _⟩, ⟨by repeat (first | (with_reducible first | exact HB.out | apply wA | apply wN | apply wD) | exact HB.out)⟩⟩
      · rw [if_neg c6] at H
        have c6b0 : decide (300 < (l1.length : Int)) = false := decide_eq_false c6
        have c6b1 : decide (300 < l1.length) = false := decide_eq_false (by omega)
        clear c6
        (first | rw [c6b0] | (simp only [i64_w, i32_w]; rw [c6b0]) | skip)
        have H' := ak H
        clear H
        go_wp2_with (first | ((with_reducible refine gate_callee (f := 9) rfl ?_); refine goesL_ (some 14) rfl rfl Tryd.func9 (by kernel_rfl) rfl #[.string a0] rfl (by (try simp only [List.map_toArray, List.map_cons, List.map_nil]); first | done | rfl | (simp only [List.length_drop, List.length_take]; rfl)) ?_; (with_reducible refine (mummerlaw09_far.calls a0 false _ A4.out).mono ?_); rintro e w' ⟨rfl, ⟨nd, rfl⟩⟩; refine ⟨_, rfl, ?_⟩))
        go_meet
        case rel => exact ⟨_, (decide ((l1.length : Int) > 10010)), (by first | rfl | (simp; done) | (simp [*]; done)), H', ⟨by first | omega | exact Nat.le_refl _⟩, ⟨by repeat (first | (with_reducible first | exact HB.out | apply wA | apply wN | apply wD) | exact HB.out)⟩⟩
  case rest =>
    clear HC3
    try clear c1
    try clear p2
    try clear c3
    try clear c5
    try clear c6
    try clear c6b0
    try clear c6b1
    try clear c7
    try clear c7b0
    try clear c7b1
    obtain ⟨kq, x29_2, rfl, HA, HJ2, HB⟩ := hcut
    cases kq with
    | zero => exact absurd HA.out (by simp [mummerlaw09_ScopesChecks.j0])
    | succ kj2 =>
      have H := HA.out
      clear HA
      simp only [mummerlaw09_ScopesChecks.j0] at H
      by_cases c8 : x29_2 = true
      · subst c8
        have H1 : ((mummerlaw09_awake.f kj2).bind fun t194 => (some t194)) = some r := by rw [if_pos rfl] at H; exact H
        clear H
        have H := H1
        clear H1
        replace H := Option.bind_eq_some_iff.mp H
        obtain ⟨t194, A90, H⟩ := H
        replace H : (some t194) = some r := H
        have A9 := ak A90
        clear A90
        obtain rfl := Option.some.inj H
        go_wp2_with (first | ((with_reducible refine gate_callee (f := 10) rfl ?_); refine goesL_ (some 30) rfl rfl Tryd.func10 (by kernel_rfl) rfl #[] rfl (by (try simp only [List.map_toArray, List.map_cons, List.map_nil]); first | done | rfl | (simp only [List.length_drop, List.length_take]; rfl)) ?_; (with_reducible refine (mummerlaw09_awake.calls kj2  t194 _ hrt A9.out ⟨Sc.Tab.stay HT.out (by repeat (first | (with_reducible first | exact HB.out | apply wA | apply wN | apply wD) | exact HB.out | (refine below_set ?_ (by assumption))))⟩).mono ?_); rintro e w10 ⟨rfl, hb⟩; refine ⟨_, rfl, ?_⟩; have n0_ := ak (below_step (by repeat (first | (with_reducible first | exact HB.out | apply wA | apply wN | apply wD) | exact HB.out)) hb); clear HB; have HB := n0_; clear n0_; (try clear hb); (try clear hb2); (try clear hk); (try clear hi)))
        go_ret
        exact ⟨by first | rfl | (simp [errW_none, errW_some] <;> rfl) | (simp [*, errW_none, errW_some] <;> rfl), by repeat (first | (with_reducible first | exact HB.out | apply wA | apply wN | apply wD) | exact HB.out)⟩
      · replace c8 := Bool.eq_false_iff.mpr c8
        subst c8
        have H1 : ((scopes_Of.f l1).bind fun bt195 => ((mummerref09_Of.f kj2 l1).bind fun bt197 => ((scopes_Ids.f a0).bind fun bt199 => ((mummerref09_Ids.f kj2 a0).bind fun bt203 => ((scopes_Check.f a0).bind fun t207 => ((mummerref09_Check.f kj2 a0).bind fun t208 => (if t207 = t208 then (if bt195.1.toList = bt197.1.toList then (if bt195.2 = bt197.2 then ((mummerlaw09_ints.f kj2 bt199.1 bt203.1).bind fun t209 => (if t209 = true then (if bt199.2 = bt203.2 then ((mummerlaw09_awake.f kj2).bind fun t210 => (some t210)) else (some false)) else (some false))) else (some false)) else (some false)) else (some false)))))))) = some r := by rw [if_neg (show ¬ (false = true) by decide)] at H; exact H
        clear H
        have H := H1
        clear H1
        replace H := Option.bind_eq_some_iff.mp H
        obtain ⟨⟨t195, t196⟩, A110, H⟩ := H
        replace H : ((mummerref09_Of.f kj2 l1).bind fun bt197 => ((scopes_Ids.f a0).bind fun bt199 => ((mummerref09_Ids.f kj2 a0).bind fun bt203 => ((scopes_Check.f a0).bind fun t207 => ((mummerref09_Check.f kj2 a0).bind fun t208 => (if t207 = t208 then (if t195.toList = bt197.1.toList then (if t196 = bt197.2 then ((mummerlaw09_ints.f kj2 bt199.1 bt203.1).bind fun t209 => (if t209 = true then (if bt199.2 = bt203.2 then ((mummerlaw09_awake.f kj2).bind fun t210 => (some t210)) else (some false)) else (some false))) else (some false)) else (some false)) else (some false))))))) = some r := H
        have A11 := ak A110
        clear A110
        replace H := Option.bind_eq_some_iff.mp H
        obtain ⟨⟨t197, t198⟩, A120, H⟩ := H
        replace H : ((scopes_Ids.f a0).bind fun bt199 => ((mummerref09_Ids.f kj2 a0).bind fun bt203 => ((scopes_Check.f a0).bind fun t207 => ((mummerref09_Check.f kj2 a0).bind fun t208 => (if t207 = t208 then (if t195.toList = t197.toList then (if t196 = t198 then ((mummerlaw09_ints.f kj2 bt199.1 bt203.1).bind fun t209 => (if t209 = true then (if bt199.2 = bt203.2 then ((mummerlaw09_awake.f kj2).bind fun t210 => (some t210)) else (some false)) else (some false))) else (some false)) else (some false)) else (some false)))))) = some r := H
        have A12 := ak A120
        clear A120
        replace H := Option.bind_eq_some_iff.mp H
        obtain ⟨⟨t199, t200⟩, A130, H⟩ := H
        replace H : ((mummerref09_Ids.f kj2 a0).bind fun bt203 => ((scopes_Check.f a0).bind fun t207 => ((mummerref09_Check.f kj2 a0).bind fun t208 => (if t207 = t208 then (if t195.toList = t197.toList then (if t196 = t198 then ((mummerlaw09_ints.f kj2 t199 bt203.1).bind fun t209 => (if t209 = true then (if t200 = bt203.2 then ((mummerlaw09_awake.f kj2).bind fun t210 => (some t210)) else (some false)) else (some false))) else (some false)) else (some false)) else (some false))))) = some r := H
        have A13 := ak A130
        clear A130
        replace H := Option.bind_eq_some_iff.mp H
        obtain ⟨⟨t203, t204⟩, A140, H⟩ := H
        replace H : ((scopes_Check.f a0).bind fun t207 => ((mummerref09_Check.f kj2 a0).bind fun t208 => (if t207 = t208 then (if t195.toList = t197.toList then (if t196 = t198 then ((mummerlaw09_ints.f kj2 t199 t203).bind fun t209 => (if t209 = true then (if t200 = t204 then ((mummerlaw09_awake.f kj2).bind fun t210 => (some t210)) else (some false)) else (some false))) else (some false)) else (some false)) else (some false)))) = some r := H
        have A14 := ak A140
        clear A140
        replace H := Option.bind_eq_some_iff.mp H
        obtain ⟨t207, A150, H⟩ := H
        replace H : ((mummerref09_Check.f kj2 a0).bind fun t208 => (if t207 = t208 then (if t195.toList = t197.toList then (if t196 = t198 then ((mummerlaw09_ints.f kj2 t199 t203).bind fun t209 => (if t209 = true then (if t200 = t204 then ((mummerlaw09_awake.f kj2).bind fun t210 => (some t210)) else (some false)) else (some false))) else (some false)) else (some false)) else (some false))) = some r := H
        have A15 := ak A150
        clear A150
        replace H := Option.bind_eq_some_iff.mp H
        obtain ⟨t208, A160, H⟩ := H
        replace H : (if t207 = t208 then (if t195.toList = t197.toList then (if t196 = t198 then ((mummerlaw09_ints.f kj2 t199 t203).bind fun t209 => (if t209 = true then (if t200 = t204 then ((mummerlaw09_awake.f kj2).bind fun t210 => (some t210)) else (some false)) else (some false))) else (some false)) else (some false)) else (some false)) = some r := H
        have A16 := ak A160
        clear A160
        by_cases c17 : t207 = t208
        · rw [if_pos c17] at H
          have c17b0 : (t207 == t208) = true := beq_iff_eq.mpr c17
          have c17b1 : (t207 != t208) = false := bne_eq_false_iff_eq.mpr c17
          clear c17
          by_cases c18 : t195.toList = t197.toList
          · rw [if_pos c18] at H
            have c18b0 : (t195.toList == t197.toList) = true := beq_iff_eq.mpr c18
            have c18b1 : (t195.toList != t197.toList) = false := bne_eq_false_iff_eq.mpr c18
            clear c18
            by_cases c19 : t196 = t198
            · rw [if_pos c19] at H
              have c19b0 : (t196 == t198) = true := beq_iff_eq.mpr c19
              have c19b1 : (t196 != t198) = false := bne_eq_false_iff_eq.mpr c19
              clear c19
              replace H := Option.bind_eq_some_iff.mp H
              obtain ⟨t209, A200, H⟩ := H
              replace H : (if t209 = true then (if t200 = t204 then ((mummerlaw09_awake.f kj2).bind fun t210 => (some t210)) else (some false)) else (some false)) = some r := H
              have A20 := ak A200
              clear A200
              by_cases c21 : t209 = true
              · subst c21
                have H1 : (if t200 = t204 then ((mummerlaw09_awake.f kj2).bind fun t210 => (some t210)) else (some false)) = some r := by rw [if_pos rfl] at H; exact H
                clear H
                have H := H1
                clear H1
                by_cases c22 : t200 = t204
                · rw [if_pos c22] at H
                  have c22b0 : (t200 == t204) = true := beq_iff_eq.mpr c22
                  have c22b1 : (t200 != t204) = false := bne_eq_false_iff_eq.mpr c22
                  clear c22
                  replace H := Option.bind_eq_some_iff.mp H
                  obtain ⟨t210, A230, H⟩ := H
                  replace H : (some t210) = some r := H
                  have A23 := ak A230
                  clear A230
                  obtain rfl := Option.some.inj H
                  go_wp2_with (first | ((with_reducible refine gate_callee (f := 11) rfl ?_); refine goesL_ (some 33) rfl rfl Tryd.func11 (by kernel_rfl) rfl #[.slice A1 l1.length c1] rfl (by (try simp only [List.map_toArray, List.map_cons, List.map_nil]); first | done | rfl | (simp only [List.length_drop, List.length_take]; rfl)) ?_; (with_reducible refine (scopes_Of.calls _ _ l1 t195 t196 _ ?side1 ?side2 A11.out).mono ?_); (case side1 => repeat (first | exact (Kd.C_below HR1.out HB.out) | (with_reducible refine Kd.C_alloc ?_ _) | (with_reducible refine Kd.C_drewN ?_ _) | (with_reducible refine Kd.C_drew ?_))); (case side2 => exact HC1.out); rintro e w24 ⟨rfl, hb⟩; refine ⟨_, rfl, ?_⟩; have n0_ := ak (below_step (by repeat (first | (with_reducible first | exact HB.out | apply wA | apply wN | apply wD) | exact HB.out)) hb); clear HB; have HB := n0_; clear n0_; (try clear hb); (try clear hb2); (try clear hk); (try clear hi)) | ((with_reducible refine gate_callee (f := 12) rfl ?_); refine goesL_ (some 38) rfl rfl Tryd.func12 (by kernel_rfl) rfl #[.slice A1 l1.length c1] rfl (by (try simp only [List.map_toArray, List.map_cons, List.map_nil]); first | done | rfl | (simp only [List.length_drop, List.length_take]; rfl)) ?_; (with_reducible refine (mummerref09_Of.calls kj2 _ _ l1 t197 t198 _ ?side1 ?side2 A12.out).mono ?_); (case side1 => repeat (first | exact (Kd.C_below HR1.out HB.out) | (with_reducible refine Kd.C_alloc ?_ _) | (with_reducible refine Kd.C_drewN ?_ _) | (with_reducible refine Kd.C_drew ?_))); (case side2 => exact HC1.out); rintro e w25 ⟨rfl, hb⟩; refine ⟨_, rfl, ?_⟩; have n0_ := ak (below_step (by repeat (first | (with_reducible first | exact HB.out | apply wA | apply wN | apply wD) | exact HB.out)) hb); clear HB; have HB := n0_; clear n0_; (try clear hb); (try clear hb2); (try clear hk); (try clear hi)) | ((with_reducible refine gate_callee (f := 13) rfl ?_); refine goesL_ (some 43) rfl rfl Tryd.func13 (by kernel_rfl) rfl #[.string a0] rfl (by (try simp only [List.map_toArray, List.map_cons, List.map_nil]); first | done | rfl | (simp only [List.length_drop, List.length_take]; rfl)) ?_; (with_reducible refine (scopes_Ids.calls a0 t199 t200 _ A13.out).mono ?_); rintro e w26 ⟨v201, rfl, ho0, hb⟩; refine ⟨_, rfl, ?_⟩; have n0_ := ak (Kd.R_lower ho0 (below_size (by repeat (first | (with_reducible first | exact HB.out | apply wA | apply wN | apply wD) | exact HB.out)))); have n1_ := ak (below_step (by repeat (first | (with_reducible first | exact HB.out | apply wA | apply wN | apply wD) | exact HB.out)) hb); clear HB; have HO202 := n0_; have HB := n1_; clear n0_ n1_; (try clear hb); (try clear hb2); (try clear hk); (try clear hi); (try clear ho0)) | ((with_reducible refine gate_callee (f := 14) rfl ?_); refine goesL_ (some 48) rfl rfl Tryd.func14 (by kernel_rfl) rfl #[.string a0] rfl (by (try simp only [List.map_toArray, List.map_cons, List.map_nil]); first | done | rfl | (simp only [List.length_drop, List.length_take]; rfl)) ?_; (with_reducible refine (mummerref09_Ids.calls kj2 a0 t203 t204 _ A14.out).mono ?_); rintro e w27 ⟨v205, rfl, ho0, hb⟩; refine ⟨_, rfl, ?_⟩; have n0_ := ak (Kd.R_elder' (by (with_reducible repeat (first | apply Kd.R_alloc | apply Kd.R_drewN | apply Kd.R_drew)); exact HO202.out) (Kd.R_base ho0) hb); have n1_ := ak (Kd.R_lower (Kd.R_new' ho0 (Kd.R_lt (by (with_reducible repeat (first | apply Kd.R_alloc | apply Kd.R_drewN | apply Kd.R_drew)); exact HO202.out))) (below_size (by repeat (first | (with_reducible first | exact HB.out | apply wA | apply wN | apply wD) | exact HB.out)))); have n2_ := ak (below_step (by repeat (first | (with_reducible first | exact HB.out | apply wA | apply wN | apply wD) | exact HB.out)) hb); clear HO202; clear HB; have HO202 := n0_; have HO206 := n1_; have HB := n2_; clear n0_ n1_ n2_; (try clear hb); (try clear hb2); (try clear hk); (try clear hi); (try clear ho0)) | ((with_reducible refine gate_callee (f := 15) rfl ?_); refine goesL_ (some 52) rfl rfl Tryd.func15 (by kernel_rfl) rfl #[.string a0] rfl (by (try simp only [List.map_toArray, List.map_cons, List.map_nil]); first | done | rfl | (simp only [List.length_drop, List.length_take]; rfl)) ?_; (with_reducible refine (scopes_Check.calls a0 t207 _ A15.out).mono ?_); rintro e w28 ⟨rfl, hb⟩; refine ⟨_, rfl, ?_⟩; have n0_ := ak (Kd.R_below (by (with_reducible repeat (first | apply Kd.R_alloc | apply Kd.R_drewN | apply Kd.R_drew)); exact HO202.out) hb); have n1_ := ak (Kd.R_below (by (with_reducible repeat (first | apply Kd.R_alloc | apply Kd.R_drewN | apply Kd.R_drew)); exact HO206.out) hb); have n2_ := ak (below_step (by repeat (first | (with_reducible first | exact HB.out | apply wA | apply wN | apply wD) | exact HB.out)) hb); clear HO202; clear HO206; clear HB; have HO202 := n0_; have HO206 := n1_; have HB := n2_; clear n0_ n1_ n2_; (try clear hb); (try clear hb2); (try clear hk); (try clear hi)) | ((with_reducible refine gate_callee (f := 16) rfl ?_); refine goesL_ (some 54) rfl rfl Tryd.func16 (by kernel_rfl) rfl #[.string a0] rfl (by (try simp only [List.map_toArray, List.map_cons, List.map_nil]); first | done | rfl | (simp only [List.length_drop, List.length_take]; rfl)) ?_; (with_reducible refine (mummerref09_Check.calls kj2 a0 t208 _ A16.out).mono ?_); rintro e w' ⟨rfl, ⟨nd, rfl⟩⟩; refine ⟨_, rfl, ?_⟩; obtain ⟨Ao29, co29, eo29⟩ := Kd.R_slice HO202.out; subst eo29; obtain ⟨Ao30, co30, eo30⟩ := Kd.R_slice HO206.out; subst eo30) | (go_at_call 17; (with_reducible refine (mummerlaw09_ints.calls kj2 _ _ t199 _ _ t203 true _ ?side1 ?side2 ?side3 ?side4 A20.out).mono ?_); (case side1 => repeat (first | exact (Kd.R_reads' HO202.out).2.2 | (with_reducible refine Kd.C_alloc ?_ _) | (with_reducible refine Kd.C_drewN ?_ _) | (with_reducible refine Kd.C_drew ?_))); (case side2 => exact (Kd.R_reads' HO202.out).2.1); (case side3 => repeat (first | exact (Kd.R_reads' HO206.out).2.2 | (with_reducible refine Kd.C_alloc ?_ _) | (with_reducible refine Kd.C_drewN ?_ _) | (with_reducible refine Kd.C_drew ?_))); (case side4 => exact (Kd.R_reads' HO206.out).2.1); rintro e w' ⟨rfl, ⟨nd, rfl⟩⟩) | (go_at_call 10; (with_reducible refine (mummerlaw09_awake.calls kj2  t210 _ hrt A23.out ⟨Sc.Tab.stay HT.out (by repeat (first | (with_reducible first | exact HB.out | apply wA | apply wN | apply wD) | exact HB.out | (refine below_set ?_ (by assumption))))⟩).mono ?_); rintro e w31 ⟨rfl, hb⟩; have n0_ := ak (Kd.R_below (by (with_reducible repeat (first | apply Kd.R_alloc | apply Kd.R_drewN | apply Kd.R_drew)); exact HO202.out) hb); have n1_ := ak (Kd.R_below (by (with_reducible repeat (first | apply Kd.R_alloc | apply Kd.R_drewN | apply Kd.R_drew)); exact HO206.out) hb); have n2_ := ak (below_step (by repeat (first | (with_reducible first | exact HB.out | apply wA | apply wN | apply wD) | exact HB.out)) hb); clear HO202; clear HO206; clear HB; have HO202 := n0_; have HO206 := n1_; have HB := n2_; clear n0_ n1_ n2_; (try clear hb); (try clear hb2); (try clear hk); (try clear hi)))
                  go_ret
                  exact ⟨by first | rfl | (simp [errW_none, errW_some] <;> rfl) | (simp [*, errW_none, errW_some] <;> rfl), by repeat (first | (with_reducible first | exact HB.out | apply wA | apply wN | apply wD) | exact HB.out)⟩
                · rw [if_neg c22] at H
                  have c22b0 : (t200 == t204) = false := beq_eq_false_iff_ne.mpr c22
                  have c22b1 : (t200 != t204) = true := bne_iff_ne.mpr c22
                  exact absurd ((Option.some.inj H).trans hrt.out) (by decide)
              · replace c21 := Bool.eq_false_iff.mpr c21
                subst c21
                have H1 : (some false) = some r := by rw [if_neg (show ¬ (false = true) by decide)] at H; exact H
                clear H
                have H := H1
                clear H1
                exact absurd ((Option.some.inj H).trans hrt.out) (by decide)
            · rw [if_neg c19] at H
              have c19b0 : (t196 == t198) = false := beq_eq_false_iff_ne.mpr c19
              have c19b1 : (t196 != t198) = true := bne_iff_ne.mpr c19
              exact absurd ((Option.some.inj H).trans hrt.out) (by decide)
          · rw [if_neg c18] at H
            have c18b0 : (t195.toList == t197.toList) = false := beq_eq_false_iff_ne.mpr c18
            have c18b1 : (t195.toList != t197.toList) = true := bne_iff_ne.mpr c18
            exact absurd ((Option.some.inj H).trans hrt.out) (by decide)
        · rw [if_neg c17] at H
          have c17b0 : (t207 == t208) = false := beq_eq_false_iff_ne.mpr c17
          have c17b1 : (t207 != t208) = true := bne_iff_ne.mpr c17
          exact absurd ((Option.some.inj H).trans hrt.out) (by decide)

end Go.Proofs.YtkalbdeopogbpaaDoor.P
