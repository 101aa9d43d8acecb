import Derived.Test.YtkalbdeopogbpaaGreatDoorKX38
import Derived.Test.YtkalbdeopogbpaaGreatDoorKX39
import Derived.Test.YtkalbdeopogbpaaGreatDoorKX40
namespace Go.Proofs.YtkalbdeopogbpaaGreatDoor.P
open Go.RowKit Go.Proofs.YtkalbdeopogbpaaGreatDoorW.PrintWords Go.Proofs.YtkalbdeopogbpaaGreatDoorW.PrintLast Go.Proofs.YtkalbdeopogbpaaGreatDoorW.PrintMore
attribute [local go_sem] max2_int min2_int max_two min_two max_three min_three max_four min_four   -- for this text's walks alone
set_option linter.unusedVariables false
set_option linter.unusedSimpArgs false
mutual
def mummerlaw09_ScopesTexts.j0 : Nat → ByteArray → ByteArray → Bool → Option (Bool)
  | 0, _, _, _ => none
  | k + 1, x0, x1, x24 => if x24 = true then ((mummerlaw09_awake.f k).bind fun t333 => (some t333)) else ((scopes_Print.f x0).bind fun bt334 => ((mummerref09_Print.f k x0).bind fun bt336 => ((scopes_Parse.f k x1).bind fun bt338 => ((mummerref09_Parse.f k x1).bind fun bt340 => (if bt334.1.toList = bt336.1.toList then (if bt334.2 = bt336.2 then (if bt338.1.toList = bt340.1.toList then (if bt338.2 = bt340.2 then (if bt334.2 = 0 then ((scopes_Parse.f k bt334.1).bind fun bt342 => (if bt342.1.toList = x0.toList then (if bt342.2 = 0 then (mummerlaw09_ScopesTexts.j1 k x1 bt338.1 bt338.2) else (some false)) else (some false))) else (mummerlaw09_ScopesTexts.j1 k x1 bt338.1 bt338.2)) else (some false)) else (some false)) else (some false)) else (some false))))))
def mummerlaw09_ScopesTexts.j1 : Nat → ByteArray → ByteArray → Int → Option (Bool)
  | 0, _, _, _ => none
  | k + 1, x1, x9, x10 => if x10 = 0 then ((scopes_Print.f x9).bind fun bt344 => (if bt344.1.toList = x1.toList then (if bt344.2 = 0 then ((mummerlaw09_awake.f k).bind fun t346 => (some t346)) else (some false)) else (some false))) else ((mummerlaw09_awake.f k).bind fun t347 => (some t347))
end
def mummerlaw09_ScopesTexts.f (k : Nat) (a0 : ByteArray) (a1 : ByteArray) : Option (Bool) := if (a0.size : Int) > 1200 then (mummerlaw09_ScopesTexts.j0 k a0 a1 true) else (mummerlaw09_ScopesTexts.j0 k a0 a1 (decide ((a1.size : Int) > 1000)))
set_option maxHeartbeats 8000000 in
set_option maxRecDepth 100000 in
theorem mummerlaw09_ScopesTexts.calls (k : Nat) (a0 : ByteArray) (a1 : ByteArray) (r : Bool) (w : World) (hrt : Aside0 (r = true)) (h : mummerlaw09_ScopesTexts.f k a0 a1 = some r) (HT : Aside0 (Wd.All w)) :
    Calls Tryz.prog 3 #[.string a0, .string a1] w fun e w' => e = .returned (.bool r) ∧ Below w.heap.size w w' := by
  have HB := ak (Below.refl w.heap.size w)
  have H : (if (a0.size : Int) > 1200 then (mummerlaw09_ScopesTexts.j0 k a0 a1 true) else (mummerlaw09_ScopesTexts.j0 k a0 a1 (decide ((a1.size : Int) > 1000)))) = some r := h
  clear h
  have HC3 := ak H
  clear H
  go_enter Tryz.func3, Tryz.ntmps3
  go_upto_region 1 with (fail)
  go_cut [24] (fun v24 wc => ∃ (kq : Nat) (x24_2 : Bool), v24 = .bool x24_2 ∧ Aside0 (mummerlaw09_ScopesTexts.j0 kq a0 a1 x24_2 = some r) ∧ Aside0 (kq ≤ k) ∧ Aside0 (Below w.heap.size w wc))
  case first =>
    have H := HC3.out
    clear HC3
    by_cases c4 : (a0.size : Int) > 1200
    · rw [if_pos c4] at H
      have c4b0 : decide (1200 < (a0.size : Int)) = true := decide_eq_true c4
      have c4b1 : decide (1200 < a0.size) = true := decide_eq_true (by omega)
      clear c4
      (first | rw [c4b0] | (simp only [i64_w, i32_w]; rw [c4b0]) | skip)
      have H' := ak H
      clear H
      go_wp2
      go_meet
      case rel => exact ⟨_, (true), (by first | rfl | (simp; done) | (simp [*]; done)), H', ⟨by first | omega | exact Nat.le_refl _⟩, ⟨by repeat (first | (with_reducible first | exact HB.out | apply wA | apply wN | apply wD) | exact HB.out)⟩⟩
    · rw [if_neg c4] at H
      have c4b0 : decide (1200 < (a0.size : Int)) = false := decide_eq_false c4
      have c4b1 : decide (1200 < a0.size) = false := decide_eq_false (by omega)
      clear c4
      (first | rw [c4b0] | (simp only [i64_w, i32_w]; rw [c4b0]) | skip)
      have H' := ak H
      clear H
      go_wp2
      go_meet
      case rel => exact ⟨_, (decide ((a1.size : Int) > 1000)), (by first | rfl | (simp; done) | (simp [*]; done)), H', ⟨by first | omega | exact Nat.le_refl _⟩, ⟨by repeat (first | (with_reducible first | exact HB.out | apply wA | apply wN | apply wD) | exact HB.out)⟩⟩
  case rest =>
    clear HC3
    try clear p2
    try clear c3
    try clear c4
    try clear c4b0
    try clear c4b1
    obtain ⟨kq, x24_2, rfl, HA, HJ2, HB⟩ := hcut
    cases kq with
    | zero => exact absurd HA.out (by simp [mummerlaw09_ScopesTexts.j0])
    | succ kj2 =>
      have H := HA.out
      clear HA
      simp only [mummerlaw09_ScopesTexts.j0] at H
      by_cases c5 : x24_2 = true
      · subst c5
        have H1 : ((mummerlaw09_awake.f kj2).bind fun t333 => (some t333)) = some r := by rw [if_pos rfl] at H; exact H
        clear H
        have H := H1
        clear H1
        replace H := Option.bind_eq_some_iff.mp H
        obtain ⟨t333, A60, H⟩ := H
        replace H : (some t333) = some r := H
        have A6 := ak A60
        clear A60
        obtain rfl := Option.some.inj H
        go_wp2_with (first | ((with_reducible refine gate_callee (f := 4) rfl ?_); refine goesL_ (some 25) rfl rfl Tryz.func4 (by kernel_rfl) rfl #[] rfl (by (try simp only [List.map_toArray, List.map_cons, List.map_nil]); first | done | rfl | (simp only [List.length_drop, List.length_take]; rfl)) ?_; (with_reducible refine (mummerlaw09_awake.calls kj2  t333 _ hrt A6.out ⟨Wd.All.stay HT.out (by repeat (first | (with_reducible first | exact HB.out | apply wA | apply wN | apply wD) | exact HB.out | (refine below_set ?_ (by assumption)) | (refine below_set ?_ (Aside0.out (by assumption)))))⟩).mono ?_); rintro e w7 ⟨rfl, hb⟩; refine ⟨_, rfl, ?_⟩; have n0_ := ak (below_step (by repeat (first | (with_reducible first | exact HB.out | apply wA | apply wN | apply wD) | exact HB.out)) hb); clear HB; have HB := n0_; clear n0_; (try clear hb); (try clear hb2); (try clear hk); (try clear hi)))
        go_ret
        exact ⟨by first | rfl | (simp [errW_none, errW_some] <;> rfl) | (simp [*, errW_none, errW_some] <;> rfl), by repeat (first | (with_reducible first | exact HB.out | apply wA | apply wN | apply wD) | exact HB.out)⟩
      · replace c5 := Bool.eq_false_iff.mpr c5
        subst c5
        have H1 : ((scopes_Print.f a0).bind fun bt334 => ((mummerref09_Print.f kj2 a0).bind fun bt336 => ((scopes_Parse.f kj2 a1).bind fun bt338 => ((mummerref09_Parse.f kj2 a1).bind fun bt340 => (if bt334.1.toList = bt336.1.toList then (if bt334.2 = bt336.2 then (if bt338.1.toList = bt340.1.toList then (if bt338.2 = bt340.2 then (if bt334.2 = 0 then ((scopes_Parse.f kj2 bt334.1).bind fun bt342 => (if bt342.1.toList = a0.toList then (if bt342.2 = 0 then (mummerlaw09_ScopesTexts.j1 kj2 a1 bt338.1 bt338.2) else (some false)) else (some false))) else (mummerlaw09_ScopesTexts.j1 kj2 a1 bt338.1 bt338.2)) else (some false)) else (some false)) else (some false)) else (some false)))))) = some r := by rw [if_neg (show ¬ (false = true) by decide)] at H; exact H
        clear H
        have H := H1
        clear H1
        replace H := Option.bind_eq_some_iff.mp H
        obtain ⟨⟨t334, t335⟩, A80, H⟩ := H
        replace H : ((mummerref09_Print.f kj2 a0).bind fun bt336 => ((scopes_Parse.f kj2 a1).bind fun bt338 => ((mummerref09_Parse.f kj2 a1).bind fun bt340 => (if t334.toList = bt336.1.toList then (if t335 = bt336.2 then (if bt338.1.toList = bt340.1.toList then (if bt338.2 = bt340.2 then (if t335 = 0 then ((scopes_Parse.f kj2 t334).bind fun bt342 => (if bt342.1.toList = a0.toList then (if bt342.2 = 0 then (mummerlaw09_ScopesTexts.j1 kj2 a1 bt338.1 bt338.2) else (some false)) else (some false))) else (mummerlaw09_ScopesTexts.j1 kj2 a1 bt338.1 bt338.2)) else (some false)) else (some false)) else (some false)) else (some false))))) = some r := H
        have A8 := ak A80
        clear A80
        replace H := Option.bind_eq_some_iff.mp H
        obtain ⟨⟨t336, t337⟩, A90, H⟩ := H
        replace H : ((scopes_Parse.f kj2 a1).bind fun bt338 => ((mummerref09_Parse.f kj2 a1).bind fun bt340 => (if t334.toList = t336.toList then (if t335 = t337 then (if bt338.1.toList = bt340.1.toList then (if bt338.2 = bt340.2 then (if t335 = 0 then ((scopes_Parse.f kj2 t334).bind fun bt342 => (if bt342.1.toList = a0.toList then (if bt342.2 = 0 then (mummerlaw09_ScopesTexts.j1 kj2 a1 bt338.1 bt338.2) else (some false)) else (some false))) else (mummerlaw09_ScopesTexts.j1 kj2 a1 bt338.1 bt338.2)) else (some false)) else (some false)) else (some false)) else (some false)))) = some r := H
        have A9 := ak A90
        clear A90
        replace H := Option.bind_eq_some_iff.mp H
        obtain ⟨⟨t338, t339⟩, A100, H⟩ := H
        replace H : ((mummerref09_Parse.f kj2 a1).bind fun bt340 => (if t334.toList = t336.toList then (if t335 = t337 then (if t338.toList = bt340.1.toList then (if t339 = bt340.2 then (if t335 = 0 then ((scopes_Parse.f kj2 t334).bind fun bt342 => (if bt342.1.toList = a0.toList then (if bt342.2 = 0 then (mummerlaw09_ScopesTexts.j1 kj2 a1 t338 t339) else (some false)) else (some false))) else (mummerlaw09_ScopesTexts.j1 kj2 a1 t338 t339)) else (some false)) else (some false)) else (some false)) else (some false))) = some r := H
        have A10 := ak A100
        clear A100
        replace H := Option.bind_eq_some_iff.mp H
        obtain ⟨⟨t340, t341⟩, A110, H⟩ := H
        replace H : (if t334.toList = t336.toList then (if t335 = t337 then (if t338.toList = t340.toList then (if t339 = t341 then (if t335 = 0 then ((scopes_Parse.f kj2 t334).bind fun bt342 => (if bt342.1.toList = a0.toList then (if bt342.2 = 0 then (mummerlaw09_ScopesTexts.j1 kj2 a1 t338 t339) else (some false)) else (some false))) else (mummerlaw09_ScopesTexts.j1 kj2 a1 t338 t339)) else (some false)) else (some false)) else (some false)) else (some false)) = some r := H
        have A11 := ak A110
        clear A110
        by_cases c12 : t334.toList = t336.toList
        · rw [if_pos c12] at H
          have c12b0 : (t334.toList == t336.toList) = true := beq_iff_eq.mpr c12
          have c12b1 : (t334.toList != t336.toList) = false := bne_eq_false_iff_eq.mpr c12
          clear c12
          by_cases c13 : t335 = t337
          · rw [if_pos c13] at H
            have c13b0 : (t335 == t337) = true := beq_iff_eq.mpr c13
            have c13b1 : (t335 != t337) = false := bne_eq_false_iff_eq.mpr c13
            clear c13
            by_cases c14 : t338.toList = t340.toList
            · rw [if_pos c14] at H
              have c14b0 : (t338.toList == t340.toList) = true := beq_iff_eq.mpr c14
              have c14b1 : (t338.toList != t340.toList) = false := bne_eq_false_iff_eq.mpr c14
              clear c14
              by_cases c15 : t339 = t341
              · rw [if_pos c15] at H
                have c15b0 : (t339 == t341) = true := beq_iff_eq.mpr c15
                have c15b1 : (t339 != t341) = false := bne_eq_false_iff_eq.mpr c15
                clear c15
                have HC16 := ak H
                clear H
                go_upto_if 65 with (first | ((with_reducible refine gate_callee (f := 5) rfl ?_); refine goesL_ (some 28) rfl rfl Tryz.func5 (by kernel_rfl) rfl #[.string a0] rfl (by (try simp only [List.map_toArray, List.map_cons, List.map_nil]); first | done | rfl | (simp only [List.length_drop, List.length_take]; rfl)) ?_; (with_reducible refine (scopes_Print.calls a0 t334 t335 _ A8.out ⟨Wd.All.stay HT.out (by repeat (first | (with_reducible first | exact HB.out | apply wA | apply wN | apply wD) | exact HB.out | (refine below_set ?_ (by assumption)) | (refine below_set ?_ (Aside0.out (by assumption)))))⟩).mono ?_); rintro e w17 ⟨rfl, hb⟩; refine ⟨_, rfl, ?_⟩; have n0_ := ak (below_step (by repeat (first | (with_reducible first | exact HB.out | apply wA | apply wN | apply wD) | exact HB.out)) hb); clear HB; have HB := n0_; clear n0_; (try clear hb); (try clear hb2); (try clear hk); (try clear hi)) | ((with_reducible refine gate_callee (f := 6) rfl ?_); refine goesL_ (some 33) rfl rfl Tryz.func6 (by kernel_rfl) rfl #[.string a0] rfl (by (try simp only [List.map_toArray, List.map_cons, List.map_nil]); first | done | rfl | (simp only [List.length_drop, List.length_take]; rfl)) ?_; (with_reducible refine (mummerref09_Print.calls kj2 a0 t336 t337 _ A9.out).mono ?_); rintro e w18 ⟨rfl, hb⟩; refine ⟨_, rfl, ?_⟩; have n0_ := ak (below_step (by repeat (first | (with_reducible first | exact HB.out | apply wA | apply wN | apply wD) | exact HB.out)) hb); clear HB; have HB := n0_; clear n0_; (try clear hb); (try clear hb2); (try clear hk); (try clear hi)) | ((with_reducible refine gate_callee (f := 7) rfl ?_); refine goesL_ (some 38) rfl rfl Tryz.func7 (by kernel_rfl) rfl #[.string a1] rfl (by (try simp only [List.map_toArray, List.map_cons, List.map_nil]); first | done | rfl | (simp only [List.length_drop, List.length_take]; rfl)) ?_; (with_reducible refine (scopes_Parse.calls kj2 a1 t338 t339 _ A10.out ⟨Wd.All.stay HT.out (by repeat (first | (with_reducible first | exact HB.out | apply wA | apply wN | apply wD) | exact HB.out | (refine below_set ?_ (by assumption)) | (refine below_set ?_ (Aside0.out (by assumption)))))⟩).mono ?_); rintro e w19 ⟨rfl, hb⟩; refine ⟨_, rfl, ?_⟩; have n0_ := ak (below_step (by repeat (first | (with_reducible first | exact HB.out | apply wA | apply wN | apply wD) | exact HB.out)) hb); clear HB; have HB := n0_; clear n0_; (try clear hb); (try clear hb2); (try clear hk); (try clear hi)) | ((with_reducible refine gate_callee (f := 8) rfl ?_); refine goesL_ (some 43) rfl rfl Tryz.func8 (by kernel_rfl) rfl #[.string a1] rfl (by (try simp only [List.map_toArray, List.map_cons, List.map_nil]); first | done | rfl | (simp only [List.length_drop, List.length_take]; rfl)) ?_; (with_reducible refine (mummerref09_Parse.calls kj2 a1 t340 t341 _ A11.out).mono ?_); rintro e w20 ⟨rfl, hb⟩; refine ⟨_, rfl, ?_⟩; have n0_ := ak (below_step (by repeat (first | (with_reducible first | exact HB.out | apply wA | apply wN | apply wD) | exact HB.out)) hb); clear HB; have HB := n0_; clear n0_; (try clear hb); (try clear hb2); (try clear hk); (try clear hi)))
                (try simp only [Act.put, List.setIfInBounds_toArray, List.set_cons_zero, List.set_cons_succ])
                go_cut [] (fun wc => ∃ (kq : Nat), Aside0 (mummerlaw09_ScopesTexts.j1 kq a1 t338 t339 = some r) ∧ Aside0 (kq ≤ kj2) ∧ Aside0 (Below w.heap.size w wc))
                case first =>
                  have H := HC16.out
                  clear HC16
                  by_cases c21 : t335 = 0
                  · rw [if_pos c21] at H
                    have c21b0 : (t335 == 0) = true := beq_iff_eq.mpr c21
                    have c21b1 : (t335 != 0) = false := bne_eq_false_iff_eq.mpr c21
                    clear c21
                    (first | rw [c21b0] | (simp only [i64_w, i32_w]; rw [c21b0]) | skip)
                    replace H := Option.bind_eq_some_iff.mp H
                    obtain ⟨⟨t342, t343⟩, A220, H⟩ := H
                    replace H : (if t342.toList = a0.toList then (if t343 = 0 then (mummerlaw09_ScopesTexts.j1 kj2 a1 t338 t339) else (some false)) else (some false)) = some r := H
                    have A22 := ak A220
                    clear A220
                    by_cases c23 : t342.toList = a0.toList
                    · rw [if_pos c23] at H
                      have c23b0 : (t342.toList == a0.toList) = true := beq_iff_eq.mpr c23
                      have c23b1 : (t342.toList != a0.toList) = false := bne_eq_false_iff_eq.mpr c23
                      clear c23
                      by_cases c24 : t343 = 0
                      · rw [if_pos c24] at H
                        have c24b0 : (t343 == 0) = true := beq_iff_eq.mpr c24
                        have c24b1 : (t343 != 0) = false := bne_eq_false_iff_eq.mpr c24
                        clear c24
                        have H' := ak H
                        clear H
                        go_wp2_with (first | ((with_reducible refine gate_callee (f := 7) rfl ?_); refine goesL_ (some 68) rfl rfl Tryz.func7 (by kernel_rfl) rfl #[.string t334] rfl (by (try simp only [List.map_toArray, List.map_cons, List.map_nil]); first | done | rfl | (simp only [List.length_drop, List.length_take]; rfl)) ?_; (with_reducible refine (scopes_Parse.calls kj2 t334 t342 t343 _ A22.out ⟨Wd.All.stay HT.out (by repeat (first | (with_reducible first | exact HB.out | apply wA | apply wN | apply wD) | exact HB.out | (refine below_set ?_ (by assumption)) | (refine below_set ?_ (Aside0.out (by assumption)))))⟩).mono ?_); rintro e w25 ⟨rfl, hb⟩; refine ⟨_, rfl, ?_⟩; have n0_ := ak (below_step (by repeat (first | (with_reducible first | exact HB.out | apply wA | apply wN | apply wD) | exact HB.out)) hb); clear HB; have HB := n0_; clear n0_; (try clear hb); (try clear hb2); (try clear hk); (try clear hi)))
                        go_meet
                        case rel => exact ⟨_, H', ⟨by have := HJ2.out; first | omega | exact Nat.le_refl _⟩, ⟨by repeat (first | (with_reducible first | exact HB.out | apply wA | apply wN | apply wD) | exact HB.out)⟩⟩
                      · rw [if_neg c24] at H
                        have c24b0 : (t343 == 0) = false := beq_eq_false_iff_ne.mpr c24
                        have c24b1 : (t343 != 0) = true := bne_iff_ne.mpr c24
                        exact absurd ((Option.some.inj H).trans hrt.out) (by decide)
                    · rw [if_neg c23] at H
                      have c23b0 : (t342.toList == a0.toList) = false := beq_eq_false_iff_ne.mpr c23
                      have c23b1 : (t342.toList != a0.toList) = true := bne_iff_ne.mpr c23
                      exact absurd ((Option.some.inj H).trans hrt.out) (by decide)
                  · rw [if_neg c21] at H
                    have c21b0 : (t335 == 0) = false := beq_eq_false_iff_ne.mpr c21
                    have c21b1 : (t335 != 0) = true := bne_iff_ne.mpr c21
                    (first | rw [c21b0] | (simp only [i64_w, i32_w]; rw [c21b0]) | skip)
                    have H' := ak H
                    clear H
                    go_wp2
                    go_meet
                    case rel => exact ⟨_, H', ⟨by have := HJ2.out; first | omega | exact Nat.le_refl _⟩, ⟨by repeat (first | (with_reducible first | exact HB.out | apply wA | apply wN | apply wD) | exact HB.out)⟩⟩
                case rest =>
                  clear HC16
                  try clear c1
                  try clear c2
                  try clear p2
                  try clear c3
                  try clear c4
                  try clear c4b0
                  try clear c4b1
                  try clear c5
                  try clear c6
                  try clear c7
                  try clear c8
                  try clear c12
                  try clear c12b0
                  try clear c12b1
                  try clear c13
                  try clear c13b0
                  try clear c13b1
                  try clear c14
                  try clear c14b0
                  try clear c14b1
                  try clear c15
                  try clear c15b0
                  try clear c15b1
                  try clear c21
                  try clear c21b0
                  try clear c21b1
                  try clear c23
                  try clear c23b0
                  try clear c23b1
                  try clear c24
                  try clear c24b0
                  try clear c24b1
                  try clear p2
                  obtain ⟨kq, HA, HJ15, HB⟩ := hcut
                  cases kq with
                  | zero => exact absurd HA.out (by simp [mummerlaw09_ScopesTexts.j1])
                  | succ kj15 =>
                    have H := HA.out
                    clear HA
                    simp only [mummerlaw09_ScopesTexts.j1] at H
                    by_cases c26 : t339 = 0
                    · rw [if_pos c26] at H
                      have c26b0 : (t339 == 0) = true := beq_iff_eq.mpr c26
                      have c26b1 : (t339 != 0) = false := bne_eq_false_iff_eq.mpr c26
                      clear c26
                      replace H := Option.bind_eq_some_iff.mp H
                      obtain ⟨⟨t344, t345⟩, A270, H⟩ := H
                      replace H : (if t344.toList = a1.toList then (if t345 = 0 then ((mummerlaw09_awake.f kj15).bind fun t346 => (some t346)) else (some false)) else (some false)) = some r := H
                      have A27 := ak A270
                      clear A270
                      by_cases c28 : t344.toList = a1.toList
                      · rw [if_pos c28] at H
                        have c28b0 : (t344.toList == a1.toList) = true := beq_iff_eq.mpr c28
                        have c28b1 : (t344.toList != a1.toList) = false := bne_eq_false_iff_eq.mpr c28
                        clear c28
                        by_cases c29 : t345 = 0
                        · rw [if_pos c29] at H
                          have c29b0 : (t345 == 0) = true := beq_iff_eq.mpr c29
                          have c29b1 : (t345 != 0) = false := bne_eq_false_iff_eq.mpr c29
                          clear c29
                          replace H := Option.bind_eq_some_iff.mp H
                          obtain ⟨t346, A300, H⟩ := H
                          replace H : (some t346) = some r := H
                          have A30 := ak A300
                          clear A300
                          obtain rfl := Option.some.inj H
                          go_wp2_with (first | ((with_reducible refine gate_callee (f := 5) rfl ?_); refine goesL_ (some 82) rfl rfl Tryz.func5 (by kernel_rfl) rfl #[.string t338] rfl (by (try simp only [List.map_toArray, List.map_cons, List.map_nil]); first | done | rfl | (simp only [List.length_drop, List.length_take]; rfl)) ?_; (with_reducible refine (scopes_Print.calls t338 t344 t345 _ A27.out ⟨Wd.All.stay HT.out (by repeat (first | (with_reducible first | exact HB.out | apply wA | apply wN | apply wD) | exact HB.out | (refine below_set ?_ (by assumption)) | (refine below_set ?_ (Aside0.out (by assumption)))))⟩).mono ?_); rintro e w31 ⟨rfl, hb⟩; refine ⟨_, rfl, ?_⟩; have n0_ := ak (below_step (by repeat (first | (with_reducible first | exact HB.out | apply wA | apply wN | apply wD) | exact HB.out)) hb); clear HB; have HB := n0_; clear n0_; (try clear hb); (try clear hb2); (try clear hk); (try clear hi)) | ((with_reducible refine gate_callee (f := 4) rfl ?_); refine goesL_ (some 92) rfl rfl Tryz.func4 (by kernel_rfl) rfl #[] rfl (by (try simp only [List.map_toArray, List.map_cons, List.map_nil]); first | done | rfl | (simp only [List.length_drop, List.length_take]; rfl)) ?_; (with_reducible refine (mummerlaw09_awake.calls kj15  t346 _ hrt A30.out ⟨Wd.All.stay HT.out (by repeat (first | (with_reducible first | exact HB.out | apply wA | apply wN | apply wD) | exact HB.out | (refine below_set ?_ (by assumption)) | (refine below_set ?_ (Aside0.out (by assumption)))))⟩).mono ?_); rintro e w32 ⟨rfl, hb⟩; refine ⟨_, rfl, ?_⟩; have n0_ := ak (below_step (by repeat (first | (with_reducible first | exact HB.out | apply wA | apply wN | apply wD) | exact HB.out)) hb); clear HB; have HB := n0_; clear n0_; (try clear hb); (try clear hb2); (try clear hk); (try clear hi)))
                          go_ret
                          exact ⟨by first | rfl | (simp [errW_none, errW_some] <;> rfl) | (simp [*, errW_none, errW_some] <;> rfl), by repeat (first | (with_reducible first | exact HB.out | apply wA | apply wN | apply wD) | exact HB.out)⟩
                        · rw [if_neg c29] at H
                          have c29b0 : (t345 == 0) = false := beq_eq_false_iff_ne.mpr c29
                          have c29b1 : (t345 != 0) = true := bne_iff_ne.mpr c29
                          exact absurd ((Option.some.inj H).trans hrt.out) (by decide)
                      · rw [if_neg c28] at H
                        have c28b0 : (t344.toList == a1.toList) = false := beq_eq_false_iff_ne.mpr c28
                        have c28b1 : (t344.toList != a1.toList) = true := bne_iff_ne.mpr c28
                        exact absurd ((Option.some.inj H).trans hrt.out) (by decide)
                    · rw [if_neg c26] at H
                      have c26b0 : (t339 == 0) = false := beq_eq_false_iff_ne.mpr c26
                      have c26b1 : (t339 != 0) = true := bne_iff_ne.mpr c26
                      replace H := Option.bind_eq_some_iff.mp H
                      obtain ⟨t347, A330, H⟩ := H
                      replace H : (some t347) = some r := H
                      have A33 := ak A330
                      clear A330
                      obtain rfl := Option.some.inj H
                      go_wp2_with (first | ((with_reducible refine gate_callee (f := 4) rfl ?_); refine goesL_ (some 92) rfl rfl Tryz.func4 (by kernel_rfl) rfl #[] rfl (by (try simp only [List.map_toArray, List.map_cons, List.map_nil]); first | done | rfl | (simp only [List.length_drop, List.length_take]; rfl)) ?_; (with_reducible refine (mummerlaw09_awake.calls kj15  t347 _ hrt A33.out ⟨Wd.All.stay HT.out (by repeat (first | (with_reducible first | exact HB.out | apply wA | apply wN | apply wD) | exact HB.out | (refine below_set ?_ (by assumption)) | (refine below_set ?_ (Aside0.out (by assumption)))))⟩).mono ?_); rintro e w34 ⟨rfl, hb⟩; refine ⟨_, rfl, ?_⟩; have n0_ := ak (below_step (by repeat (first | (with_reducible first | exact HB.out | apply wA | apply wN | apply wD) | exact HB.out)) hb); clear HB; have HB := n0_; clear n0_; (try clear hb); (try clear hb2); (try clear hk); (try clear hi)))
                      go_ret
                      exact ⟨by first | rfl | (simp [errW_none, errW_some] <;> rfl) | (simp [*, errW_none, errW_some] <;> rfl), by repeat (first | (with_reducible first | exact HB.out | apply wA | apply wN | apply wD) | exact HB.out)⟩
              · rw [if_neg c15] at H
                have c15b0 : (t339 == t341) = false := beq_eq_false_iff_ne.mpr c15
                have c15b1 : (t339 != t341) = true := bne_iff_ne.mpr c15
                exact absurd ((Option.some.inj H).trans hrt.out) (by decide)
            · rw [if_neg c14] at H
              have c14b0 : (t338.toList == t340.toList) = false := beq_eq_false_iff_ne.mpr c14
              have c14b1 : (t338.toList != t340.toList) = true := bne_iff_ne.mpr c14
              exact absurd ((Option.some.inj H).trans hrt.out) (by decide)
          · rw [if_neg c13] at H
            have c13b0 : (t335 == t337) = false := beq_eq_false_iff_ne.mpr c13
            have c13b1 : (t335 != t337) = true := bne_iff_ne.mpr c13
            exact absurd ((Option.some.inj H).trans hrt.out) (by decide)
        · rw [if_neg c12] at H
          have c12b0 : (t334.toList == t336.toList) = false := beq_eq_false_iff_ne.mpr c12
          have c12b1 : (t334.toList != t336.toList) = true := bne_iff_ne.mpr c12
          exact absurd ((Option.some.inj H).trans hrt.out) (by decide)
end Go.Proofs.YtkalbdeopogbpaaGreatDoor.P
