-- Written by wip/tools/myprint.py of this session over the kit's print; Lean checks it.
import Derived.Test.YtkalbdeopogbpaaDoorPx0
import Derived.Test.YtkalbdeopogbpaaDoorPx1
import Derived.Test.YtkalbdeopogbpaaDoorPx5
import Derived.Test.YtkalbdeopogbpaaDoorPx23
namespace Go.Proofs.YtkalbdeopogbpaaDoor.P
open Go.RowKit Go.Proofs.YtkalbdeopogbpaaDoorW.PrintWords Go.Proofs.YtkalbdeopogbpaaDoorW.PrintLast Go.Proofs.YtkalbdeopogbpaaDoorW.PrintMore
attribute [local go_sem] max2_int min2_int max_two min_two max_three min_three max_four min_four   -- for this text's walks alone
set_option linter.unusedVariables false
set_option linter.unusedSimpArgs false

/-! ### mummerlaw09_ScopesLattice: function 6 -/
def mummerlaw09_ScopesLattice.j0 : Nat → ByteArray → ByteArray → ByteArray → Bool → Option (Bool)
  | 0, _, _, _, _ => none
  | k + 1, x0, x1, x2, x52 => if x52 = true then ((mummerlaw09_awake.f k).bind fun t291 => (some t291)) else ((scopes_Ids.f x0).bind fun bt292 => ((scopes_Of.f bt292.1).bind fun bt296 => ((scopes_Union.f k x0 x1).bind fun bt298 => ((scopes_Union.f k x1 x0).bind fun bt300 => (if bt292.2 = 0 then (if bt296.2 = 0 then (if bt296.1.toList = x0.toList then (if bt298.1.toList = bt300.1.toList then (if bt298.2 = bt300.2 then ((scopes_Meet.f k x0 x1).bind fun bt302 => ((scopes_Meet.f k x1 x0).bind fun bt304 => ((scopes_Meet.f k x0 x2).bind fun bt306 => ((scopes_Meet.f k x1 x2).bind fun bt308 => (if bt302.2 = 0 then (if bt304.2 = 0 then (if bt306.2 = 0 then (if bt308.2 = 0 then (if bt302.1.toList = bt304.1.toList then ((scopes_Meet.f k bt302.1 x2).bind fun bt310 => ((scopes_Meet.f k x0 bt308.1).bind fun bt312 => (if bt310.2 = 0 then (if bt312.2 = 0 then (if bt310.1.toList = bt312.1.toList then ((scopes_Union.f k x1 x2).bind fun bt314 => (if bt314.2 = 0 then ((scopes_Meet.f k x0 bt314.1).bind fun bt317 => ((scopes_Union.f k bt302.1 bt306.1).bind fun bt319 => ((scopes_Union.f k x0 bt314.1).bind fun bt321 => ((scopes_Union.f k x0 x1).bind fun bt323 => (if bt317.2 = 0 then (if bt319.2 = 0 then (if bt317.1.toList = bt319.1.toList then (if bt321.2 = 0 then ((scopes_Union.f k bt323.1 x2).bind fun bt325 => (if bt323.2 = 0 then (if bt325.2 = 0 then (if bt321.1.toList = bt325.1.toList then ((mummerlaw09_awake.f k).bind fun t327 => (some t327)) else (some false)) else (some false)) else (some false))) else ((mummerlaw09_awake.f k).bind fun t328 => (some t328))) else (some false)) else (some false)) else (some false)))))) else ((mummerlaw09_awake.f k).bind fun t316 => (some t316)))) else (some false)) else (some false)) else (some false)))) else (some false)) else (some false)) else (some false)) else (some false)) else (some false)))))) else (some false)) else (some false)) else (some false)) else (some false)) else (some false))))))
def mummerlaw09_ScopesLattice.f (k : Nat) (a0 : ByteArray) (a1 : ByteArray) (a2 : ByteArray) : Option (Bool) := if (a0.size : Int) > 300 then (mummerlaw09_ScopesLattice.j0 k a0 a1 a2 true) else (if (a1.size : Int) > 300 then (mummerlaw09_ScopesLattice.j0 k a0 a1 a2 true) else (if (a2.size : Int) > 300 then (mummerlaw09_ScopesLattice.j0 k a0 a1 a2 true) else ((scopes_Check.f a0).bind fun t288 => (if t288 = 0 then ((scopes_Check.f a1).bind fun t289 => (if t289 = 0 then ((scopes_Check.f a2).bind fun t290 => (mummerlaw09_ScopesLattice.j0 k a0 a1 a2 (t290 != 0))) else (mummerlaw09_ScopesLattice.j0 k a0 a1 a2 true))) else (mummerlaw09_ScopesLattice.j0 k a0 a1 a2 true)))))
theorem mummerlaw09_ScopesLattice.mono_l : ∀ k, (∀ y0 y1 y2 y3, LeO (mummerlaw09_ScopesLattice.j0 k y0 y1 y2 y3) (mummerlaw09_ScopesLattice.j0 (k + 1) y0 y1 y2 y3))
  | 0 => fun _ _ _ _ r h => by simp [mummerlaw09_ScopesLattice.j0] at h
  | k + 1 => by
    have ih0 := mummerlaw09_ScopesLattice.mono_l k
    · intro y0 y1 y2 y3
      unfold mummerlaw09_ScopesLattice.j0
      repeat' first
      | (with_reducible exact ih0 _ _ _ _)
      | (with_reducible exact mummerlaw09_awake.mono _)
      | (with_reducible exact scopes_Meet.mono _ _ _)
      | (with_reducible exact scopes_Union.mono _ _ _)
      | (with_reducible exact LeO.refl _)
      | (with_reducible exact LeO.none _)
      | (with_reducible refine LeO.ite ?_ ?_)
      | (with_reducible refine LeO.bind ?_ (fun _ => ?_))
      | exact ih0 _ _ _ _
      | exact mummerlaw09_awake.mono _
      | exact scopes_Meet.mono _ _ _
      | exact scopes_Union.mono _ _ _
      | exact LeO.none _
      | refine LeO.ite ?_ ?_
      | refine LeO.bind ?_ (fun _ => ?_)
theorem mummerlaw09_ScopesLattice.mono : ∀ a0 a1 a2 k, LeO (mummerlaw09_ScopesLattice.f k a0 a1 a2) (mummerlaw09_ScopesLattice.f (k + 1) a0 a1 a2) := by
  intro a0 a1 a2 k
  have ih0 := mummerlaw09_ScopesLattice.mono_l k
  unfold mummerlaw09_ScopesLattice.f
  repeat' first
      | (with_reducible exact ih0 _ _ _ _)
      | (with_reducible exact mummerlaw09_awake.mono _)
      | (with_reducible exact scopes_Meet.mono _ _ _)
      | (with_reducible exact scopes_Union.mono _ _ _)
      | (with_reducible exact LeO.refl _)
      | (with_reducible exact LeO.none _)
      | (with_reducible refine LeO.ite ?_ ?_)
      | (with_reducible refine LeO.bind ?_ (fun _ => ?_))
      | exact ih0 _ _ _ _
      | exact mummerlaw09_awake.mono _
      | exact scopes_Meet.mono _ _ _
      | exact scopes_Union.mono _ _ _
      | exact LeO.none _
      | refine LeO.ite ?_ ?_
      | refine LeO.bind ?_ (fun _ => ?_)
set_option maxHeartbeats 8000000 in
set_option maxRecDepth 100000 in
theorem mummerlaw09_ScopesLattice.calls (k : Nat) (a0 : ByteArray) (a1 : ByteArray) (a2 : ByteArray) (r : Bool) (w : World) (hrt : Aside0 (r = true)) (h : mummerlaw09_ScopesLattice.f k a0 a1 a2 = some r) (HT : Aside0 (Sc.Tab w)) :
    Calls Tryd.prog 6 #[.string a0, .string a1, .string a2] w fun e w' => e = .returned (.bool r) ∧ Below w.heap.size w w' := by
  have HB := ak (Below.refl w.heap.size w)
  have H : (if (a0.size : Int) > 300 then (mummerlaw09_ScopesLattice.j0 k a0 a1 a2 true) else (if (a1.size : Int) > 300 then (mummerlaw09_ScopesLattice.j0 k a0 a1 a2 true) else (if (a2.size : Int) > 300 then (mummerlaw09_ScopesLattice.j0 k a0 a1 a2 true) else ((scopes_Check.f a0).bind fun t288 => (if t288 = 0 then ((scopes_Check.f a1).bind fun t289 => (if t289 = 0 then ((scopes_Check.f a2).bind fun t290 => (mummerlaw09_ScopesLattice.j0 k a0 a1 a2 (t290 != 0))) else (mummerlaw09_ScopesLattice.j0 k a0 a1 a2 true))) else (mummerlaw09_ScopesLattice.j0 k a0 a1 a2 true)))))) = some r := h
  clear h
  have HC4 := ak H
  clear H
  go_enter Tryd.func6, Tryd.ntmps6
  go_upto_region 1 with (fail)
  go_cut [52] (fun v52 wc => ∃ (kq : Nat) (x52_3 : Bool), v52 = .bool x52_3 ∧ Aside0 (mummerlaw09_ScopesLattice.j0 kq a0 a1 a2 x52_3 = some r) ∧ Aside0 (kq ≤ k) ∧ Aside0 (Below w.heap.size w wc))
  case first =>
    have H := HC4.out
    clear HC4
    by_cases c5 : (a0.size : Int) > 300
    · rw [if_pos c5] at H
      have c5b0 : decide (300 < (a0.size : Int)) = true := decide_eq_true c5
      have c5b1 : decide (300 < a0.size) = true := decide_eq_true (by omega)
      clear c5
      (first | rw [c5b0] | (simp only [i64_w, i32_w]; rw [c5b0]) | skip)
      have H' := ak H
      clear H
      go_wp2
      go_meet
      case rel => exact ⟨_, (true), (by first | rfl | (simp; done) | (simp [*]; done)), H', ⟨by first | omega | exact Nat.le_refl _⟩, ⟨by repeat (first | (with_reducible first | exact HB.out | apply wA | apply wN | apply wD) | exact HB.out)⟩⟩
    · rw [if_neg c5] at H
      have c5b0 : decide (300 < (a0.size : Int)) = false := decide_eq_false c5
      have c5b1 : decide (300 < a0.size) = false := decide_eq_false (by omega)
      clear c5
      (first | rw [c5b0] | (simp only [i64_w, i32_w]; rw [c5b0]) | skip)
      by_cases c6 : (a1.size : Int) > 300
      · rw [if_pos c6] at H
        have c6b0 : decide (300 < (a1.size : Int)) = true := decide_eq_true c6
        have c6b1 : decide (300 < a1.size) = true := decide_eq_true (by omega)
        clear c6
        have H' := ak H
        clear H
        go_wp2
        go_meet
        case rel => exact ⟨_, (true), (by first | rfl | (simp; done) | (simp [*]; done)), H', ⟨by first | omega | exact Nat.le_refl _⟩, ⟨by repeat (first | (with_reducible first | exact HB.out | apply wA | apply wN | apply wD) | exact HB.out)⟩⟩
      · rw [if_neg c6] at H
        have c6b0 : decide (300 < (a1.size : Int)) = false := decide_eq_false c6
        have c6b1 : decide (300 < a1.size) = false := decide_eq_false (by omega)
        clear c6
        by_cases c7 : (a2.size : Int) > 300
        · rw [if_pos c7] at H
          have c7b0 : decide (300 < (a2.size : Int)) = true := decide_eq_true c7
          have c7b1 : decide (300 < a2.size) = true := decide_eq_true (by omega)
          clear c7
          have H' := ak H
          clear H
          go_wp2
          go_meet
          case rel => exact ⟨_, (true), (by first | rfl | (simp; done) | (simp [*]; done)), H', ⟨by first | omega | exact Nat.le_refl _⟩, ⟨by repeat (first | (with_reducible first | exact HB.out | apply wA | apply wN | apply wD) | exact HB.out)⟩⟩
        · rw [if_neg c7] at H
          have c7b0 : decide (300 < (a2.size : Int)) = false := decide_eq_false c7
          have c7b1 : decide (300 < a2.size) = false := decide_eq_false (by omega)
          clear c7
          replace H := Option.bind_eq_some_iff.mp H
          obtain ⟨t288, A80, H⟩ := H
          replace H : (if t288 = 0 then ((scopes_Check.f a1).bind fun t289 => (if t289 = 0 then ((scopes_Check.f a2).bind fun t290 => (mummerlaw09_ScopesLattice.j0 k a0 a1 a2 (t290 != 0))) else (mummerlaw09_ScopesLattice.j0 k a0 a1 a2 true))) else (mummerlaw09_ScopesLattice.j0 k a0 a1 a2 true)) = some r := H
          have A8 := ak A80
          clear A80
          by_cases c9 : t288 = 0
          · rw [if_pos c9] at H
            have c9b0 : (t288 == 0) = true := beq_iff_eq.mpr c9
            have c9b1 : (t288 != 0) = false := bne_eq_false_iff_eq.mpr c9
            clear c9
            replace H := Option.bind_eq_some_iff.mp H
            obtain ⟨t289, A100, H⟩ := H
            replace H : (if t289 = 0 then ((scopes_Check.f a2).bind fun t290 => (mummerlaw09_ScopesLattice.j0 k a0 a1 a2 (t290 != 0))) else (mummerlaw09_ScopesLattice.j0 k a0 a1 a2 true)) = some r := H
            have A10 := ak A100
            clear A100
            by_cases c11 : t289 = 0
            · rw [if_pos c11] at H
              have c11b0 : (t289 == 0) = true := beq_iff_eq.mpr c11
              have c11b1 : (t289 != 0) = false := bne_eq_false_iff_eq.mpr c11
              clear c11
              replace H := Option.bind_eq_some_iff.mp H
              obtain ⟨t290, A120, H⟩ := H
              replace H : (mummerlaw09_ScopesLattice.j0 k a0 a1 a2 (t290 != 0)) = some r := H
              have A12 := ak A120
              clear A120
              have H' := ak H
              clear H
              go_wp2_with (first | (go_at_call 15; (with_reducible refine (scopes_Check.calls a0 t288 _ A8.out).mono ?_); rintro e w13 ⟨rfl, hb⟩; have n0_ := ak (below_step (by repeat (first | (with_reducible first | exact HB.out | apply wA | apply wN | apply wD) | exact HB.out)) hb); clear HB; have HB := n0_; clear n0_; (try clear hb); (try clear hb2); (try clear hk); (try clear hi)) | (go_at_call 15; (with_reducible refine (scopes_Check.calls a1 t289 _ A10.out).mono ?_); rintro e w14 ⟨rfl, hb⟩; have n0_ := ak (below_step (by repeat (first | (with_reducible first | exact HB.out | apply wA | apply wN | apply wD) | exact HB.out)) hb); clear HB; have HB := n0_; clear n0_; (try clear hb); (try clear hb2); (try clear hk); (try clear hi)) | (go_at_call 15; (with_reducible refine (scopes_Check.calls a2 t290 _ A12.out).mono ?_); rintro e w15 ⟨rfl, hb⟩; have n0_ := ak (below_step (by repeat (first | (with_reducible first | exact HB.out | apply wA | apply wN | apply wD) | exact HB.out)) hb); clear HB; have HB := n0_; clear n0_; (try clear hb); (try clear hb2); (try clear hk); (try clear hi)))
              go_meet
              case rel => exact ⟨_, ((t290 != 0)), (by first | rfl | (simp; done) | (simp [*]; done) | (cases t290 <;> simp)), H', ⟨by first | omega | exact Nat.le_refl _⟩, ⟨by repeat (first | (with_reducible first | exact HB.out | apply wA | apply wN | apply wD) | exact HB.out)⟩⟩
            · rw [if_neg c11] at H
              have c11b0 : (t289 == 0) = false := beq_eq_false_iff_ne.mpr c11
              have c11b1 : (t289 != 0) = true := bne_iff_ne.mpr c11
              have H' := ak H
              clear H
              go_wp2_with (first | (go_at_call 15; (with_reducible refine (scopes_Check.calls a0 t288 _ A8.out).mono ?_); rintro e w16 ⟨rfl, hb⟩; have n0_ := ak (below_step (by repeat (first | (with_reducible first | exact HB.out | apply wA | apply wN | apply wD) | exact HB.out)) hb); clear HB; have HB := n0_; clear n0_; (try clear hb); (try clear hb2); (try clear hk); (try clear hi)) | (go_at_call 15; (with_reducible refine (scopes_Check.calls a1 t289 _ A10.out).mono ?_); rintro e w17 ⟨rfl, hb⟩; have n0_ := ak (below_step (by repeat (first | (with_reducible first | exact HB.out | apply wA | apply wN | apply wD) | exact HB.out)) hb); clear HB; have HB := n0_; clear n0_; (try clear hb); (try clear hb2); (try clear hk); (try clear hi)))
              go_meet
              case rel => exact ⟨_, (true), (by first | rfl | (simp; done) | (simp [*]; done)), H', ⟨by first | omega | exact Nat.le_refl _⟩, ⟨by repeat (first | (with_reducible first | exact HB.out | apply wA | apply wN | apply wD) | exact HB.out)⟩⟩
          · rw [if_neg c9] at H
            have c9b0 : (t288 == 0) = false := beq_eq_false_iff_ne.mpr c9
            have c9b1 : (t288 != 0) = true := bne_iff_ne.mpr c9
            have H' := ak H
            clear H
            go_wp2_with (first | (go_at_call 15; (with_reducible refine (scopes_Check.calls a0 t288 _ A8.out).mono ?_); rintro e w18 ⟨rfl, hb⟩; have n0_ := ak (below_step (by repeat (first | (with_reducible first | exact HB.out | apply wA | apply wN | apply wD) | exact HB.out)) hb); clear HB; have HB := n0_; clear n0_; (try clear hb); (try clear hb2); (try clear hk); (try clear hi)))
            go_meet
            case rel => exact ⟨_, (true), (by first | rfl | (simp; done) | (simp [*]; done)), H', ⟨by first | omega | exact Nat.le_refl _⟩, ⟨by repeat (first | (with_reducible first | exact HB.out | apply wA | apply wN | apply wD) | exact HB.out)⟩⟩
  case rest =>
    clear HC4
    try clear c1
    try clear p2
    try clear c5
    try clear c5b0
    try clear c5b1
    try clear c6
    try clear c6b0
    try clear c6b1
    try clear c7
    try clear c7b0
    try clear c7b1
    try clear c9
    try clear c9b0
    try clear c9b1
    try clear c11
    try clear c11b0
    try clear c11b1
    obtain ⟨kq, x52_3, rfl, HA, HJ3, HB⟩ := hcut
    cases kq with
    | zero => exact absurd HA.out (by simp [mummerlaw09_ScopesLattice.j0])
    | succ kj3 =>
      have H := HA.out
      clear HA
      simp only [mummerlaw09_ScopesLattice.j0] at H
      by_cases c19 : x52_3 = true
      · subst c19
        have H1 : ((mummerlaw09_awake.f kj3).bind fun t291 => (some t291)) = some r := by rw [if_pos rfl] at H; exact H
        clear H
        have H := H1
        clear H1
        replace H := Option.bind_eq_some_iff.mp H
        obtain ⟨t291, A200, H⟩ := H
        replace H : (some t291) = some r := H
        have A20 := ak A200
        clear A200
        obtain rfl := Option.some.inj H
        go_wp2_with (first | ((with_reducible refine gate_callee (f := 10) rfl ?_); refine goesL_ (some 53) rfl rfl Tryd.func10 (by kernel_rfl) rfl #[] rfl (by (try simp only [List.map_toArray, List.map_cons, List.map_nil]); first | done | rfl | (simp only [List.length_drop, List.length_take]; rfl)) ?_; (with_reducible refine (mummerlaw09_awake.calls kj3  t291 _ hrt A20.out ⟨Sc.Tab.stay HT.out (by repeat (first | (with_reducible first | exact HB.out | apply wA | apply wN | apply wD) | exact HB.out | (refine below_set ?_ (by assumption))))⟩).mono ?_); rintro e w21 ⟨rfl, hb⟩; refine ⟨_, rfl, ?_⟩; have n0_ := ak (below_step (by repeat (first | (with_reducible first | exact HB.out | apply wA | apply wN | apply wD) | exact HB.out)) hb); clear HB; have HB := n0_; clear n0_; (try clear hb); (try clear hb2); (try clear hk); (try clear hi)))
        go_ret
        exact ⟨by first | rfl | (simp [errW_none, errW_some] <;> rfl) | (simp [*, errW_none, errW_some] <;> rfl), by repeat (first | (with_reducible first | exact HB.out | apply wA | apply wN | apply wD) | exact HB.out)⟩
      · replace c19 := Bool.eq_false_iff.mpr c19
        subst c19
        have H1 : ((scopes_Ids.f a0).bind fun bt292 => ((scopes_Of.f bt292.1).bind fun bt296 => ((scopes_Union.f kj3 a0 a1).bind fun bt298 => ((scopes_Union.f kj3 a1 a0).bind fun bt300 => (if bt292.2 = 0 then (if bt296.2 = 0 then (if bt296.1.toList = a0.toList then (if bt298.1.toList = bt300.1.toList then (if bt298.2 = bt300.2 then ((scopes_Meet.f kj3 a0 a1).bind fun bt302 => ((scopes_Meet.f kj3 a1 a0).bind fun bt304 => ((scopes_Meet.f kj3 a0 a2).bind fun bt306 => ((scopes_Meet.f kj3 a1 a2).bind fun bt308 => (if bt302.2 = 0 then (if bt304.2 = 0 then (if bt306.2 = 0 then (if bt308.2 = 0 then (if bt302.1.toList = bt304.1.toList then ((scopes_Meet.f kj3 bt302.1 a2).bind fun bt310 => ((scopes_Meet.f kj3 a0 bt308.1).bind fun bt312 => (if bt310.2 = 0 then (if bt312.2 = 0 then (if bt310.1.toList = bt312.1.toList then ((scopes_Union.f kj3 a1 a2).bind fun bt314 => (if bt314.2 = 0 then ((scopes_Meet.f kj3 a0 bt314.1).bind fun bt317 => ((scopes_Union.f kj3 bt302.1 bt306.1).bind fun bt319 => ((scopes_Union.f kj3 a0 bt314.1).bind fun bt321 => ((scopes_Union.f kj3 a0 a1).bind fun bt323 => (if bt317.2 = 0 then (if bt319.2 = 0 then (if bt317.1.toList = bt319.1.toList then (if bt321.2 = 0 then ((scopes_Union.f kj3 bt323.1 a2).bind fun bt325 => (if bt323.2 = 0 then (if bt325.2 = 0 then (if bt321.1.toList = bt325.1.toList then ((mummerlaw09_awake.f kj3).bind fun t327 => (some t327)) else (some false)) else (some false)) else (some false))) else ((mummerlaw09_awake.f kj3).bind fun t328 => (some t328))) else (some false)) else (some false)) else (some false)))))) else ((mummerlaw09_awake.f kj3).bind fun t316 => (some t316)))) else (some false)) else (some false)) else (some false)))) else (some false)) else (some false)) else (some false)) else (some false)) else (some false)))))) else (some false)) else (some false)) else (some false)) else (some false)) else (some false)))))) = some r := by rw [if_neg (show ¬ (false = true) by decide)] at H; exact H
        clear H
        have H := H1
        clear H1
        replace H := Option.bind_eq_some_iff.mp H
        obtain ⟨⟨t292, t293⟩, A220, H⟩ := H
        replace H : ((scopes_Of.f t292).bind fun bt296 => ((scopes_Union.f kj3 a0 a1).bind fun bt298 => ((scopes_Union.f kj3 a1 a0).bind fun bt300 => (if t293 = 0 then (if bt296.2 = 0 then (if bt296.1.toList = a0.toList then (if bt298.1.toList = bt300.1.toList then (if bt298.2 = bt300.2 then ((scopes_Meet.f kj3 a0 a1).bind fun bt302 => ((scopes_Meet.f kj3 a1 a0).bind fun bt304 => ((scopes_Meet.f kj3 a0 a2).bind fun bt306 => ((scopes_Meet.f kj3 a1 a2).bind fun bt308 => (if bt302.2 = 0 then (if bt304.2 = 0 then (if bt306.2 = 0 then (if bt308.2 = 0 then (if bt302.1.toList = bt304.1.toList then ((scopes_Meet.f kj3 bt302.1 a2).bind fun bt310 => ((scopes_Meet.f kj3 a0 bt308.1).bind fun bt312 => (if bt310.2 = 0 then (if bt312.2 = 0 then (if bt310.1.toList = bt312.1.toList then ((scopes_Union.f kj3 a1 a2).bind fun bt314 => (if bt314.2 = 0 then ((scopes_Meet.f kj3 a0 bt314.1).bind fun bt317 => ((scopes_Union.f kj3 bt302.1 bt306.1).bind fun bt319 => ((scopes_Union.f kj3 a0 bt314.1).bind fun bt321 => ((scopes_Union.f kj3 a0 a1).bind fun bt323 => (if bt317.2 = 0 then (if bt319.2 = 0 then (if bt317.1.toList = bt319.1.toList then (if bt321.2 = 0 then ((scopes_Union.f kj3 bt323.1 a2).bind fun bt325 => (if bt323.2 = 0 then (if bt325.2 = 0 then (if bt321.1.toList = bt325.1.toList then ((mummerlaw09_awake.f kj3).bind fun t327 => (some t327)) else (some false)) else (some false)) else (some false))) else ((mummerlaw09_awake.f kj3).bind fun t328 => (some t328))) else (some false)) else (some false)) else (some false)))))) else ((mummerlaw09_awake.f kj3).bind fun t316 => (some t316)))) else (some false)) else (some false)) else (some false)))) else (some false)) else (some false)) else (some false)) else (some false)) else (some false)))))) else (some false)) else (some false)) else (some false)) else (some false)) else (some false))))) = some r := H
        have A22 := ak A220
        clear A220
        replace H := Option.bind_eq_some_iff.mp H
        obtain ⟨⟨t296, t297⟩, A230, H⟩ := H
        replace H : ((scopes_Union.f kj3 a0 a1).bind fun bt298 => ((scopes_Union.f kj3 a1 a0).bind fun bt300 => (if t293 = 0 then (if t297 = 0 then (if t296.toList = a0.toList then (if bt298.1.toList = bt300.1.toList then (if bt298.2 = bt300.2 then ((scopes_Meet.f kj3 a0 a1).bind fun bt302 => ((scopes_Meet.f kj3 a1 a0).bind fun bt304 => ((scopes_Meet.f kj3 a0 a2).bind fun bt306 => ((scopes_Meet.f kj3 a1 a2).bind fun bt308 => (if bt302.2 = 0 then (if bt304.2 = 0 then (if bt306.2 = 0 then (if bt308.2 = 0 then (if bt302.1.toList = bt304.1.toList then ((scopes_Meet.f kj3 bt302.1 a2).bind fun bt310 => ((scopes_Meet.f kj3 a0 bt308.1).bind fun bt312 => (if bt310.2 = 0 then (if bt312.2 = 0 then (if bt310.1.toList = bt312.1.toList then ((scopes_Union.f kj3 a1 a2).bind fun bt314 => (if bt314.2 = 0 then ((scopes_Meet.f kj3 a0 bt314.1).bind fun bt317 => ((scopes_Union.f kj3 bt302.1 bt306.1).bind fun bt319 => ((scopes_Union.f kj3 a0 bt314.1).bind fun bt321 => ((scopes_Union.f kj3 a0 a1).bind fun bt323 => (if bt317.2 = 0 then (if bt319.2 = 0 then (if bt317.1.toList = bt319.1.toList then (if bt321.2 = 0 then ((scopes_Union.f kj3 bt323.1 a2).bind fun bt325 => (if bt323.2 = 0 then (if bt325.2 = 0 then (if bt321.1.toList = bt325.1.toList then ((mummerlaw09_awake.f kj3).bind fun t327 => (some t327)) else (some false)) else (some false)) else (some false))) else ((mummerlaw09_awake.f kj3).bind fun t328 => (some t328))) else (some false)) else (some false)) else (some false)))))) else ((mummerlaw09_awake.f kj3).bind fun t316 => (some t316)))) else (some false)) else (some false)) else (some false)))) else (some false)) else (some false)) else (some false)) else (some false)) else (some false)))))) else (some false)) else (some false)) else (some false)) else (some false)) else (some false)))) = some r := H
        have A23 := ak A230
        clear A230
        replace H := Option.bind_eq_some_iff.mp H
        obtain ⟨⟨t298, t299⟩, A240, H⟩ := H
        replace H : ((scopes_Union.f kj3 a1 a0).bind fun bt300 => (if t293 = 0 then (if t297 = 0 then (if t296.toList = a0.toList then (if t298.toList = bt300.1.toList then (if t299 = bt300.2 then ((scopes_Meet.f kj3 a0 a1).bind fun bt302 => ((scopes_Meet.f kj3 a1 a0).bind fun bt304 => ((scopes_Meet.f kj3 a0 a2).bind fun bt306 => ((scopes_Meet.f kj3 a1 a2).bind fun bt308 => (if bt302.2 = 0 then (if bt304.2 = 0 then (if bt306.2 = 0 then (if bt308.2 = 0 then (if bt302.1.toList = bt304.1.toList then ((scopes_Meet.f kj3 bt302.1 a2).bind fun bt310 => ((scopes_Meet.f kj3 a0 bt308.1).bind fun bt312 => (if bt310.2 = 0 then (if bt312.2 = 0 then (if bt310.1.toList = bt312.1.toList then ((scopes_Union.f kj3 a1 a2).bind fun bt314 => (if bt314.2 = 0 then ((scopes_Meet.f kj3 a0 bt314.1).bind fun bt317 => ((scopes_Union.f kj3 bt302.1 bt306.1).bind fun bt319 => ((scopes_Union.f kj3 a0 bt314.1).bind fun bt321 => ((scopes_Union.f kj3 a0 a1).bind fun bt323 => (if bt317.2 = 0 then (if bt319.2 = 0 then (if bt317.1.toList = bt319.1.toList then (if bt321.2 = 0 then ((scopes_Union.f kj3 bt323.1 a2).bind fun bt325 => (if bt323.2 = 0 then (if bt325.2 = 0 then (if bt321.1.toList = bt325.1.toList then ((mummerlaw09_awake.f kj3).bind fun t327 => (some t327)) else (some false)) else (some false)) else (some false))) else ((mummerlaw09_awake.f kj3).bind fun t328 => (some t328))) else (some false)) else (some false)) else (some false)))))) else ((mummerlaw09_awake.f kj3).bind fun t316 => (some t316)))) else (some false)) else (some false)) else (some false)))) else (some false)) else (some false)) else (some false)) else (some false)) else (some false)))))) else (some false)) else (some false)) else (some false)) else (some false)) else (some false))) = some r := H
        have A24 := ak A240
        clear A240
        replace H := Option.bind_eq_some_iff.mp H
        obtain ⟨⟨t300, t301⟩, A250, H⟩ := H
        replace H : (if t293 = 0 then (if t297 = 0 then (if t296.toList = a0.toList then (if t298.toList = t300.toList then (if t299 = t301 then ((scopes_Meet.f kj3 a0 a1).bind fun bt302 => ((scopes_Meet.f kj3 a1 a0).bind fun bt304 => ((scopes_Meet.f kj3 a0 a2).bind fun bt306 => ((scopes_Meet.f kj3 a1 a2).bind fun bt308 => (if bt302.2 = 0 then (if bt304.2 = 0 then (if bt306.2 = 0 then (if bt308.2 = 0 then (if bt302.1.toList = bt304.1.toList then ((scopes_Meet.f kj3 bt302.1 a2).bind fun bt310 => ((scopes_Meet.f kj3 a0 bt308.1).bind fun bt312 => (if bt310.2 = 0 then (if bt312.2 = 0 then (if bt310.1.toList = bt312.1.toList then ((scopes_Union.f kj3 a1 a2).bind fun bt314 => (if bt314.2 = 0 then ((scopes_Meet.f kj3 a0 bt314.1).bind fun bt317 => ((scopes_Union.f kj3 bt302.1 bt306.1).bind fun bt319 => ((scopes_Union.f kj3 a0 bt314.1).bind fun bt321 => ((scopes_Union.f kj3 a0 a1).bind fun bt323 => (if bt317.2 = 0 then (if bt319.2 = 0 then (if bt317.1.toList = bt319.1.toList then (if bt321.2 = 0 then ((scopes_Union.f kj3 bt323.1 a2).bind fun bt325 => (if bt323.2 = 0 then (if bt325.2 = 0 then (if bt321.1.toList = bt325.1.toList then ((mummerlaw09_awake.f kj3).bind fun t327 => (some t327)) else (some false)) else (some false)) else (some false))) else ((mummerlaw09_awake.f kj3).bind fun t328 => (some t328))) else (some false)) else (some false)) else (some false)))))) else ((mummerlaw09_awake.f kj3).bind fun t316 => (some t316)))) else (some false)) else (some false)) else (some false)))) else (some false)) else (some false)) else (some false)) else (some false)) else (some false)))))) else (some false)) else (some false)) else (some false)) else (some false)) else (some false)) = some r := H
        have A25 := ak A250
        clear A250
        by_cases c26 : t293 = 0
        · rw [if_pos c26] at H
          have c26b0 : (t293 == 0) = true := beq_iff_eq.mpr c26
          have c26b1 : (t293 != 0) = false := bne_eq_false_iff_eq.mpr c26
          clear c26
          by_cases c27 : t297 = 0
          · rw [if_pos c27] at H
            have c27b0 : (t297 == 0) = true := beq_iff_eq.mpr c27
            have c27b1 : (t297 != 0) = false := bne_eq_false_iff_eq.mpr c27
            clear c27
            by_cases c28 : t296.toList = a0.toList
            · rw [if_pos c28] at H
              have c28b0 : (t296.toList == a0.toList) = true := beq_iff_eq.mpr c28
              have c28b1 : (t296.toList != a0.toList) = false := bne_eq_false_iff_eq.mpr c28
              clear c28
              by_cases c29 : t298.toList = t300.toList
              · rw [if_pos c29] at H
                have c29b0 : (t298.toList == t300.toList) = true := beq_iff_eq.mpr c29
                have c29b1 : (t298.toList != t300.toList) = false := bne_eq_false_iff_eq.mpr c29
                clear c29
                by_cases c30 : t299 = t301
                · rw [if_pos c30] at H
                  have c30b0 : (t299 == t301) = true := beq_iff_eq.mpr c30
                  have c30b1 : (t299 != t301) = false := bne_eq_false_iff_eq.mpr c30
                  clear c30
                  replace H := Option.bind_eq_some_iff.mp H
                  obtain ⟨⟨t302, t303⟩, A310, H⟩ := H
                  replace H : ((scopes_Meet.f kj3 a1 a0).bind fun bt304 => ((scopes_Meet.f kj3 a0 a2).bind fun bt306 => ((scopes_Meet.f kj3 a1 a2).bind fun bt308 => (if t303 = 0 then (if bt304.2 = 0 then (if bt306.2 = 0 then (if bt308.2 = 0 then (if t302.toList = bt304.1.toList then ((scopes_Meet.f kj3 t302 a2).bind fun bt310 => ((scopes_Meet.f kj3 a0 bt308.1).bind fun bt312 => (if bt310.2 = 0 then (if bt312.2 = 0 then (if bt310.1.toList = bt312.1.toList then ((scopes_Union.f kj3 a1 a2).bind fun bt314 => (if bt314.2 = 0 then ((scopes_Meet.f kj3 a0 bt314.1).bind fun bt317 => ((scopes_Union.f kj3 t302 bt306.1).bind fun bt319 => ((scopes_Union.f kj3 a0 bt314.1).bind fun bt321 => ((scopes_Union.f kj3 a0 a1).bind fun bt323 => (if bt317.2 = 0 then (if bt319.2 = 0 then (if bt317.1.toList = bt319.1.toList then (if bt321.2 = 0 then ((scopes_Union.f kj3 bt323.1 a2).bind fun bt325 => (if bt323.2 = 0 then (if bt325.2 = 0 then (if bt321.1.toList = bt325.1.toList then ((mummerlaw09_awake.f kj3).bind fun t327 => (some t327)) else (some false)) else (some false)) else (some false))) else ((mummerlaw09_awake.f kj3).bind fun t328 => (some t328))) else (some false)) else (some false)) else (some false)))))) else ((mummerlaw09_awake.f kj3).bind fun t316 => (some t316)))) else (some false)) else (some false)) else (some false)))) else (some false)) else (some false)) else (some false)) else (some false)) else (some false))))) = some r := H
                  have A31 := ak A310
                  clear A310
                  replace H := Option.bind_eq_some_iff.mp H
                  obtain ⟨⟨t304, t305⟩, A320, H⟩ := H
                  replace H : ((scopes_Meet.f kj3 a0 a2).bind fun bt306 => ((scopes_Meet.f kj3 a1 a2).bind fun bt308 => (if t303 = 0 then (if t305 = 0 then (if bt306.2 = 0 then (if bt308.2 = 0 then (if t302.toList = t304.toList then ((scopes_Meet.f kj3 t302 a2).bind fun bt310 => ((scopes_Meet.f kj3 a0 bt308.1).bind fun bt312 => (if bt310.2 = 0 then (if bt312.2 = 0 then (if bt310.1.toList = bt312.1.toList then ((scopes_Union.f kj3 a1 a2).bind fun bt314 => (if bt314.2 = 0 then ((scopes_Meet.f kj3 a0 bt314.1).bind fun bt317 => ((scopes_Union.f kj3 t302 bt306.1).bind fun bt319 => ((scopes_Union.f kj3 a0 bt314.1).bind fun bt321 => ((scopes_Union.f kj3 a0 a1).bind fun bt323 => (if bt317.2 = 0 then (if bt319.2 = 0 then (if bt317.1.toList = bt319.1.toList then (if bt321.2 = 0 then ((scopes_Union.f kj3 bt323.1 a2).bind fun bt325 => (if bt323.2 = 0 then (if bt325.2 = 0 then (if bt321.1.toList = bt325.1.toList then ((mummerlaw09_awake.f kj3).bind fun t327 => (some t327)) else (some false)) else (some false)) else (some false))) else ((mummerlaw09_awake.f kj3).bind fun t328 => (some t328))) else (some false)) else (some false)) else (some false)))))) else ((mummerlaw09_awake.f kj3).bind fun t316 => (some t316)))) else (some false)) else (some false)) else (some false)))) else (some false)) else (some false)) else (some false)) else (some false)) else (some false)))) = some r := H
                  have A32 := ak A320
                  clear A320
                  replace H := Option.bind_eq_some_iff.mp H
                  obtain ⟨⟨t306, t307⟩, A330, H⟩ := H
                  replace H : ((scopes_Meet.f kj3 a1 a2).bind fun bt308 => (if t303 = 0 then (if t305 = 0 then (if t307 = 0 then (if bt308.2 = 0 then (if t302.toList = t304.toList then ((scopes_Meet.f kj3 t302 a2).bind fun bt310 => ((scopes_Meet.f kj3 a0 bt308.1).bind fun bt312 => (if bt310.2 = 0 then (if bt312.2 = 0 then (if bt310.1.toList = bt312.1.toList then ((scopes_Union.f kj3 a1 a2).bind fun bt314 => (if bt314.2 = 0 then ((scopes_Meet.f kj3 a0 bt314.1).bind fun bt317 => ((scopes_Union.f kj3 t302 t306).bind fun bt319 => ((scopes_Union.f kj3 a0 bt314.1).bind fun bt321 => ((scopes_Union.f kj3 a0 a1).bind fun bt323 => (if bt317.2 = 0 then (if bt319.2 = 0 then (if bt317.1.toList = bt319.1.toList then (if bt321.2 = 0 then ((scopes_Union.f kj3 bt323.1 a2).bind fun bt325 => (if bt323.2 = 0 then (if bt325.2 = 0 then (if bt321.1.toList = bt325.1.toList then ((mummerlaw09_awake.f kj3).bind fun t327 => (some t327)) else (some false)) else (some false)) else (some false))) else ((mummerlaw09_awake.f kj3).bind fun t328 => (some t328))) else (some false)) else (some false)) else (some false)))))) else ((mummerlaw09_awake.f kj3).bind fun t316 => (some t316)))) else (some false)) else (some false)) else (some false)))) else (some false)) else (some false)) else (some false)) else (some false)) else (some false))) = some r := H
                  have A33 := ak A330
                  clear A330
                  replace H := Option.bind_eq_some_iff.mp H
                  obtain ⟨⟨t308, t309⟩, A340, H⟩ := H
                  replace H : (if t303 = 0 then (if t305 = 0 then (if t307 = 0 then (if t309 = 0 then (if t302.toList = t304.toList then ((scopes_Meet.f kj3 t302 a2).bind fun bt310 => ((scopes_Meet.f kj3 a0 t308).bind fun bt312 => (if bt310.2 = 0 then (if bt312.2 = 0 then (if bt310.1.toList = bt312.1.toList then ((scopes_Union.f kj3 a1 a2).bind fun bt314 => (if bt314.2 = 0 then ((scopes_Meet.f kj3 a0 bt314.1).bind fun bt317 => ((scopes_Union.f kj3 t302 t306).bind fun bt319 => ((scopes_Union.f kj3 a0 bt314.1).bind fun bt321 => ((scopes_Union.f kj3 a0 a1).bind fun bt323 => (if bt317.2 = 0 then (if bt319.2 = 0 then (if bt317.1.toList = bt319.1.toList then (if bt321.2 = 0 then ((scopes_Union.f kj3 bt323.1 a2).bind fun bt325 => (if bt323.2 = 0 then (if bt325.2 = 0 then (if bt321.1.toList = bt325.1.toList then ((mummerlaw09_awake.f kj3).bind fun t327 => (some t327)) else (some false)) else (some false)) else (some false))) else ((mummerlaw09_awake.f kj3).bind fun t328 => (some t328))) else (some false)) else (some false)) else (some false)))))) else ((mummerlaw09_awake.f kj3).bind fun t316 => (some t316)))) else (some false)) else (some false)) else (some false)))) else (some false)) else (some false)) else (some false)) else (some false)) else (some false)) = some r := H
                  have A34 := ak A340
                  clear A340
                  by_cases c35 : t303 = 0
                  · rw [if_pos c35] at H
                    have c35b0 : (t303 == 0) = true := beq_iff_eq.mpr c35
                    have c35b1 : (t303 != 0) = false := bne_eq_false_iff_eq.mpr c35
                    clear c35
                    by_cases c36 : t305 = 0
                    · rw [if_pos c36] at H
                      have c36b0 : (t305 == 0) = true := beq_iff_eq.mpr c36
                      have c36b1 : (t305 != 0) = false := bne_eq_false_iff_eq.mpr c36
                      clear c36
                      by_cases c37 : t307 = 0
                      · rw [if_pos c37] at H
                        have c37b0 : (t307 == 0) = true := beq_iff_eq.mpr c37
                        have c37b1 : (t307 != 0) = false := bne_eq_false_iff_eq.mpr c37
                        clear c37
                        by_cases c38 : t309 = 0
                        · rw [if_pos c38] at H
                          have c38b0 : (t309 == 0) = true := beq_iff_eq.mpr c38
                          have c38b1 : (t309 != 0) = false := bne_eq_false_iff_eq.mpr c38
                          clear c38
                          by_cases c39 : t302.toList = t304.toList
                          · rw [if_pos c39] at H
                            have c39b0 : (t302.toList == t304.toList) = true := beq_iff_eq.mpr c39
                            have c39b1 : (t302.toList != t304.toList) = false := bne_eq_false_iff_eq.mpr c39
                            clear c39
                            replace H := Option.bind_eq_some_iff.mp H
                            obtain ⟨⟨t310, t311⟩, A400, H⟩ := H
                            replace H : ((scopes_Meet.f kj3 a0 t308).bind fun bt312 => (if t311 = 0 then (if bt312.2 = 0 then (if t310.toList = bt312.1.toList then ((scopes_Union.f kj3 a1 a2).bind fun bt314 => (if bt314.2 = 0 then ((scopes_Meet.f kj3 a0 bt314.1).bind fun bt317 => ((scopes_Union.f kj3 t302 t306).bind fun bt319 => ((scopes_Union.f kj3 a0 bt314.1).bind fun bt321 => ((scopes_Union.f kj3 a0 a1).bind fun bt323 => (if bt317.2 = 0 then (if bt319.2 = 0 then (if bt317.1.toList = bt319.1.toList then (if bt321.2 = 0 then ((scopes_Union.f kj3 bt323.1 a2).bind fun bt325 => (if bt323.2 = 0 then (if bt325.2 = 0 then (if bt321.1.toList = bt325.1.toList then ((mummerlaw09_awake.f kj3).bind fun t327 => (some t327)) else (some false)) else (some false)) else (some false))) else ((mummerlaw09_awake.f kj3).bind fun t328 => (some t328))) else (some false)) else (some false)) else (some false)))))) else ((mummerlaw09_awake.f kj3).bind fun t316 => (some t316)))) else (some false)) else (some false)) else (some false))) = some r := H
                            have A40 := ak A400
                            clear A400
                            replace H := Option.bind_eq_some_iff.mp H
                            obtain ⟨⟨t312, t313⟩, A410, H⟩ := H
                            replace H : (if t311 = 0 then (if t313 = 0 then (if t310.toList = t312.toList then ((scopes_Union.f kj3 a1 a2).bind fun bt314 => (if bt314.2 = 0 then ((scopes_Meet.f kj3 a0 bt314.1).bind fun bt317 => ((scopes_Union.f kj3 t302 t306).bind fun bt319 => ((scopes_Union.f kj3 a0 bt314.1).bind fun bt321 => ((scopes_Union.f kj3 a0 a1).bind fun bt323 => (if bt317.2 = 0 then (if bt319.2 = 0 then (if bt317.1.toList = bt319.1.toList then (if bt321.2 = 0 then ((scopes_Union.f kj3 bt323.1 a2).bind fun bt325 => (if bt323.2 = 0 then (if bt325.2 = 0 then (if bt321.1.toList = bt325.1.toList then ((mummerlaw09_awake.f kj3).bind fun t327 => (some t327)) else (some false)) else (some false)) else (some false))) else ((mummerlaw09_awake.f kj3).bind fun t328 => (some t328))) else (some false)) else (some false)) else (some false)))))) else ((mummerlaw09_awake.f kj3).bind fun t316 => (some t316)))) else (some false)) else (some false)) else (some false)) = some r := H
                            have A41 := ak A410
                            clear A410
                            by_cases c42 : t311 = 0
                            · rw [if_pos c42] at H
                              have c42b0 : (t311 == 0) = true := beq_iff_eq.mpr c42
                              have c42b1 : (t311 != 0) = false := bne_eq_false_iff_eq.mpr c42
                              clear c42
                              by_cases c43 : t313 = 0
                              · rw [if_pos c43] at H
                                have c43b0 : (t313 == 0) = true := beq_iff_eq.mpr c43
                                have c43b1 : (t313 != 0) = false := bne_eq_false_iff_eq.mpr c43
                                clear c43
                                by_cases c44 : t310.toList = t312.toList
                                · rw [if_pos c44] at H
                                  have c44b0 : (t310.toList == t312.toList) = true := beq_iff_eq.mpr c44
                                  have c44b1 : (t310.toList != t312.toList) = false := bne_eq_false_iff_eq.mpr c44
                                  clear c44
                                  replace H := Option.bind_eq_some_iff.mp H
                                  obtain ⟨⟨t314, t315⟩, A450, H⟩ := H
                                  replace H : (if t315 = 0 then ((scopes_Meet.f kj3 a0 t314).bind fun bt317 => ((scopes_Union.f kj3 t302 t306).bind fun bt319 => ((scopes_Union.f kj3 a0 t314).bind fun bt321 => ((scopes_Union.f kj3 a0 a1).bind fun bt323 => (if bt317.2 = 0 then (if bt319.2 = 0 then (if bt317.1.toList = bt319.1.toList then (if bt321.2 = 0 then ((scopes_Union.f kj3 bt323.1 a2).bind fun bt325 => (if bt323.2 = 0 then (if bt325.2 = 0 then (if bt321.1.toList = bt325.1.toList then ((mummerlaw09_awake.f kj3).bind fun t327 => (some t327)) else (some false)) else (some false)) else (some false))) else ((mummerlaw09_awake.f kj3).bind fun t328 => (some t328))) else (some false)) else (some false)) else (some false)))))) else ((mummerlaw09_awake.f kj3).bind fun t316 => (some t316))) = some r := H
                                  have A45 := ak A450
                                  clear A450
                                  by_cases c46 : t315 = 0
                                  · rw [if_pos c46] at H
                                    have c46b0 : (t315 == 0) = true := beq_iff_eq.mpr c46
                                    have c46b1 : (t315 != 0) = false := bne_eq_false_iff_eq.mpr c46
                                    clear c46
                                    replace H := Option.bind_eq_some_iff.mp H
                                    obtain ⟨⟨t317, t318⟩, A470, H⟩ := H
                                    replace H : ((scopes_Union.f kj3 t302 t306).bind fun bt319 => ((scopes_Union.f kj3 a0 t314).bind fun bt321 => ((scopes_Union.f kj3 a0 a1).bind fun bt323 => (if t318 = 0 then (if bt319.2 = 0 then (if t317.toList = bt319.1.toList then (if bt321.2 = 0 then ((scopes_Union.f kj3 bt323.1 a2).bind fun bt325 => (if bt323.2 = 0 then (if bt325.2 = 0 then (if bt321.1.toList = bt325.1.toList then ((mummerlaw09_awake.f kj3).bind fun t327 => (some t327)) else (some false)) else (some false)) else (some false))) else ((mummerlaw09_awake.f kj3).bind fun t328 => (some t328))) else (some false)) else (some false)) else (some false))))) = some r := H
                                    have A47 := ak A470
                                    clear A470
                                    replace H := Option.bind_eq_some_iff.mp H
                                    obtain ⟨⟨t319, t320⟩, A480, H⟩ := H
                                    replace H : ((scopes_Union.f kj3 a0 t314).bind fun bt321 => ((scopes_Union.f kj3 a0 a1).bind fun bt323 => (if t318 = 0 then (if t320 = 0 then (if t317.toList = t319.toList then (if bt321.2 = 0 then ((scopes_Union.f kj3 bt323.1 a2).bind fun bt325 => (if bt323.2 = 0 then (if bt325.2 = 0 then (if bt321.1.toList = bt325.1.toList then ((mummerlaw09_awake.f kj3).bind fun t327 => (some t327)) else (some false)) else (some false)) else (some false))) else ((mummerlaw09_awake.f kj3).bind fun t328 => (some t328))) else (some false)) else (some false)) else (some false)))) = some r := H
                                    have A48 := ak A480
                                    clear A480
                                    replace H := Option.bind_eq_some_iff.mp H
                                    obtain ⟨⟨t321, t322⟩, A490, H⟩ := H
                                    replace H : ((scopes_Union.f kj3 a0 a1).bind fun bt323 => (if t318 = 0 then (if t320 = 0 then (if t317.toList = t319.toList then (if t322 = 0 then ((scopes_Union.f kj3 bt323.1 a2).bind fun bt325 => (if bt323.2 = 0 then (if bt325.2 = 0 then (if t321.toList = bt325.1.toList then ((mummerlaw09_awake.f kj3).bind fun t327 => (some t327)) else (some false)) else (some false)) else (some false))) else ((mummerlaw09_awake.f kj3).bind fun t328 => (some t328))) else (some false)) else (some false)) else (some false))) = some r := H
                                    have A49 := ak A490
                                    clear A490
                                    replace H := Option.bind_eq_some_iff.mp H
                                    obtain ⟨⟨t323, t324⟩, A500, H⟩ := H
                                    replace H : (if t318 = 0 then (if t320 = 0 then (if t317.toList = t319.toList then (if t322 = 0 then ((scopes_Union.f kj3 t323 a2).bind fun bt325 => (if t324 = 0 then (if bt325.2 = 0 then (if t321.toList = bt325.1.toList then ((mummerlaw09_awake.f kj3).bind fun t327 => (some t327)) else (some false)) else (some false)) else (some false))) else ((mummerlaw09_awake.f kj3).bind fun t328 => (some t328))) else (some false)) else (some false)) else (some false)) = some r := H
                                    have A50 := ak A500
                                    clear A500
                                    by_cases c51 : t318 = 0
                                    · rw [if_pos c51] at H
                                      have c51b0 : (t318 == 0) = true := beq_iff_eq.mpr c51
                                      have c51b1 : (t318 != 0) = false := bne_eq_false_iff_eq.mpr c51
                                      clear c51
                                      by_cases c52 : t320 = 0
                                      · rw [if_pos c52] at H
                                        have c52b0 : (t320 == 0) = true := beq_iff_eq.mpr c52
                                        have c52b1 : (t320 != 0) = false := bne_eq_false_iff_eq.mpr c52
                                        clear c52
                                        by_cases c53 : t317.toList = t319.toList
                                        · rw [if_pos c53] at H
                                          have c53b0 : (t317.toList == t319.toList) = true := beq_iff_eq.mpr c53
                                          have c53b1 : (t317.toList != t319.toList) = false := bne_eq_false_iff_eq.mpr c53
                                          clear c53
                                          by_cases c54 : t322 = 0
                                          · rw [if_pos c54] at H
                                            have c54b0 : (t322 == 0) = true := beq_iff_eq.mpr c54
                                            have c54b1 : (t322 != 0) = false := bne_eq_false_iff_eq.mpr c54
                                            clear c54
                                            replace H := Option.bind_eq_some_iff.mp H
                                            obtain ⟨⟨t325, t326⟩, A550, H⟩ := H
                                            replace H : (if t324 = 0 then (if t326 = 0 then (if t321.toList = t325.toList then ((mummerlaw09_awake.f kj3).bind fun t327 => (some t327)) else (some false)) else (some false)) else (some false)) = some r := H
                                            have A55 := ak A550
                                            clear A550
                                            by_cases c56 : t324 = 0
                                            · rw [if_pos c56] at H
                                              have c56b0 : (t324 == 0) = true := beq_iff_eq.mpr c56
                                              have c56b1 : (t324 != 0) = false := bne_eq_false_iff_eq.mpr c56
                                              clear c56
                                              by_cases c57 : t326 = 0
                                              · rw [if_pos c57] at H
                                                have c57b0 : (t326 == 0) = true := beq_iff_eq.mpr c57
                                                have c57b1 : (t326 != 0) = false := bne_eq_false_iff_eq.mpr c57
                                                clear c57
                                                by_cases c58 : t321.toList = t325.toList
                                                · rw [if_pos c58] at H
                                                  have c58b0 : (t321.toList == t325.toList) = true := beq_iff_eq.mpr c58
                                                  have c58b1 : (t321.toList != t325.toList) = false := bne_eq_false_iff_eq.mpr c58
                                                  clear c58
                                                  replace H := Option.bind_eq_some_iff.mp H
                                                  obtain ⟨t327, A590, H⟩ := H
                                                  replace H : (some t327) = some r := H
                                                  have A59 := ak A590
                                                  clear A590
                                                  obtain rfl := Option.some.inj H
                                                  go_wp2_with (first | ((with_reducible refine gate_callee (f := 13) rfl ?_); refine goesL_ (some 56) rfl rfl Tryd.func13 (by kernel_rfl) rfl #[.string a0] rfl (by (try simp only [List.map_toArray, List.map_cons, List.map_nil]); first | done | rfl | (simp only [List.length_drop, List.length_take]; rfl)) ?_; (with_reducible refine (scopes_Ids.calls a0 t292 t293 _ A22.out).mono ?_); rintro e w60 ⟨v294, rfl, ho0, hb⟩; refine ⟨_, rfl, ?_⟩; have n0_ := ak (Kd.R_lower ho0 (below_size (by repeat (first | (with_reducible first | exact HB.out | apply wA | apply wN | apply wD) | exact HB.out)))); have n1_ := ak (below_step (by repeat (first | (with_reducible first | exact HB.out | apply wA | apply wN | apply wD) | exact HB.out)) hb); clear HB; have HO295 := n0_; have HB := n1_; clear n0_ n1_; (try clear hb); (try clear hb2); (try clear hk); (try clear hi); (try clear ho0); obtain ⟨Ao61, co61, eo61⟩ := Kd.R_slice HO295.out; subst eo61) | ((with_reducible refine gate_callee (f := 11) rfl ?_); refine goesL_ (some 61) rfl rfl Tryd.func11 (by kernel_rfl) rfl #[.slice Ao61 t292.length co61] rfl (by (try simp only [List.map_toArray, List.map_cons, List.map_nil]); first | done | rfl | (simp only [List.length_drop, List.length_take]; rfl)) ?_; (with_reducible refine (scopes_Of.calls _ _ t292 t296 t297 _ ?side1 ?side2 A23.out).mono ?_); (case side1 => repeat (first | exact (Kd.R_reads' HO295.out).2.2 | (with_reducible refine Kd.C_alloc ?_ _) | (with_reducible refine Kd.C_drewN ?_ _) | (with_reducible refine Kd.C_drew ?_))); (case side2 => exact (Kd.R_reads' HO295.out).2.1); rintro e w62 ⟨rfl, hb⟩; refine ⟨_, rfl, ?_⟩; have n0_ := ak (Kd.R_below (by (with_reducible repeat (first | apply Kd.R_alloc | apply Kd.R_drewN | apply Kd.R_drew)); exact HO295.out) hb); have n1_ := ak (below_step (by repeat (first | (with_reducible first | exact HB.out | apply wA | apply wN | apply wD) | exact HB.out)) hb); clear HO295; clear HB; have HO295 := n0_; have HB := n1_; clear n0_ n1_; (try clear hb); (try clear hb2); (try clear hk); (try clear hi)) | ((with_reducible refine gate_callee (f := 26) rfl ?_); refine goesL_ (some 67) rfl rfl Tryd.func26 (by kernel_rfl) rfl #[.string a0, .string a1] rfl (by (try simp only [List.map_toArray, List.map_cons, List.map_nil]); first | done | rfl | (simp only [List.length_drop, List.length_take]; rfl)) ?_; (with_reducible refine (scopes_Union.calls kj3 a0 a1 t298 t299 _ A24.out).mono ?_); rintro e w63 ⟨rfl, hb⟩; refine ⟨_, rfl, ?_⟩; have n0_ := ak (Kd.R_below (by (with_reducible repeat (first | apply Kd.R_alloc | apply Kd.R_drewN | apply Kd.R_drew)); exact HO295.out) hb); have n1_ := ak (below_step (by repeat (first | (with_reducible first | exact HB.out | apply wA | apply wN | apply wD) | exact HB.out)) hb); clear HO295; clear HB; have HO295 := n0_; have HB := n1_; clear n0_ n1_; (try clear hb); (try clear hb2); (try clear hk); (try clear hi)) | ((with_reducible refine gate_callee (f := 26) rfl ?_); refine goesL_ (some 73) rfl rfl Tryd.func26 (by kernel_rfl) rfl #[.string a1, .string a0] rfl (by (try simp only [List.map_toArray, List.map_cons, List.map_nil]); first | done | rfl | (simp only [List.length_drop, List.length_take]; rfl)) ?_; (with_reducible refine (scopes_Union.calls kj3 a1 a0 t300 t301 _ A25.out).mono ?_); rintro e w64 ⟨rfl, hb⟩; refine ⟨_, rfl, ?_⟩; have n0_ := ak (Kd.R_below (by (with_reducible repeat (first | apply Kd.R_alloc | apply Kd.R_drewN | apply Kd.R_drew)); exact HO295.out) hb); have n1_ := ak (below_step (by repeat (first | (with_reducible first | exact HB.out | apply wA | apply wN | apply wD) | exact HB.out)) hb); clear HO295; clear HB; have HO295 := n0_; have HB := n1_; clear n0_ n1_; (try clear hb); (try clear hb2); (try clear hk); (try clear hi)) | ((with_reducible refine gate_callee (f := 27) rfl ?_); refine goesL_ (some 100) rfl rfl Tryd.func27 (by kernel_rfl) rfl #[.string a0, .string a1] rfl (by (try simp only [List.map_toArray, List.map_cons, List.map_nil]); first | done | rfl | (simp only [List.length_drop, List.length_take]; rfl)) ?_; (with_reducible refine (scopes_Meet.calls kj3 a0 a1 t302 t303 _ A31.out).mono ?_); rintro e w65 ⟨rfl, hb⟩; refine ⟨_, rfl, ?_⟩; have n0_ := ak (Kd.R_below (by (with_reducible repeat (first | apply Kd.R_alloc | apply Kd.R_drewN | apply Kd.R_drew)); exact HO295.out) hb); have n1_ := ak (below_step (by repeat (first | (with_reducible first | exact HB.out | apply wA | apply wN | apply wD) | exact HB.out)) hb); clear HO295; clear HB; have HO295 := n0_; have HB := n1_; clear n0_ n1_; (try clear hb); (try clear hb2); (try clear hk); (try clear hi)) | ((with_reducible refine gate_callee (f := 27) rfl ?_); refine goesL_ (some 106) rfl rfl Tryd.func27 (by kernel_rfl) rfl #[.string a1, .string a0] rfl (by (try simp only [List.map_toArray, List.map_cons, List.map_nil]); first | done | rfl | (simp only [List.length_drop, List.length_take]; rfl)) ?_; (with_reducible refine (scopes_Meet.calls kj3 a1 a0 t304 t305 _ A32.out).mono ?_); rintro e w66 ⟨rfl, hb⟩; refine ⟨_, rfl, ?_⟩; have n0_ := ak (Kd.R_below (by (with_reducible repeat (first | apply Kd.R_alloc | apply Kd.R_drewN | apply Kd.R_drew)); exact HO295.out) hb); have n1_ := ak (below_step (by repeat (first | (with_reducible first | exact HB.out | apply wA | apply wN | apply wD) | exact HB.out)) hb); clear HO295; clear HB; have HO295 := n0_; have HB := n1_; clear n0_ n1_; (try clear hb); (try clear hb2); (try clear hk); (try clear hi)) | ((with_reducible refine gate_callee (f := 27) rfl ?_); refine goesL_ (some 112) rfl rfl Tryd.func27 (by kernel_rfl) rfl #[.string a0, .string a2] rfl (by (try simp only [List.map_toArray, List.map_cons, List.map_nil]); first | done | rfl | (simp only [List.length_drop, List.length_take]; rfl)) ?_; (with_reducible refine (scopes_Meet.calls kj3 a0 a2 t306 t307 _ A33.out).mono ?_); rintro e w67 ⟨rfl, hb⟩; refine ⟨_, rfl, ?_⟩; have n0_ := ak (Kd.R_below (by (with_reducible repeat (first | apply Kd.R_alloc | apply Kd.R_drewN | apply Kd.R_drew)); exact HO295.out) hb); have n1_ := ak (below_step (by repeat (first | (with_reducible first | exact HB.out | apply wA | apply wN | apply wD) | exact HB.out)) hb); clear HO295; clear HB; have HO295 := n0_; have HB := n1_; clear n0_ n1_; (try clear hb); (try clear hb2); (try clear hk); (try clear hi)) | ((with_reducible refine gate_callee (f := 27) rfl ?_); refine goesL_ (some 118) rfl rfl Tryd.func27 (by kernel_rfl) rfl #[.string a1, .string a2] rfl (by (try simp only [List.map_toArray, List.map_cons, List.map_nil]); first | done | rfl | (simp only [List.length_drop, List.length_take]; rfl)) ?_; (with_reducible refine (scopes_Meet.calls kj3 a1 a2 t308 t309 _ A34.out).mono ?_); rintro e w68 ⟨rfl, hb⟩; refine ⟨_, rfl, ?_⟩; have n0_ := ak (Kd.R_below (by (with_reducible repeat (first | apply Kd.R_alloc | apply Kd.R_drewN | apply Kd.R_drew)); exact HO295.out) hb); have n1_ := ak (below_step (by repeat (first | (with_reducible first | exact HB.out | apply wA | apply wN | apply wD) | exact HB.out)) hb); clear HO295; clear HB; have HO295 := n0_; have HB := n1_; clear n0_ n1_; (try clear hb); (try clear hb2); (try clear hk); (try clear hi)) | ((with_reducible refine gate_callee (f := 27) rfl ?_); refine goesL_ (some 143) rfl rfl Tryd.func27 (by kernel_rfl) rfl #[.string t302, .string a2] rfl (by (try simp only [List.map_toArray, List.map_cons, List.map_nil]); first | done | rfl | (simp only [List.length_drop, List.length_take]; rfl)) ?_; (with_reducible refine (scopes_Meet.calls kj3 t302 a2 t310 t311 _ A40.out).mono ?_); rintro e w69 ⟨rfl, hb⟩; refine ⟨_, rfl, ?_⟩; have n0_ := ak (Kd.R_below (by (with_reducible repeat (first | apply Kd.R_alloc | apply Kd.R_drewN | apply Kd.R_drew)); exact HO295.out) hb); have n1_ := ak (below_step (by repeat (first | (with_reducible first | exact HB.out | apply wA | apply wN | apply wD) | exact HB.out)) hb); clear HO295; clear HB; have HO295 := n0_; have HB := n1_; clear n0_ n1_; (try clear hb); (try clear hb2); (try clear hk); (try clear hi)) | ((with_reducible refine gate_callee (f := 27) rfl ?_); refine goesL_ (some 149) rfl rfl Tryd.func27 (by kernel_rfl) rfl #[.string a0, .string t308] rfl (by (try simp only [List.map_toArray, List.map_cons, List.map_nil]); first | done | rfl | (simp only [List.length_drop, List.length_take]; rfl)) ?_; (with_reducible refine (scopes_Meet.calls kj3 a0 t308 t312 t313 _ A41.out).mono ?_); rintro e w70 ⟨rfl, hb⟩; refine ⟨_, rfl, ?_⟩; have n0_ := ak (Kd.R_below (by (with_reducible repeat (first | apply Kd.R_alloc | apply Kd.R_drewN | apply Kd.R_drew)); exact HO295.out) hb); have n1_ := ak (below_step (by repeat (first | (with_reducible first | exact HB.out | apply wA | apply wN | apply wD) | exact HB.out)) hb); clear HO295; clear HB; have HO295 := n0_; have HB := n1_; clear n0_ n1_; (try clear hb); (try clear hb2); (try clear hk); (try clear hi)) | ((with_reducible refine gate_callee (f := 26) rfl ?_); refine goesL_ (some 166) rfl rfl Tryd.func26 (by kernel_rfl) rfl #[.string a1, .string a2] rfl (by (try simp only [List.map_toArray, List.map_cons, List.map_nil]); first | done | rfl | (simp only [List.length_drop, List.length_take]; rfl)) ?_; (with_reducible refine (scopes_Union.calls kj3 a1 a2 t314 t315 _ A45.out).mono ?_); rintro e w71 ⟨rfl, hb⟩; refine ⟨_, rfl, ?_⟩; have n0_ := ak (Kd.R_below (by (with_reducible repeat (first | apply Kd.R_alloc | apply Kd.R_drewN | apply Kd.R_drew)); exact HO295.out) hb); have n1_ := ak (below_step (by repeat (first | (with_reducible first | exact HB.out | apply wA | apply wN | apply wD) | exact HB.out)) hb); clear HO295; clear HB; have HO295 := n0_; have HB := n1_; clear n0_ n1_; (try clear hb); (try clear hb2); (try clear hk); (try clear hi)) | ((with_reducible refine gate_callee (f := 27) rfl ?_); refine goesL_ (some 175) rfl rfl Tryd.func27 (by kernel_rfl) rfl #[.string a0, .string t314] rfl (by (try simp only [List.map_toArray, List.map_cons, List.map_nil]); first | done | rfl | (simp only [List.length_drop, List.length_take]; rfl)) ?_; (with_reducible refine (scopes_Meet.calls kj3 a0 t314 t317 t318 _ A47.out).mono ?_); rintro e w72 ⟨rfl, hb⟩; refine ⟨_, rfl, ?_⟩; have n0_ := ak (Kd.R_below (by (with_reducible repeat (first | apply Kd.R_alloc | apply Kd.R_drewN | apply Kd.R_drew)); exact HO295.out) hb); have n1_ := ak (below_step (by repeat (first | (with_reducible first | exact HB.out | apply wA | apply wN | apply wD) | exact HB.out)) hb); clear HO295; clear HB; have HO295 := n0_; have HB := n1_; clear n0_ n1_; (try clear hb); (try clear hb2); (try clear hk); (try clear hi)) | ((with_reducible refine gate_callee (f := 26) rfl ?_); refine goesL_ (some 181) rfl rfl Tryd.func26 (by kernel_rfl) rfl #[.string t302, .string t306] rfl (by (try simp only [List.map_toArray, List.map_cons, List.map_nil]); first | done | rfl | (simp only [List.length_drop, List.length_take]; rfl)) ?_; (with_reducible refine (scopes_Union.calls kj3 t302 t306 t319 t320 _ A48.out).mono ?_); rintro e w73 ⟨rfl, hb⟩; refine ⟨_, rfl, ?_⟩; have n0_ := ak (Kd.R_below (by (with_reducible repeat (first | apply Kd.R_alloc | apply Kd.R_drewN | apply Kd.R_drew)); exact HO295.out) hb); have n1_ := ak (below_step (by repeat (first | (with_reducible first | exact HB.out | apply wA | apply wN | apply wD) | exact HB.out)) hb); clear HO295; clear HB; have HO295 := n0_; have HB := n1_; clear n0_ n1_; (try clear hb); (try clear hb2); (try clear hk); (try clear hi)) | ((with_reducible refine gate_callee (f := 26) rfl ?_); refine goesL_ (some 187) rfl rfl Tryd.func26 (by kernel_rfl) rfl #[.string a0, .string t314] rfl (by (try simp only [List.map_toArray, List.map_cons, List.map_nil]); first | done | rfl | (simp only [List.length_drop, List.length_take]; rfl)) ?_; (with_reducible refine (scopes_Union.calls kj3 a0 t314 t321 t322 _ A49.out).mono ?_); rintro e w74 ⟨rfl, hb⟩; refine ⟨_, rfl, ?_⟩; have n0_ := ak (Kd.R_below (by (with_reducible repeat (first | apply Kd.R_alloc | apply Kd.R_drewN | apply Kd.R_drew)); exact HO295.out) hb); have n1_ := ak (below_step (by repeat (first | (with_reducible first | exact HB.out | apply wA | apply wN | apply wD) | exact HB.out)) hb); clear HO295; clear HB; have HO295 := n0_; have HB := n1_; clear n0_ n1_; (try clear hb); (try clear hb2); (try clear hk); (try clear hi)) | ((with_reducible refine gate_callee (f := 26) rfl ?_); refine goesL_ (some 193) rfl rfl Tryd.func26 (by kernel_rfl) rfl #[.string a0, .string a1] rfl (by (try simp only [List.map_toArray, List.map_cons, List.map_nil]); first | done | rfl | (simp only [List.length_drop, List.length_take]; rfl)) ?_; (with_reducible refine (scopes_Union.calls kj3 a0 a1 t323 t324 _ A50.out).mono ?_); rintro e w75 ⟨rfl, hb⟩; refine ⟨_, rfl, ?_⟩; have n0_ := ak (Kd.R_below (by (with_reducible repeat (first | apply Kd.R_alloc | apply Kd.R_drewN | apply Kd.R_drew)); exact HO295.out) hb); have n1_ := ak (below_step (by repeat (first | (with_reducible first | exact HB.out | apply wA | apply wN | apply wD) | exact HB.out)) hb); clear HO295; clear HB; have HO295 := n0_; have HB := n1_; clear n0_ n1_; (try clear hb); (try clear hb2); (try clear hk); (try clear hi)) | ((with_reducible refine gate_callee (f := 26) rfl ?_); refine goesL_ (some 212) rfl rfl Tryd.func26 (by kernel_rfl) rfl #[.string t323, .string a2] rfl (by (try simp only [List.map_toArray, List.map_cons, List.map_nil]); first | done | rfl | (simp only [List.length_drop, List.length_take]; rfl)) ?_; (with_reducible refine (scopes_Union.calls kj3 t323 a2 t325 t326 _ A55.out).mono ?_); rintro e w76 ⟨rfl, hb⟩; refine ⟨_, rfl, ?_⟩; have n0_ := ak (Kd.R_below (by (with_reducible repeat (first | apply Kd.R_alloc | apply Kd.R_drewN | apply Kd.R_drew)); exact HO295.out) hb); have n1_ := ak (below_step (by repeat (first | (with_reducible first | exact HB.out | apply wA | apply wN | apply wD) | exact HB.out)) hb); clear HO295; clear HB; have HO295 := n0_; have HB := n1_; clear n0_ n1_; (try clear hb); (try clear hb2); (try clear hk); (try clear hi)) | ((with_reducible refine gate_callee (f := 10) rfl ?_); refine goesL_ (some 226) rfl rfl Tryd.func10 (by kernel_rfl) rfl #[] rfl (by (try simp only [List.map_toArray, List.map_cons, List.map_nil]); first | done | rfl | (simp only [List.length_drop, List.length_take]; rfl)) ?_; (with_reducible refine (mummerlaw09_awake.calls kj3  t327 _ hrt A59.out ⟨Sc.Tab.stay HT.out (by repeat (first | (with_reducible first | exact HB.out | apply wA | apply wN | apply wD) | exact HB.out | (refine below_set ?_ (by assumption))))⟩).mono ?_); rintro e w77 ⟨rfl, hb⟩; refine ⟨_, rfl, ?_⟩; have n0_ := ak (Kd.R_below (by (with_reducible repeat (first | apply Kd.R_alloc | apply Kd.R_drewN | apply Kd.R_drew)); exact HO295.out) hb); have n1_ := ak (below_step (by repeat (first | (with_reducible first | exact HB.out | apply wA | apply wN | apply wD) | exact HB.out)) hb); clear HO295; clear HB; have HO295 := n0_; have HB := n1_; clear n0_ n1_; (try clear hb); (try clear hb2); (try clear hk); (try clear hi)))
                                                  go_ret
                                                  exact ⟨by first | rfl | (simp [errW_none, errW_some] <;> rfl) | (simp [*, errW_none, errW_some] <;> rfl), by repeat (first | (with_reducible first | exact HB.out | apply wA | apply wN | apply wD) | exact HB.out)⟩
                                                · rw [if_neg c58] at H
                                                  have c58b0 : (t321.toList == t325.toList) = false := beq_eq_false_iff_ne.mpr c58
                                                  have c58b1 : (t321.toList != t325.toList) = true := bne_iff_ne.mpr c58
                                                  exact absurd ((Option.some.inj H).trans hrt.out) (by decide)
                                              · rw [if_neg c57] at H
                                                have c57b0 : (t326 == 0) = false := beq_eq_false_iff_ne.mpr c57
                                                have c57b1 : (t326 != 0) = true := bne_iff_ne.mpr c57
                                                exact absurd ((Option.some.inj H).trans hrt.out) (by decide)
                                            · rw [if_neg c56] at H
                                              have c56b0 : (t324 == 0) = false := beq_eq_false_iff_ne.mpr c56
                                              have c56b1 : (t324 != 0) = true := bne_iff_ne.mpr c56
                                              exact absurd ((Option.some.inj H).trans hrt.out) (by decide)
                                          · rw [if_neg c54] at H
                                            have c54b0 : (t322 == 0) = false := beq_eq_false_iff_ne.mpr c54
                                            have c54b1 : (t322 != 0) = true := bne_iff_ne.mpr c54
                                            replace H := Option.bind_eq_some_iff.mp H
                                            obtain ⟨t328, A780, H⟩ := H
                                            replace H : (some t328) = some r := H
                                            have A78 := ak A780
                                            clear A780
                                            obtain rfl := Option.some.inj H
                                            go_wp2_with (first | ((with_reducible refine gate_callee (f := 13) rfl ?_); refine goesL_ (some 56) rfl rfl Tryd.func13 (by kernel_rfl) rfl #[.string a0] rfl (by (try simp only [List.map_toArray, List.map_cons, List.map_nil]); first | done | rfl | (simp only [List.length_drop, List.length_take]; rfl)) ?_; (with_reducible refine (scopes_Ids.calls a0 t292 t293 _ A22.out).mono ?_); rintro e w79 ⟨v294, rfl, ho0, hb⟩; refine ⟨_, rfl, ?_⟩; have n0_ := ak (Kd.R_lower ho0 (below_size (by repeat (first | (with_reducible first | exact HB.out | apply wA | apply wN | apply wD) | exact HB.out)))); have n1_ := ak (below_step (by repeat (first | (with_reducible first | exact HB.out | apply wA | apply wN | apply wD) | exact HB.out)) hb); clear HB; have HO295 := n0_; have HB := n1_; clear n0_ n1_; (try clear hb); (try clear hb2); (try clear hk); (try clear hi); (try clear ho0); obtain ⟨Ao80, co80, eo80⟩ := Kd.R_slice HO295.out; subst eo80) | ((with_reducible refine gate_callee (f := 11) rfl ?_); refine goesL_ (some 61) rfl rfl Tryd.func11 (by kernel_rfl) rfl #[.slice Ao80 t292.length co80] rfl (by (try simp only [List.map_toArray, List.map_cons, List.map_nil]); first | done | rfl | (simp only [List.length_drop, List.length_take]; rfl)) ?_; (with_reducible refine (scopes_Of.calls _ _ t292 t296 t297 _ ?side1 ?side2 A23.out).mono ?_); (case side1 => repeat (first | exact (Kd.R_reads' HO295.out).2.2 | (with_reducible refine Kd.C_alloc ?_ _) | (with_reducible refine Kd.C_drewN ?_ _) | (with_reducible refine Kd.C_drew ?_))); (case side2 => exact (Kd.R_reads' HO295.out).2.1); rintro e w81 ⟨rfl, hb⟩; refine ⟨_, rfl, ?_⟩; have n0_ := ak (Kd.R_below (by (with_reducible repeat (first | apply Kd.R_alloc | apply Kd.R_drewN | apply Kd.R_drew)); exact HO295.out) hb); have n1_ := ak (below_step (by repeat (first | (with_reducible first | exact HB.out | apply wA | apply wN | apply wD) | exact HB.out)) hb); clear HO295; clear HB; have HO295 := n0_; have HB := n1_; clear n0_ n1_; (try clear hb); (try clear hb2); (try clear hk); (try clear hi)) | ((with_reducible refine gate_callee (f := 26) rfl ?_); refine goesL_ (some 67) rfl rfl Tryd.func26 (by kernel_rfl) rfl #[.string a0, .string a1] rfl (by (try simp only [List.map_toArray, List.map_cons, List.map_nil]); first | done | rfl | (simp only [List.length_drop, List.length_take]; rfl)) ?_; (with_reducible refine (scopes_Union.calls kj3 a0 a1 t298 t299 _ A24.out).mono ?_); rintro e w82 ⟨rfl, hb⟩; refine ⟨_, rfl, ?_⟩; have n0_ := ak (Kd.R_below (by (with_reducible repeat (first | apply Kd.R_alloc | apply Kd.R_drewN | apply Kd.R_drew)); exact HO295.out) hb); have n1_ := ak (below_step (by repeat (first | (with_reducible first | exact HB.out | apply wA | apply wN | apply wD) | exact HB.out)) hb); clear HO295; clear HB; have HO295 := n0_; have HB := n1_; clear n0_ n1_; (try clear hb); (try clear hb2); (try clear hk); (try clear hi)) | ((with_reducible refine gate_callee (f := 26) rfl ?_); refine goesL_ (some 73) rfl rfl Tryd.func26 (by kernel_rfl) rfl #[.string a1, .string a0] rfl (by (try simp only [List.map_toArray, List.map_cons, List.map_nil]); first | done | rfl | (simp only [List.length_drop, List.length_take]; rfl)) ?_; (with_reducible refine (scopes_Union.calls kj3 a1 a0 t300 t301 _ A25.out).mono ?_); rintro e w83 ⟨rfl, hb⟩; refine ⟨_, rfl, ?_⟩; have n0_ := ak (Kd.R_below (by (with_reducible repeat (first | apply Kd.R_alloc | apply Kd.R_drewN | apply Kd.R_drew)); exact HO295.out) hb); have n1_ := ak (below_step (by repeat (first | (with_reducible first | exact HB.out | apply wA | apply wN | apply wD) | exact HB.out)) hb); clear HO295; clear HB; have HO295 := n0_; have HB := n1_; clear n0_ n1_; (try clear hb); (try clear hb2); (try clear hk); (try clear hi)) | ((with_reducible refine gate_callee (f := 27) rfl ?_); refine goesL_ (some 100) rfl rfl Tryd.func27 (by kernel_rfl) rfl #[.string a0, .string a1] rfl (by (try simp only [List.map_toArray, List.map_cons, List.map_nil]); first | done | rfl | (simp only [List.length_drop, List.length_take]; rfl)) ?_; (with_reducible refine (scopes_Meet.calls kj3 a0 a1 t302 t303 _ A31.out).mono ?_); rintro e w84 ⟨rfl, hb⟩; refine ⟨_, rfl, ?_⟩; have n0_ := ak (Kd.R_below (by (with_reducible repeat (first | apply Kd.R_alloc | apply Kd.R_drewN | apply Kd.R_drew)); exact HO295.out) hb); have n1_ := ak (below_step (by repeat (first | (with_reducible first | exact HB.out | apply wA | apply wN | apply wD) | exact HB.out)) hb); clear HO295; clear HB; have HO295 := n0_; have HB := n1_; clear n0_ n1_; (try clear hb); (try clear hb2); (try clear hk); (try clear hi)) | ((with_reducible refine gate_callee (f := 27) rfl ?_); refine goesL_ (some 106) rfl rfl Tryd.func27 (by kernel_rfl) rfl #[.string a1, .string a0] rfl (by (try simp only [List.map_toArray, List.map_cons, List.map_nil]); first | done | rfl | (simp only [List.length_drop, List.length_take]; rfl)) ?_; (with_reducible refine (scopes_Meet.calls kj3 a1 a0 t304 t305 _ A32.out).mono ?_); rintro e w85 ⟨rfl, hb⟩; refine ⟨_, rfl, ?_⟩; have n0_ := ak (Kd.R_below (by (with_reducible repeat (first | apply Kd.R_alloc | apply Kd.R_drewN | apply Kd.R_drew)); exact HO295.out) hb); have n1_ := ak (below_step (by repeat (first | (with_reducible first | exact HB.out | apply wA | apply wN | apply wD) | exact HB.out)) hb); clear HO295; clear HB; have HO295 := n0_; have HB := n1_; clear n0_ n1_; (try clear hb); (try clear hb2); (try clear hk); (try clear hi)) | ((with_reducible refine gate_callee (f := 27) rfl ?_); refine goesL_ (some 112) rfl rfl Tryd.func27 (by kernel_rfl) rfl #[.string a0, .string a2] rfl (by (try simp only [List.map_toArray, List.map_cons, List.map_nil]); first | done | rfl | (simp only [List.length_drop, List.length_take]; rfl)) ?_; (with_reducible refine (scopes_Meet.calls kj3 a0 a2 t306 t307 _ A33.out).mono ?_); rintro e w86 ⟨rfl, hb⟩; refine ⟨_, rfl, ?_⟩; have n0_ := ak (Kd.R_below (by (with_reducible repeat (first | apply Kd.R_alloc | apply Kd.R_drewN | apply Kd.R_drew)); exact HO295.out) hb); have n1_ := ak (below_step (by repeat (first | (with_reducible first | exact HB.out | apply wA | apply wN | apply wD) | exact HB.out)) hb); clear HO295; clear HB; have HO295 := n0_; have HB := n1_; clear n0_ n1_; (try clear hb); (try clear hb2); (try clear hk); (try clear hi)) | ((with_reducible refine gate_callee (f := 27) rfl ?_); refine goesL_ (some 118) rfl rfl Tryd.func27 (by kernel_rfl) rfl #[.string a1, .string a2] rfl (by (try simp only [List.map_toArray, List.map_cons, List.map_nil]); first | done | rfl | (simp only [List.length_drop, List.length_take]; rfl)) ?_; (with_reducible refine (scopes_Meet.calls kj3 a1 a2 t308 t309 _ A34.out).mono ?_); rintro e w87 ⟨rfl, hb⟩; refine ⟨_, rfl, ?_⟩; have n0_ := ak (Kd.R_below (by (with_reducible repeat (first | apply Kd.R_alloc | apply Kd.R_drewN | apply Kd.R_drew)); exact HO295.out) hb); have n1_ := ak (below_step (by repeat (first | (with_reducible first | exact HB.out | apply wA | apply wN | apply wD) | exact HB.out)) hb); clear HO295; clear HB; have HO295 := n0_; have HB := n1_; clear n0_ n1_; (try clear hb); (try clear hb2); (try clear hk); (try clear hi)) | ((with_reducible refine gate_callee (f := 27) rfl ?_); refine goesL_ (some 143) rfl rfl Tryd.func27 (by kernel_rfl) rfl #[.string t302, .string a2] rfl (by (try simp only [List.map_toArray, List.map_cons, List.map_nil]); first | done | rfl | (simp only [List.length_drop, List.length_take]; rfl)) ?_; (with_reducible refine (scopes_Meet.calls kj3 t302 a2 t310 t311 _ A40.out).mono ?_); rintro e w88 ⟨rfl, hb⟩; refine ⟨_, rfl, ?_⟩; have n0_ := ak (Kd.R_below (by (with_reducible repeat (first | apply Kd.R_alloc | apply Kd.R_drewN | apply Kd.R_drew)); exact HO295.out) hb); have n1_ := ak (below_step (by repeat (first | (with_reducible first | exact HB.out | apply wA | apply wN | apply wD) | exact HB.out)) hb); clear HO295; clear HB; have HO295 := n0_; have HB := n1_; clear n0_ n1_; (try clear hb); (try clear hb2); (try clear hk); (try clear hi)) | ((with_reducible refine gate_callee (f := 27) rfl ?_); refine goesL_ (some 149) rfl rfl Tryd.func27 (by kernel_rfl) rfl #[.string a0, .string t308] rfl (by (try simp only [List.map_toArray, List.map_cons, List.map_nil]); first | done | rfl | (simp only [List.length_drop, List.length_take]; rfl)) ?_; (with_reducible refine (scopes_Meet.calls kj3 a0 t308 t312 t313 _ A41.out).mono ?_); rintro e w89 ⟨rfl, hb⟩; refine ⟨_, rfl, ?_⟩; have n0_ := ak (Kd.R_below (by (with_reducible repeat (first | apply Kd.R_alloc | apply Kd.R_drewN | apply Kd.R_drew)); exact HO295.out) hb); have n1_ := ak (below_step (by repeat (first | (with_reducible first | exact HB.out | apply wA | apply wN | apply wD) | exact HB.out)) hb); clear HO295; clear HB; have HO295 := n0_; have HB := n1_; clear n0_ n1_; (try clear hb); (try clear hb2); (try clear hk); (try clear hi)) | ((with_reducible refine gate_callee (f := 26) rfl ?_); refine goesL_ (some 166) rfl rfl Tryd.func26 (by kernel_rfl) rfl #[.string a1, .string a2] rfl (by (try simp only [List.map_toArray, List.map_cons, List.map_nil]); first | done | rfl | (simp only [List.length_drop, List.length_take]; rfl)) ?_; (with_reducible refine (scopes_Union.calls kj3 a1 a2 t314 t315 _ A45.out).mono ?_); rintro e w90 ⟨rfl, hb⟩; refine ⟨_, rfl, ?_⟩; have n0_ := ak (Kd.R_below (by (with_reducible repeat (first | apply Kd.R_alloc | apply Kd.R_drewN | apply Kd.R_drew)); exact HO295.out) hb); have n1_ := ak (below_step (by repeat (first | (with_reducible first | exact HB.out | apply wA | apply wN | apply wD) | exact HB.out)) hb); clear HO295; clear HB; have HO295 := n0_; have HB := n1_; clear n0_ n1_; (try clear hb); (try clear hb2); (try clear hk); (try clear hi)) | ((with_reducible refine gate_callee (f := 27) rfl ?_); refine goesL_ (some 175) rfl rfl Tryd.func27 (by kernel_rfl) rfl #[.string a0, .string t314] rfl (by (try simp only [List.map_toArray, List.map_cons, List.map_nil]); first | done | rfl | (simp only [List.length_drop, List.length_take]; rfl)) ?_; (with_reducible refine (scopes_Meet.calls kj3 a0 t314 t317 t318 _ A47.out).mono ?_); rintro e w91 ⟨rfl, hb⟩; refine ⟨_, rfl, ?_⟩; have n0_ := ak (Kd.R_below (by (with_reducible repeat (first | apply Kd.R_alloc | apply Kd.R_drewN | apply Kd.R_drew)); exact HO295.out) hb); have n1_ := ak (below_step (by repeat (first | (with_reducible first | exact HB.out | apply wA | apply wN | apply wD) | exact HB.out)) hb); clear HO295; clear HB; have HO295 := n0_; have HB := n1_; clear n0_ n1_; (try clear hb); (try clear hb2); (try clear hk); (try clear hi)) | ((with_reducible refine gate_callee (f := 26) rfl ?_); refine goesL_ (some 181) rfl rfl Tryd.func26 (by kernel_rfl) rfl #[.string t302, .string t306] rfl (by (try simp only [List.map_toArray, List.map_cons, List.map_nil]); first | done | rfl | (simp only [List.length_drop, List.length_take]; rfl)) ?_; (with_reducible refine (scopes_Union.calls kj3 t302 t306 t319 t320 _ A48.out).mono ?_); rintro e w92 ⟨rfl, hb⟩; refine ⟨_, rfl, ?_⟩; have n0_ := ak (Kd.R_below (by (with_reducible repeat (first | apply Kd.R_alloc | apply Kd.R_drewN | apply Kd.R_drew)); exact HO295.out) hb); have n1_ := ak (below_step (by repeat (first | (with_reducible first | exact HB.out | apply wA | apply wN | apply wD) | exact HB.out)) hb); clear HO295; clear HB; have HO295 := n0_; have HB := n1_; clear n0_ n1_; (try clear hb); (try clear hb2); (try clear hk); (try clear hi)) | ((with_reducible refine gate_callee (f := 26) rfl ?_); refine goesL_ (some 187) rfl rfl Tryd.func26 (by kernel_rfl) rfl #[.string a0, .string t314] rfl (by (try simp only [List.map_toArray, List.map_cons, List.map_nil]); first | done | rfl | (simp only [List.length_drop, List.length_take]; rfl)) ?_; (with_reducible refine (scopes_Union.calls kj3 a0 t314 t321 t322 _ A49.out).mono ?_); rintro e w93 ⟨rfl, hb⟩; refine ⟨_, rfl, ?_⟩; have n0_ := ak (Kd.R_below (by (with_reducible repeat (first | apply Kd.R_alloc | apply Kd.R_drewN | apply Kd.R_drew)); exact HO295.out) hb); have n1_ := ak (below_step (by repeat (first | (with_reducible first | exact HB.out | apply wA | apply wN | apply wD) | exact HB.out)) hb); clear HO295; clear HB; have HO295 := n0_; have HB := n1_; clear n0_ n1_; (try clear hb); (try clear hb2); (try clear hk); (try clear hi)) | ((with_reducible refine gate_callee (f := 26) rfl ?_); refine goesL_ (some 193) rfl rfl Tryd.func26 (by kernel_rfl) rfl #[.string a0, .string a1] rfl (by (try simp only [List.map_toArray, List.map_cons, List.map_nil]); first | done | rfl | (simp only [List.length_drop, List.length_take]; rfl)) ?_; (with_reducible refine (scopes_Union.calls kj3 a0 a1 t323 t324 _ A50.out).mono ?_); rintro e w94 ⟨rfl, hb⟩; refine ⟨_, rfl, ?_⟩; have n0_ := ak (Kd.R_below (by (with_reducible repeat (first | apply Kd.R_alloc | apply Kd.R_drewN | apply Kd.R_drew)); exact HO295.out) hb); have n1_ := ak (below_step (by repeat (first | (with_reducible first | exact HB.out | apply wA | apply wN | apply wD) | exact HB.out)) hb); clear HO295; clear HB; have HO295 := n0_; have HB := n1_; clear n0_ n1_; (try clear hb); (try clear hb2); (try clear hk); (try clear hi)) | ((with_reducible refine gate_callee (f := 10) rfl ?_); refine goesL_ (some 226) rfl rfl Tryd.func10 (by kernel_rfl) rfl #[] rfl (by (try simp only [List.map_toArray, List.map_cons, List.map_nil]); first | done | rfl | (simp only [List.length_drop, List.length_take]; rfl)) ?_; (with_reducible refine (mummerlaw09_awake.calls kj3  t328 _ hrt A78.out ⟨Sc.Tab.stay HT.out (by repeat (first | (with_reducible first | exact HB.out | apply wA | apply wN | apply wD) | exact HB.out | (refine below_set ?_ (by assumption))))⟩).mono ?_); rintro e w95 ⟨rfl, hb⟩; refine ⟨_, rfl, ?_⟩; have n0_ := ak (Kd.R_below (by (with_reducible repeat (first | apply Kd.R_alloc | apply Kd.R_drewN | apply Kd.R_drew)); exact HO295.out) hb); have n1_ := ak (below_step (by repeat (first | (with_reducible first | exact HB.out | apply wA | apply wN | apply wD) | exact HB.out)) hb); clear HO295; clear HB; have HO295 := n0_; have HB := n1_; clear n0_ n1_; (try clear hb); (try clear hb2); (try clear hk); (try clear hi)))
                                            go_ret
                                            exact ⟨by first | rfl | (simp [errW_none, errW_some] <;> rfl) | (simp [*, errW_none, errW_some] <;> rfl), by repeat (first | (with_reducible first | exact HB.out | apply wA | apply wN | apply wD) | exact HB.out)⟩
                                        · rw [if_neg c53] at H
                                          have c53b0 : (t317.toList == t319.toList) = false := beq_eq_false_iff_ne.mpr c53
                                          have c53b1 : (t317.toList != t319.toList) = true := bne_iff_ne.mpr c53
                                          exact absurd ((Option.some.inj H).trans hrt.out) (by decide)
                                      · rw [if_neg c52] at H
                                        have c52b0 : (t320 == 0) = false := beq_eq_false_iff_ne.mpr c52
                                        have c52b1 : (t320 != 0) = true := bne_iff_ne.mpr c52
                                        exact absurd ((Option.some.inj H).trans hrt.out) (by decide)
                                    · rw [if_neg c51] at H
                                      have c51b0 : (t318 == 0) = false := beq_eq_false_iff_ne.mpr c51
                                      have c51b1 : (t318 != 0) = true := bne_iff_ne.mpr c51
                                      exact absurd ((Option.some.inj H).trans hrt.out) (by decide)
                                  · rw [if_neg c46] at H
                                    have c46b0 : (t315 == 0) = false := beq_eq_false_iff_ne.mpr c46
                                    have c46b1 : (t315 != 0) = true := bne_iff_ne.mpr c46
                                    replace H := Option.bind_eq_some_iff.mp H
                                    obtain ⟨t316, A960, H⟩ := H
                                    replace H : (some t316) = some r := H
                                    have A96 := ak A960
                                    clear A960
                                    obtain rfl := Option.some.inj H
                                    go_wp2_with (first | ((with_reducible refine gate_callee (f := 13) rfl ?_); refine goesL_ (some 56) rfl rfl Tryd.func13 (by kernel_rfl) rfl #[.string a0] rfl (by (try simp only [List.map_toArray, List.map_cons, List.map_nil]); first | done | rfl | (simp only [List.length_drop, List.length_take]; rfl)) ?_; (with_reducible refine (scopes_Ids.calls a0 t292 t293 _ A22.out).mono ?_); rintro e w97 ⟨v294, rfl, ho0, hb⟩; refine ⟨_, rfl, ?_⟩; have n0_ := ak (Kd.R_lower ho0 (below_size (by repeat (first | (with_reducible first | exact HB.out | apply wA | apply wN | apply wD) | exact HB.out)))); have n1_ := ak (below_step (by repeat (first | (with_reducible first | exact HB.out | apply wA | apply wN | apply wD) | exact HB.out)) hb); clear HB; have HO295 := n0_; have HB := n1_; clear n0_ n1_; (try clear hb); (try clear hb2); (try clear hk); (try clear hi); (try clear ho0); obtain ⟨Ao98, co98, eo98⟩ := Kd.R_slice HO295.out; subst eo98) | ((with_reducible refine gate_callee (f := 11) rfl ?_); refine goesL_ (some 61) rfl rfl Tryd.func11 (by kernel_rfl) rfl #[.slice Ao98 t292.length co98] rfl (by (try simp only [List.map_toArray, List.map_cons, List.map_nil]); first | done | rfl | (simp only [List.length_drop, List.length_take]; rfl)) ?_; (with_reducible refine (scopes_Of.calls _ _ t292 t296 t297 _ ?side1 ?side2 A23.out).mono ?_); (case side1 => repeat (first | exact (Kd.R_reads' HO295.out).2.2 | (with_reducible refine Kd.C_alloc ?_ _) | (with_reducible refine Kd.C_drewN ?_ _) | (with_reducible refine Kd.C_drew ?_))); (case side2 => exact (Kd.R_reads' HO295.out).2.1); rintro e w99 ⟨rfl, hb⟩; refine ⟨_, rfl, ?_⟩; have n0_ := ak (Kd.R_below (by (with_reducible repeat (first | apply Kd.R_alloc | apply Kd.R_drewN | apply Kd.R_drew)); exact HO295.out) hb); have n1_ := ak (below_step (by repeat (first | (with_reducible first | exact HB.out | apply wA | apply wN | apply wD) | exact HB.out)) hb); clear HO295; clear HB; have HO295 := n0_; have HB := n1_; clear n0_ n1_; (try clear hb); (try clear hb2); (try clear hk); (try clear hi)) | ((with_reducible refine gate_callee (f := 26) rfl ?_); refine goesL_ (some 67) rfl rfl Tryd.func26 (by kernel_rfl) rfl #[.string a0, .string a1] rfl (by (try simp only [List.map_toArray, List.map_cons, List.map_nil]); first | done | rfl | (simp only [List.length_drop, List.length_take]; rfl)) ?_; (with_reducible refine (scopes_Union.calls kj3 a0 a1 t298 t299 _ A24.out).mono ?_); rintro e w100 ⟨rfl, hb⟩; refine ⟨_, rfl, ?_⟩; have n0_ := ak (Kd.R_below (by (with_reducible repeat (first | apply Kd.R_alloc | apply Kd.R_drewN | apply Kd.R_drew)); exact HO295.out) hb); have n1_ := ak (below_step (by repeat (first | (with_reducible first | exact HB.out | apply wA | apply wN | apply wD) | exact HB.out)) hb); clear HO295; clear HB; have HO295 := n0_; have HB := n1_; clear n0_ n1_; (try clear hb); (try clear hb2); (try clear hk); (try clear hi)) | ((with_reducible refine gate_callee (f := 26) rfl ?_); refine goesL_ (some 73) rfl rfl Tryd.func26 (by kernel_rfl) rfl #[.string a1, .string a0] rfl (by (try simp only [List.map_toArray, List.map_cons, List.map_nil]); first | done | rfl | (simp only [List.length_drop, List.length_take]; rfl)) ?_; (with_reducible refine (scopes_Union.calls kj3 a1 a0 t300 t301 _ A25.out).mono ?_); rintro e w101 ⟨rfl, hb⟩; refine ⟨_, rfl, ?_⟩; have n0_ := ak (Kd.R_below (by (with_reducible repeat (first | apply Kd.R_alloc | apply Kd.R_drewN | apply Kd.R_drew)); exact HO295.out) hb); have n1_ := ak (below_step (by repeat (first | (with_reducible first | exact HB.out | apply wA | apply wN | apply wD) | exact HB.out)) hb); clear HO295; clear HB; have HO295 := n0_; have HB := n1_; clear n0_ n1_; (try clear hb); (try clear hb2); (try clear hk); (try clear hi)) | ((with_reducible refine gate_callee (f := 27) rfl ?_); refine goesL_ (some 100) rfl rfl Tryd.func27 (by kernel_rfl) rfl #[.string a0, .string a1] rfl (by (try simp only [List.map_toArray, List.map_cons, List.map_nil]); first | done | rfl | (simp only [List.length_drop, List.length_take]; rfl)) ?_; (with_reducible refine (scopes_Meet.calls kj3 a0 a1 t302 t303 _ A31.out).mono ?_); rintro e w102 ⟨rfl, hb⟩; refine ⟨_, rfl, ?_⟩; have n0_ := ak (Kd.R_below (by (with_reducible repeat (first | apply Kd.R_alloc | apply Kd.R_drewN | apply Kd.R_drew)); exact HO295.out) hb); have n1_ := ak (below_step (by repeat (first | (with_reducible first | exact HB.out | apply wA | apply wN | apply wD) | exact HB.out)) hb); clear HO295; clear HB; have HO295 := n0_; have HB := n1_; clear n0_ n1_; (try clear hb); (try clear hb2); (try clear hk); (try clear hi)) | ((with_reducible refine gate_callee (f := 27) rfl ?_); refine goesL_ (some 106) rfl rfl Tryd.func27 (by kernel_rfl) rfl #[.string a1, .string a0] rfl (by (try simp only [List.map_toArray, List.map_cons, List.map_nil]); first | done | rfl | (simp only [List.length_drop, List.length_take]; rfl)) ?_; (with_reducible refine (scopes_Meet.calls kj3 a1 a0 t304 t305 _ A32.out).mono ?_); rintro e w103 ⟨rfl, hb⟩; refine ⟨_, rfl, ?_⟩; have n0_ := ak (Kd.R_below (by (with_reducible repeat (first | apply Kd.R_alloc | apply Kd.R_drewN | apply Kd.R_drew)); exact HO295.out) hb); have n1_ := ak (below_step (by repeat (first | (with_reducible first | exact HB.out | apply wA | apply wN | apply wD) | exact HB.out)) hb); clear HO295; clear HB; have HO295 := n0_; have HB := n1_; clear n0_ n1_; (try clear hb); (try clear hb2); (try clear hk); (try clear hi)) | ((with_reducible refine gate_callee (f := 27) rfl ?_); refine goesL_ (some 112) rfl rfl Tryd.func27 (by kernel_rfl) rfl #[.string a0, .string a2] rfl (by (try simp only [List.map_toArray, List.map_cons, List.map_nil]); first | done | rfl | (simp only [List.length_drop, List.length_take]; rfl)) ?_; (with_reducible refine (scopes_Meet.calls kj3 a0 a2 t306 t307 _ A33.out).mono ?_); rintro e w104 ⟨rfl, hb⟩; refine ⟨_, rfl, ?_⟩; have n0_ := ak (Kd.R_below (by (with_reducible repeat (first | apply Kd.R_alloc | apply Kd.R_drewN | apply Kd.R_drew)); exact HO295.out) hb); have n1_ := ak (below_step (by repeat (first | (with_reducible first | exact HB.out | apply wA | apply wN | apply wD) | exact HB.out)) hb); clear HO295; clear HB; have HO295 := n0_; have HB := n1_; clear n0_ n1_; (try clear hb); (try clear hb2); (try clear hk); (try clear hi)) | ((with_reducible refine gate_callee (f := 27) rfl ?_); refine goesL_ (some 118) rfl rfl Tryd.func27 (by kernel_rfl) rfl #[.string a1, .string a2] rfl (by (try simp only [List.map_toArray, List.map_cons, List.map_nil]); first | done | rfl | (simp only [List.length_drop, List.length_take]; rfl)) ?_; (with_reducible refine (scopes_Meet.calls kj3 a1 a2 t308 t309 _ A34.out).mono ?_); rintro e w105 ⟨rfl, hb⟩; refine ⟨_, rfl, ?_⟩; have n0_ := ak (Kd.R_below (by (with_reducible repeat (first | apply Kd.R_alloc | apply Kd.R_drewN | apply Kd.R_drew)); exact HO295.out) hb); have n1_ := ak (below_step (by repeat (first | (with_reducible first | exact HB.out | apply wA | apply wN | apply wD) | exact HB.out)) hb); clear HO295; clear HB; have HO295 := n0_; have HB := n1_; clear n0_ n1_; (try clear hb); (try clear hb2); (try clear hk); (try clear hi)) | ((with_reducible refine gate_callee (f := 27) rfl ?_); refine goesL_ (some 143) rfl rfl Tryd.func27 (by kernel_rfl) rfl #[.string t302, .string a2] rfl (by (try simp only [List.map_toArray, List.map_cons, List.map_nil]); first | done | rfl | (simp only [List.length_drop, List.length_take]; rfl)) ?_; (with_reducible refine (scopes_Meet.calls kj3 t302 a2 t310 t311 _ A40.out).mono ?_); rintro e w106 ⟨rfl, hb⟩; refine ⟨_, rfl, ?_⟩; have n0_ := ak (Kd.R_below (by (with_reducible repeat (first | apply Kd.R_alloc | apply Kd.R_drewN | apply Kd.R_drew)); exact HO295.out) hb); have n1_ := ak (below_step (by repeat (first | (with_reducible first | exact HB.out | apply wA | apply wN | apply wD) | exact HB.out)) hb); clear HO295; clear HB; have HO295 := n0_; have HB := n1_; clear n0_ n1_; (try clear hb); (try clear hb2); (try clear hk); (try clear hi)) | ((with_reducible refine gate_callee (f := 27) rfl ?_); refine goesL_ (some 149) rfl rfl Tryd.func27 (by kernel_rfl) rfl #[.string a0, .string t308] rfl (by (try simp only [List.map_toArray, List.map_cons, List.map_nil]); first | done | rfl | (simp only [List.length_drop, List.length_take]; rfl)) ?_; (with_reducible refine (scopes_Meet.calls kj3 a0 t308 t312 t313 _ A41.out).mono ?_); rintro e w107 ⟨rfl, hb⟩; refine ⟨_, rfl, ?_⟩; have n0_ := ak (Kd.R_below (by (with_reducible repeat (first | apply Kd.R_alloc | apply Kd.R_drewN | apply Kd.R_drew)); exact HO295.out) hb); have n1_ := ak (below_step (by repeat (first | (with_reducible first | exact HB.out | apply wA | apply wN | apply wD) | exact HB.out)) hb); clear HO295; clear HB; have HO295 := n0_; have HB := n1_; clear n0_ n1_; (try clear hb); (try clear hb2); (try clear hk); (try clear hi)) | ((with_reducible refine gate_callee (f := 26) rfl ?_); refine goesL_ (some 166) rfl rfl Tryd.func26 (by kernel_rfl) rfl #[.string a1, .string a2] rfl (by (try simp only [List.map_toArray, List.map_cons, List.map_nil]); first | done | rfl | (simp only [List.length_drop, List.length_take]; rfl)) ?_; (with_reducible refine (scopes_Union.calls kj3 a1 a2 t314 t315 _ A45.out).mono ?_); rintro e w108 ⟨rfl, hb⟩; refine ⟨_, rfl, ?_⟩; have n0_ := ak (Kd.R_below (by (with_reducible repeat (first | apply Kd.R_alloc | apply Kd.R_drewN | apply Kd.R_drew)); exact HO295.out) hb); have n1_ := ak (below_step (by repeat (first | (with_reducible first | exact HB.out | apply wA | apply wN | apply wD) | exact HB.out)) hb); clear HO295; clear HB; have HO295 := n0_; have HB := n1_; clear n0_ n1_; (try clear hb); (try clear hb2); (try clear hk); (try clear hi)) | ((with_reducible refine gate_callee (f := 10) rfl ?_); refine goesL_ (some 171) rfl rfl Tryd.func10 (by kernel_rfl) rfl #[] rfl (by (try simp only [List.map_toArray, List.map_cons, List.map_nil]); first | done | rfl | (simp only [List.length_drop, List.length_take]; rfl)) ?_; (with_reducible refine (mummerlaw09_awake.calls kj3  t316 _ hrt A96.out ⟨Sc.Tab.stay HT.out (by repeat (first | (with_reducible first | exact HB.out | apply wA | apply wN | apply wD) | exact HB.out | (refine below_set ?_ (by assumption))))⟩).mono ?_); rintro e w109 ⟨rfl, hb⟩; refine ⟨_, rfl, ?_⟩; have n0_ := ak (Kd.R_below (by (with_reducible repeat (first | apply Kd.R_alloc | apply Kd.R_drewN | apply Kd.R_drew)); exact HO295.out) hb); have n1_ := ak (below_step (by repeat (first | (with_reducible first | exact HB.out | apply wA | apply wN | apply wD) | exact HB.out)) hb); clear HO295; clear HB; have HO295 := n0_; have HB := n1_; clear n0_ n1_; (try clear hb); (try clear hb2); (try clear hk); (try clear hi)))
                                    go_ret
                                    exact ⟨by first | rfl | (simp [errW_none, errW_some] <;> rfl) | (simp [*, errW_none, errW_some] <;> rfl), by repeat (first | (with_reducible first | exact HB.out | apply wA | apply wN | apply wD) | exact HB.out)⟩
                                · rw [if_neg c44] at H
                                  have c44b0 : (t310.toList == t312.toList) = false := beq_eq_false_iff_ne.mpr c44
                                  have c44b1 : (t310.toList != t312.toList) = true := bne_iff_ne.mpr c44
                                  exact absurd ((Option.some.inj H).trans hrt.out) (by decide)
                              · rw [if_neg c43] at H
                                have c43b0 : (t313 == 0) = false := beq_eq_false_iff_ne.mpr c43
                                have c43b1 : (t313 != 0) = true := bne_iff_ne.mpr c43
                                exact absurd ((Option.some.inj H).trans hrt.out) (by decide)
                            · rw [if_neg c42] at H
                              have c42b0 : (t311 == 0) = false := beq_eq_false_iff_ne.mpr c42
                              have c42b1 : (t311 != 0) = true := bne_iff_ne.mpr c42
                              exact absurd ((Option.some.inj H).trans hrt.out) (by decide)
                          · rw [if_neg c39] at H
                            have c39b0 : (t302.toList == t304.toList) = false := beq_eq_false_iff_ne.mpr c39
                            have c39b1 : (t302.toList != t304.toList) = true := bne_iff_ne.mpr c39
                            exact absurd ((Option.some.inj H).trans hrt.out) (by decide)
                        · rw [if_neg c38] at H
                          have c38b0 : (t309 == 0) = false := beq_eq_false_iff_ne.mpr c38
                          have c38b1 : (t309 != 0) = true := bne_iff_ne.mpr c38
                          exact absurd ((Option.some.inj H).trans hrt.out) (by decide)
                      · rw [if_neg c37] at H
                        have c37b0 : (t307 == 0) = false := beq_eq_false_iff_ne.mpr c37
                        have c37b1 : (t307 != 0) = true := bne_iff_ne.mpr c37
                        exact absurd ((Option.some.inj H).trans hrt.out) (by decide)
                    · rw [if_neg c36] at H
                      have c36b0 : (t305 == 0) = false := beq_eq_false_iff_ne.mpr c36
                      have c36b1 : (t305 != 0) = true := bne_iff_ne.mpr c36
                      exact absurd ((Option.some.inj H).trans hrt.out) (by decide)
                  · rw [if_neg c35] at H
                    have c35b0 : (t303 == 0) = false := beq_eq_false_iff_ne.mpr c35
                    have c35b1 : (t303 != 0) = true := bne_iff_ne.mpr c35
                    exact absurd ((Option.some.inj H).trans hrt.out) (by decide)
                · rw [if_neg c30] at H
                  have c30b0 : (t299 == t301) = false := beq_eq_false_iff_ne.mpr c30
                  have c30b1 : (t299 != t301) = true := bne_iff_ne.mpr c30
                  exact absurd ((Option.some.inj H).trans hrt.out) (by decide)
              · rw [if_neg c29] at H
                have c29b0 : (t298.toList == t300.toList) = false := beq_eq_false_iff_ne.mpr c29
                have c29b1 : (t298.toList != t300.toList) = true := bne_iff_ne.mpr c29
                exact absurd ((Option.some.inj H).trans hrt.out) (by decide)
            · rw [if_neg c28] at H
              have c28b0 : (t296.toList == a0.toList) = false := beq_eq_false_iff_ne.mpr c28
              have c28b1 : (t296.toList != a0.toList) = true := bne_iff_ne.mpr c28
              exact absurd ((Option.some.inj H).trans hrt.out) (by decide)
          · rw [if_neg c27] at H
            have c27b0 : (t297 == 0) = false := beq_eq_false_iff_ne.mpr c27
            have c27b1 : (t297 != 0) = true := bne_iff_ne.mpr c27
            exact absurd ((Option.some.inj H).trans hrt.out) (by decide)
        · rw [if_neg c26] at H
          have c26b0 : (t293 == 0) = false := beq_eq_false_iff_ne.mpr c26
          have c26b1 : (t293 != 0) = true := bne_iff_ne.mpr c26
          exact absurd ((Option.some.inj H).trans hrt.out) (by decide)

end Go.Proofs.YtkalbdeopogbpaaDoor.P
