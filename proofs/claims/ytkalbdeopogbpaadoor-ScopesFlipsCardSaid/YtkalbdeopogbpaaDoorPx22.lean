-- Written by wip/tools/myprint.py of this session over the kit's print; Lean checks it.
import Derived.Test.YtkalbdeopogbpaaDoorPx0
import Derived.Test.YtkalbdeopogbpaaDoorPx1
import Derived.Test.YtkalbdeopogbpaaDoorPx5
namespace Go.Proofs.YtkalbdeopogbpaaDoor.P
open Go.RowKit Go.Proofs.YtkalbdeopogbpaaDoorW.PrintWords Go.Proofs.YtkalbdeopogbpaaDoorW.PrintLast Go.Proofs.YtkalbdeopogbpaaDoorW.PrintMore
attribute [local go_sem] max2_int min2_int max_two min_two max_three min_three max_four min_four   -- for this text's walks alone
set_option linter.unusedVariables false
set_option linter.unusedSimpArgs false

/-! ### mummerlaw09_ScopesFlips: function 5 -/
mutual
def mummerlaw09_ScopesFlips.j0 : Nat → ByteArray → Int → Int → ByteArray → Int → Bool → Option (Bool)
  | 0, _, _, _, _, _, _ => none
  | k + 1, x0, x1, x2, x7, x10, x113 => if x113 = true then (some false) else (if x1 = x2 then (mummerlaw09_ScopesFlips.j1 k x0 x2 x7 false) else (mummerlaw09_ScopesFlips.j1 k x0 x2 x7 (x10 == 0)))
def mummerlaw09_ScopesFlips.j1 : Nat → ByteArray → Int → ByteArray → Bool → Option (Bool)
  | 0, _, _, _, _ => none
  | k + 1, x0, x2, x7, x120 => if x120 = true then ((scopes_Has.f x0 x2).bind fun bt271 => ((scopes_Has.f x7 x2).bind fun bt273 => (if bt271.2 = 0 then (if bt273.2 = 0 then (if (bt271.1 != bt273.1) = true then (some false) else ((mummerlaw09_awake.f k).bind fun t275 => (some t275))) else (some false)) else (some false)))) else ((mummerlaw09_awake.f k).bind fun t276 => (some t276))
end
def mummerlaw09_ScopesFlips.f (k : Nat) (a0 : ByteArray) (a1 : Int) (a2 : Int) : Option (Bool) := (mummerlaw09_far.f a0).bind fun t253 => (if t253 = true then ((mummerlaw09_awake.f k).bind fun t254 => (some t254)) else ((scopes_Flip.f a0 a1).bind fun bt255 => (if bt255.2 = 0 then ((scopes_Flip.f bt255.1 a1).bind fun bt258 => ((scopes_Has.f a0 a1).bind fun bt260 => ((scopes_Has.f bt255.1 a1).bind fun bt262 => (if bt258.1.toList = a0.toList then (if bt258.2 = 0 then (if bt260.2 = 0 then (if bt262.2 = 0 then (if (bt260.1 == bt262.1) = true then (some false) else ((scopes_Check.f bt255.1).bind fun t264 => (if t264 = 0 then ((scopes_Flip.f a0 a2).bind fun bt265 => ((scopes_Flip.f bt255.1 a2).bind fun bt267 => ((scopes_Flip.f bt265.1 a1).bind fun bt269 => (if bt265.2 = 0 then (if bt267.2 = 0 then (if bt269.2 = 0 then (mummerlaw09_ScopesFlips.j0 k a0 a1 a2 bt255.1 bt267.2 (bt267.1.toList != bt269.1.toList)) else (mummerlaw09_ScopesFlips.j0 k a0 a1 a2 bt255.1 bt267.2 false)) else (mummerlaw09_ScopesFlips.j0 k a0 a1 a2 bt255.1 bt267.2 false)) else (mummerlaw09_ScopesFlips.j0 k a0 a1 a2 bt255.1 bt267.2 false))))) else (some false)))) else (some false)) else (some false)) else (some false)) else (some false))))) else (if bt255.1.toList = ([] : List UInt8) then ((mummerlaw09_awake.f k).bind fun t257 => (some t257)) else (some false)))))
theorem mummerlaw09_ScopesFlips.mono_l : ∀ k, (∀ y0 y1 y2 y3 y4 y5, LeO (mummerlaw09_ScopesFlips.j0 k y0 y1 y2 y3 y4 y5) (mummerlaw09_ScopesFlips.j0 (k + 1) y0 y1 y2 y3 y4 y5)) ∧ (∀ y0 y1 y2 y3, LeO (mummerlaw09_ScopesFlips.j1 k y0 y1 y2 y3) (mummerlaw09_ScopesFlips.j1 (k + 1) y0 y1 y2 y3))
  | 0 => ⟨fun _ _ _ _ _ _ r h => by simp [mummerlaw09_ScopesFlips.j0] at h, fun _ _ _ _ r h => by simp [mummerlaw09_ScopesFlips.j1] at h⟩
  | k + 1 => by
    obtain ⟨ih0, ih1⟩ := mummerlaw09_ScopesFlips.mono_l k
    refine ⟨?_, ?_⟩
    · intro y0 y1 y2 y3 y4 y5
      unfold mummerlaw09_ScopesFlips.j0
      repeat' first
      | (with_reducible exact ih0 _ _ _ _ _ _)
      | (with_reducible exact ih1 _ _ _ _)
      | (with_reducible exact mummerlaw09_awake.mono _)
      | (with_reducible exact LeO.refl _)
      | (with_reducible exact LeO.none _)
      | (with_reducible refine LeO.ite ?_ ?_)
      | (with_reducible refine LeO.bind ?_ (fun _ => ?_))
      | exact ih0 _ _ _ _ _ _
      | exact ih1 _ _ _ _
      | exact mummerlaw09_awake.mono _
      | exact LeO.none _
      | refine LeO.ite ?_ ?_
      | refine LeO.bind ?_ (fun _ => ?_)
    · intro y0 y1 y2 y3
      unfold mummerlaw09_ScopesFlips.j1
      repeat' first
      | (with_reducible exact ih0 _ _ _ _ _ _)
      | (with_reducible exact ih1 _ _ _ _)
      | (with_reducible exact mummerlaw09_awake.mono _)
      | (with_reducible exact LeO.refl _)
      | (with_reducible exact LeO.none _)
      | (with_reducible refine LeO.ite ?_ ?_)
      | (with_reducible refine LeO.bind ?_ (fun _ => ?_))
      | exact ih0 _ _ _ _ _ _
      | exact ih1 _ _ _ _
      | exact mummerlaw09_awake.mono _
      | exact LeO.none _
      | refine LeO.ite ?_ ?_
      | refine LeO.bind ?_ (fun _ => ?_)
theorem mummerlaw09_ScopesFlips.mono : ∀ a0 a1 a2 k, LeO (mummerlaw09_ScopesFlips.f k a0 a1 a2) (mummerlaw09_ScopesFlips.f (k + 1) a0 a1 a2) := by
  intro a0 a1 a2 k
  obtain ⟨ih0, ih1⟩ := mummerlaw09_ScopesFlips.mono_l k
  unfold mummerlaw09_ScopesFlips.f
  repeat' first
      | (with_reducible exact ih0 _ _ _ _ _ _)
      | (with_reducible exact ih1 _ _ _ _)
      | (with_reducible exact mummerlaw09_awake.mono _)
      | (with_reducible exact LeO.refl _)
      | (with_reducible exact LeO.none _)
      | (with_reducible refine LeO.ite ?_ ?_)
      | (with_reducible refine LeO.bind ?_ (fun _ => ?_))
      | exact ih0 _ _ _ _ _ _
      | exact ih1 _ _ _ _
      | exact mummerlaw09_awake.mono _
      | exact LeO.none _
      | refine LeO.ite ?_ ?_
      | refine LeO.bind ?_ (fun _ => ?_)
set_option maxHeartbeats 8000000 in
set_option maxRecDepth 100000 in
theorem mummerlaw09_ScopesFlips.calls (k : Nat) (a0 : ByteArray) (a1 : Int) (a2 : Int) (r : Bool) (w : World) (hrt : Aside0 (r = true)) (h : mummerlaw09_ScopesFlips.f k a0 a1 a2 = some r) (HT : Aside0 (Sc.Tab w)) :
    Calls Tryd.prog 5 #[.string a0, .int .i64 a1, .int .i64 a2] w fun e w' => e = .returned (.bool r) ∧ Below w.heap.size w w' := by
  have HB := ak (Below.refl w.heap.size w)
  have H : ((mummerlaw09_far.f a0).bind fun t253 => (if t253 = true then ((mummerlaw09_awake.f k).bind fun t254 => (some t254)) else ((scopes_Flip.f a0 a1).bind fun bt255 => (if bt255.2 = 0 then ((scopes_Flip.f bt255.1 a1).bind fun bt258 => ((scopes_Has.f a0 a1).bind fun bt260 => ((scopes_Has.f bt255.1 a1).bind fun bt262 => (if bt258.1.toList = a0.toList then (if bt258.2 = 0 then (if bt260.2 = 0 then (if bt262.2 = 0 then (if (bt260.1 == bt262.1) = true then (some false) else ((scopes_Check.f bt255.1).bind fun t264 => (if t264 = 0 then ((scopes_Flip.f a0 a2).bind fun bt265 => ((scopes_Flip.f bt255.1 a2).bind fun bt267 => ((scopes_Flip.f bt265.1 a1).bind fun bt269 => (if bt265.2 = 0 then (if bt267.2 = 0 then (if bt269.2 = 0 then (mummerlaw09_ScopesFlips.j0 k a0 a1 a2 bt255.1 bt267.2 (bt267.1.toList != bt269.1.toList)) else (mummerlaw09_ScopesFlips.j0 k a0 a1 a2 bt255.1 bt267.2 false)) else (mummerlaw09_ScopesFlips.j0 k a0 a1 a2 bt255.1 bt267.2 false)) else (mummerlaw09_ScopesFlips.j0 k a0 a1 a2 bt255.1 bt267.2 false))))) else (some false)))) else (some false)) else (some false)) else (some false)) else (some false))))) else (if bt255.1.toList = ([] : List UInt8) then ((mummerlaw09_awake.f k).bind fun t257 => (some t257)) else (some false)))))) = some r := h
  clear h
  replace H := Option.bind_eq_some_iff.mp H
  obtain ⟨t253, A40, H⟩ := H
  replace H : (if t253 = true then ((mummerlaw09_awake.f k).bind fun t254 => (some t254)) else ((scopes_Flip.f a0 a1).bind fun bt255 => (if bt255.2 = 0 then ((scopes_Flip.f bt255.1 a1).bind fun bt258 => ((scopes_Has.f a0 a1).bind fun bt260 => ((scopes_Has.f bt255.1 a1).bind fun bt262 => (if bt258.1.toList = a0.toList then (if bt258.2 = 0 then (if bt260.2 = 0 then (if bt262.2 = 0 then (if (bt260.1 == bt262.1) = true then (some false) else ((scopes_Check.f bt255.1).bind fun t264 => (if t264 = 0 then ((scopes_Flip.f a0 a2).bind fun bt265 => ((scopes_Flip.f bt255.1 a2).bind fun bt267 => ((scopes_Flip.f bt265.1 a1).bind fun bt269 => (if bt265.2 = 0 then (if bt267.2 = 0 then (if bt269.2 = 0 then (mummerlaw09_ScopesFlips.j0 k a0 a1 a2 bt255.1 bt267.2 (bt267.1.toList != bt269.1.toList)) else (mummerlaw09_ScopesFlips.j0 k a0 a1 a2 bt255.1 bt267.2 false)) else (mummerlaw09_ScopesFlips.j0 k a0 a1 a2 bt255.1 bt267.2 false)) else (mummerlaw09_ScopesFlips.j0 k a0 a1 a2 bt255.1 bt267.2 false))))) else (some false)))) else (some false)) else (some false)) else (some false)) else (some false))))) else (if bt255.1.toList = ([] : List UInt8) then ((mummerlaw09_awake.f k).bind fun t257 => (some t257)) else (some false))))) = some r := H
  have A4 := ak A40
  clear A40
  by_cases c5 : t253 = true
  · subst c5
    have H1 : ((mummerlaw09_awake.f k).bind fun t254 => (some t254)) = some r := by rw [if_pos rfl] at H; exact H
    clear H
    have H := H1
    clear H1
    replace H := Option.bind_eq_some_iff.mp H
    obtain ⟨t254, A60, H⟩ := H
    replace H : (some t254) = some r := H
    have A6 := ak A60
    clear A60
    obtain rfl := Option.some.inj H
    go_enter Tryd.func5, Tryd.ntmps5
    go_wp2_with (first | ((with_reducible refine gate_callee (f := 9) rfl ?_); refine goesL_ (some 23) rfl rfl Tryd.func9 (by kernel_rfl) rfl #[.string a0] rfl (by (try simp only [List.map_toArray, List.map_cons, List.map_nil]); first | done | rfl | (simp only [List.length_drop, List.length_take]; rfl)) ?_; (with_reducible refine (mummerlaw09_far.calls a0 true _ A4.out).mono ?_); rintro e w' ⟨rfl, ⟨nd, rfl⟩⟩; refine ⟨_, rfl, ?_⟩) | ((with_reducible refine gate_callee (f := 10) rfl ?_); refine goesL_ (some 24) rfl rfl Tryd.func10 (by kernel_rfl) rfl #[] rfl (by (try simp only [List.map_toArray, List.map_cons, List.map_nil]); first | done | rfl | (simp only [List.length_drop, List.length_take]; rfl)) ?_; (with_reducible refine (mummerlaw09_awake.calls k  t254 _ hrt A6.out ⟨Sc.Tab.stay HT.out (by repeat (first | (with_reducible first | exact HB.out | apply wA | apply wN | apply wD) | exact HB.out | (refine below_set ?_ (by assumption))))⟩).mono ?_); rintro e w7 ⟨rfl, hb⟩; refine ⟨_, rfl, ?_⟩; have n0_ := ak (below_step (by repeat (first | (with_reducible first | exact HB.out | apply wA | apply wN | apply wD) | exact HB.out)) hb); clear HB; have HB := n0_; clear n0_; (try clear hb); (try clear hb2); (try clear hk); (try clear hi)))
    go_ret
    exact ⟨by first | rfl | (simp [errW_none, errW_some] <;> rfl) | (simp [*, errW_none, errW_some] <;> rfl), by repeat (first | (with_reducible first | exact HB.out | apply wA | apply wN | apply wD) | exact HB.out)⟩
  · replace c5 := Bool.eq_false_iff.mpr c5
    subst c5
    have H1 : ((scopes_Flip.f a0 a1).bind fun bt255 => (if bt255.2 = 0 then ((scopes_Flip.f bt255.1 a1).bind fun bt258 => ((scopes_Has.f a0 a1).bind fun bt260 => ((scopes_Has.f bt255.1 a1).bind fun bt262 => (if bt258.1.toList = a0.toList then (if bt258.2 = 0 then (if bt260.2 = 0 then (if bt262.2 = 0 then (if (bt260.1 == bt262.1) = true then (some false) else ((scopes_Check.f bt255.1).bind fun t264 => (if t264 = 0 then ((scopes_Flip.f a0 a2).bind fun bt265 => ((scopes_Flip.f bt255.1 a2).bind fun bt267 => ((scopes_Flip.f bt265.1 a1).bind fun bt269 => (if bt265.2 = 0 then (if bt267.2 = 0 then (if bt269.2 = 0 then (mummerlaw09_ScopesFlips.j0 k a0 a1 a2 bt255.1 bt267.2 (bt267.1.toList != bt269.1.toList)) else (mummerlaw09_ScopesFlips.j0 k a0 a1 a2 bt255.1 bt267.2 false)) else (mummerlaw09_ScopesFlips.j0 k a0 a1 a2 bt255.1 bt267.2 false)) else (mummerlaw09_ScopesFlips.j0 k a0 a1 a2 bt255.1 bt267.2 false))))) else (some false)))) else (some false)) else (some false)) else (some false)) else (some false))))) else (if bt255.1.toList = ([] : List UInt8) then ((mummerlaw09_awake.f k).bind fun t257 => (some t257)) else (some false)))) = some r := by rw [if_neg (show ¬ (false = true) by decide)] at H; exact H
    clear H
    have H := H1
    clear H1
    replace H := Option.bind_eq_some_iff.mp H
    obtain ⟨⟨t255, t256⟩, A80, H⟩ := H
    replace H : (if t256 = 0 then ((scopes_Flip.f t255 a1).bind fun bt258 => ((scopes_Has.f a0 a1).bind fun bt260 => ((scopes_Has.f t255 a1).bind fun bt262 => (if bt258.1.toList = a0.toList then (if bt258.2 = 0 then (if bt260.2 = 0 then (if bt262.2 = 0 then (if (bt260.1 == bt262.1) = true then (some false) else ((scopes_Check.f t255).bind fun t264 => (if t264 = 0 then ((scopes_Flip.f a0 a2).bind fun bt265 => ((scopes_Flip.f t255 a2).bind fun bt267 => ((scopes_Flip.f bt265.1 a1).bind fun bt269 => (if bt265.2 = 0 then (if bt267.2 = 0 then (if bt269.2 = 0 then (mummerlaw09_ScopesFlips.j0 k a0 a1 a2 t255 bt267.2 (bt267.1.toList != bt269.1.toList)) else (mummerlaw09_ScopesFlips.j0 k a0 a1 a2 t255 bt267.2 false)) else (mummerlaw09_ScopesFlips.j0 k a0 a1 a2 t255 bt267.2 false)) else (mummerlaw09_ScopesFlips.j0 k a0 a1 a2 t255 bt267.2 false))))) else (some false)))) else (some false)) else (some false)) else (some false)) else (some false))))) else (if t255.toList = ([] : List UInt8) then ((mummerlaw09_awake.f k).bind fun t257 => (some t257)) else (some false))) = some r := H
    have A8 := ak A80
    clear A80
    by_cases c9 : t256 = 0
    · rw [if_pos c9] at H
      have c9b0 : (t256 == 0) = true := beq_iff_eq.mpr c9
      have c9b1 : (t256 != 0) = false := bne_eq_false_iff_eq.mpr c9
      clear c9
      replace H := Option.bind_eq_some_iff.mp H
      obtain ⟨⟨t258, t259⟩, A100, H⟩ := H
      replace H : ((scopes_Has.f a0 a1).bind fun bt260 => ((scopes_Has.f t255 a1).bind fun bt262 => (if t258.toList = a0.toList then (if t259 = 0 then (if bt260.2 = 0 then (if bt262.2 = 0 then (if (bt260.1 == bt262.1) = true then (some false) else ((scopes_Check.f t255).bind fun t264 => (if t264 = 0 then ((scopes_Flip.f a0 a2).bind fun bt265 => ((scopes_Flip.f t255 a2).bind fun bt267 => ((scopes_Flip.f bt265.1 a1).bind fun bt269 => (if bt265.2 = 0 then (if bt267.2 = 0 then (if bt269.2 = 0 then (mummerlaw09_ScopesFlips.j0 k a0 a1 a2 t255 bt267.2 (bt267.1.toList != bt269.1.toList)) else (mummerlaw09_ScopesFlips.j0 k a0 a1 a2 t255 bt267.2 false)) else (mummerlaw09_ScopesFlips.j0 k a0 a1 a2 t255 bt267.2 false)) else (mummerlaw09_ScopesFlips.j0 k a0 a1 a2 t255 bt267.2 false))))) else (some false)))) else (some false)) else (some false)) else (some false)) else (some false)))) = some r := H
      have A10 := ak A100
      clear A100
      replace H := Option.bind_eq_some_iff.mp H
      obtain ⟨⟨t260, t261⟩, A110, H⟩ := H
      replace H : ((scopes_Has.f t255 a1).bind fun bt262 => (if t258.toList = a0.toList then (if t259 = 0 then (if t261 = 0 then (if bt262.2 = 0 then (if (t260 == bt262.1) = true then (some false) else ((scopes_Check.f t255).bind fun t264 => (if t264 = 0 then ((scopes_Flip.f a0 a2).bind fun bt265 => ((scopes_Flip.f t255 a2).bind fun bt267 => ((scopes_Flip.f bt265.1 a1).bind fun bt269 => (if bt265.2 = 0 then (if bt267.2 = 0 then (if bt269.2 = 0 then (mummerlaw09_ScopesFlips.j0 k a0 a1 a2 t255 bt267.2 (bt267.1.toList != bt269.1.toList)) else (mummerlaw09_ScopesFlips.j0 k a0 a1 a2 t255 bt267.2 false)) else (mummerlaw09_ScopesFlips.j0 k a0 a1 a2 t255 bt267.2 false)) else (mummerlaw09_ScopesFlips.j0 k a0 a1 a2 t255 bt267.2 false))))) else (some false)))) else (some false)) else (some false)) else (some false)) else (some false))) = some r := H
      have A11 := ak A110
      clear A110
      replace H := Option.bind_eq_some_iff.mp H
      obtain ⟨⟨t262, t263⟩, A120, H⟩ := H
      replace H : (if t258.toList = a0.toList then (if t259 = 0 then (if t261 = 0 then (if t263 = 0 then (if (t260 == t262) = true then (some false) else ((scopes_Check.f t255).bind fun t264 => (if t264 = 0 then ((scopes_Flip.f a0 a2).bind fun bt265 => ((scopes_Flip.f t255 a2).bind fun bt267 => ((scopes_Flip.f bt265.1 a1).bind fun bt269 => (if bt265.2 = 0 then (if bt267.2 = 0 then (if bt269.2 = 0 then (mummerlaw09_ScopesFlips.j0 k a0 a1 a2 t255 bt267.2 (bt267.1.toList != bt269.1.toList)) else (mummerlaw09_ScopesFlips.j0 k a0 a1 a2 t255 bt267.2 false)) else (mummerlaw09_ScopesFlips.j0 k a0 a1 a2 t255 bt267.2 false)) else (mummerlaw09_ScopesFlips.j0 k a0 a1 a2 t255 bt267.2 false))))) else (some false)))) else (some false)) else (some false)) else (some false)) else (some false)) = some r := H
      have A12 := ak A120
      clear A120
      by_cases c13 : t258.toList = a0.toList
      · rw [if_pos c13] at H
        have c13b0 : (t258.toList == a0.toList) = true := beq_iff_eq.mpr c13
        have c13b1 : (t258.toList != a0.toList) = false := bne_eq_false_iff_eq.mpr c13
        clear c13
        by_cases c14 : t259 = 0
        · rw [if_pos c14] at H
          have c14b0 : (t259 == 0) = true := beq_iff_eq.mpr c14
          have c14b1 : (t259 != 0) = false := bne_eq_false_iff_eq.mpr c14
          clear c14
          by_cases c15 : t261 = 0
          · rw [if_pos c15] at H
            have c15b0 : (t261 == 0) = true := beq_iff_eq.mpr c15
            have c15b1 : (t261 != 0) = false := bne_eq_false_iff_eq.mpr c15
            clear c15
            by_cases c16 : t263 = 0
            · rw [if_pos c16] at H
              have c16b0 : (t263 == 0) = true := beq_iff_eq.mpr c16
              have c16b1 : (t263 != 0) = false := bne_eq_false_iff_eq.mpr c16
              clear c16
              by_cases c17 : (t260 == t262) = true
              · rw [if_pos c17] at H
                have c17b0 : (t260 == t262) = true := c17
                (try (have c17b1 : decide (t260 = t262) = true := by simpa using c17))
                (try (have c17b2 : (t260 == t262) = true := by simpa using c17))
                clear c17
                exact absurd ((Option.some.inj H).trans hrt.out) (by decide)
              · rw [if_neg c17] at H
                have c17b0 : (t260 == t262) = false := by simpa using c17
                (try (have c17b1 : decide (t260 = t262) = false := by simpa using c17))
                (try (have c17b2 : (t260 == t262) = false := by simpa using c17))
                (try (have c17b3 : ¬ (t260 = t262) := by simpa using c17))
                clear c17
                replace H := Option.bind_eq_some_iff.mp H
                obtain ⟨t264, A180, H⟩ := H
                replace H : (if t264 = 0 then ((scopes_Flip.f a0 a2).bind fun bt265 => ((scopes_Flip.f t255 a2).bind fun bt267 => ((scopes_Flip.f bt265.1 a1).bind fun bt269 => (if bt265.2 = 0 then (if bt267.2 = 0 then (if bt269.2 = 0 then (mummerlaw09_ScopesFlips.j0 k a0 a1 a2 t255 bt267.2 (bt267.1.toList != bt269.1.toList)) else (mummerlaw09_ScopesFlips.j0 k a0 a1 a2 t255 bt267.2 false)) else (mummerlaw09_ScopesFlips.j0 k a0 a1 a2 t255 bt267.2 false)) else (mummerlaw09_ScopesFlips.j0 k a0 a1 a2 t255 bt267.2 false))))) else (some false)) = some r := H
                have A18 := ak A180
                clear A180
                by_cases c19 : t264 = 0
                · rw [if_pos c19] at H
                  have c19b0 : (t264 == 0) = true := beq_iff_eq.mpr c19
                  have c19b1 : (t264 != 0) = false := bne_eq_false_iff_eq.mpr c19
                  clear c19
                  replace H := Option.bind_eq_some_iff.mp H
                  obtain ⟨⟨t265, t266⟩, A200, H⟩ := H
                  replace H : ((scopes_Flip.f t255 a2).bind fun bt267 => ((scopes_Flip.f t265 a1).bind fun bt269 => (if t266 = 0 then (if bt267.2 = 0 then (if bt269.2 = 0 then (mummerlaw09_ScopesFlips.j0 k a0 a1 a2 t255 bt267.2 (bt267.1.toList != bt269.1.toList)) else (mummerlaw09_ScopesFlips.j0 k a0 a1 a2 t255 bt267.2 false)) else (mummerlaw09_ScopesFlips.j0 k a0 a1 a2 t255 bt267.2 false)) else (mummerlaw09_ScopesFlips.j0 k a0 a1 a2 t255 bt267.2 false)))) = some r := H
                  have A20 := ak A200
                  clear A200
                  replace H := Option.bind_eq_some_iff.mp H
                  obtain ⟨⟨t267, t268⟩, A210, H⟩ := H
                  replace H : ((scopes_Flip.f t265 a1).bind fun bt269 => (if t266 = 0 then (if t268 = 0 then (if bt269.2 = 0 then (mummerlaw09_ScopesFlips.j0 k a0 a1 a2 t255 t268 (t267.toList != bt269.1.toList)) else (mummerlaw09_ScopesFlips.j0 k a0 a1 a2 t255 t268 false)) else (mummerlaw09_ScopesFlips.j0 k a0 a1 a2 t255 t268 false)) else (mummerlaw09_ScopesFlips.j0 k a0 a1 a2 t255 t268 false))) = some r := H
                  have A21 := ak A210
                  clear A210
                  replace H := Option.bind_eq_some_iff.mp H
                  obtain ⟨⟨t269, t270⟩, A220, H⟩ := H
                  replace H : (if t266 = 0 then (if t268 = 0 then (if t270 = 0 then (mummerlaw09_ScopesFlips.j0 k a0 a1 a2 t255 t268 (t267.toList != t269.toList)) else (mummerlaw09_ScopesFlips.j0 k a0 a1 a2 t255 t268 false)) else (mummerlaw09_ScopesFlips.j0 k a0 a1 a2 t255 t268 false)) else (mummerlaw09_ScopesFlips.j0 k a0 a1 a2 t255 t268 false)) = some r := H
                  have A22 := ak A220
                  clear A220
                  have HC23 := ak H
                  clear H
                  go_enter Tryd.func5, Tryd.ntmps5
                  go_upto_region 14 with (first | ((with_reducible refine gate_callee (f := 9) rfl ?_); refine goesL_ (some 23) rfl rfl Tryd.func9 (by kernel_rfl) rfl #[.string a0] rfl (by (try simp only [List.map_toArray, List.map_cons, List.map_nil]); first | done | rfl | (simp only [List.length_drop, List.length_take]; rfl)) ?_; (with_reducible refine (mummerlaw09_far.calls a0 false _ A4.out).mono ?_); rintro e w' ⟨rfl, ⟨nd, rfl⟩⟩; refine ⟨_, rfl, ?_⟩) | ((with_reducible refine gate_callee (f := 24) rfl ?_); refine goesL_ (some 28) rfl rfl Tryd.func24 (by kernel_rfl) rfl #[.string a0, .int .i64 a1] rfl (by (try simp only [List.map_toArray, List.map_cons, List.map_nil]); first | done | rfl | (simp only [List.length_drop, List.length_take]; rfl)) ?_; (with_reducible refine (scopes_Flip.calls a0 a1 t255 t256 _ A8.out).mono ?_); rintro e w24 ⟨rfl, hb⟩; refine ⟨_, rfl, ?_⟩; have n0_ := ak (below_step (by repeat (first | (with_reducible first | exact HB.out | apply wA | apply wN | apply wD) | exact HB.out)) hb); clear HB; have HB := n0_; clear n0_; (try clear hb); (try clear hb2); (try clear hk); (try clear hi)) | ((with_reducible refine gate_callee (f := 24) rfl ?_); refine goesL_ (some 41) rfl rfl Tryd.func24 (by kernel_rfl) rfl #[.string t255, .int .i64 a1] rfl (by (try simp only [List.map_toArray, List.map_cons, List.map_nil]); first | done | rfl | (simp only [List.length_drop, List.length_take]; rfl)) ?_; (with_reducible refine (scopes_Flip.calls t255 a1 t258 t259 _ A10.out).mono ?_); rintro e w25 ⟨rfl, hb⟩; refine ⟨_, rfl, ?_⟩; have n0_ := ak (below_step (by repeat (first | (with_reducible first | exact HB.out | apply wA | apply wN | apply wD) | exact HB.out)) hb); clear HB; have HB := n0_; clear n0_; (try clear hb); (try clear hb2); (try clear hk); (try clear hi)) | ((with_reducible refine gate_callee (f := 18) rfl ?_); refine goesL_ (some 47) rfl rfl Tryd.func18 (by kernel_rfl) rfl #[.string a0, .int .i64 a1] rfl (by (try simp only [List.map_toArray, List.map_cons, List.map_nil]); first | done | rfl | (simp only [List.length_drop, List.length_take]; rfl)) ?_; (with_reducible refine (scopes_Has.calls a0 a1 t260 t261 _ A11.out).mono ?_); rintro e w26 ⟨rfl, hb⟩; refine ⟨_, rfl, ?_⟩; have n0_ := ak (below_step (by repeat (first | (with_reducible first | exact HB.out | apply wA | apply wN | apply wD) | exact HB.out)) hb); clear HB; have HB := n0_; clear n0_; (try clear hb); (try clear hb2); (try clear hk); (try clear hi)) | ((with_reducible refine gate_callee (f := 18) rfl ?_); refine goesL_ (some 53) rfl rfl Tryd.func18 (by kernel_rfl) rfl #[.string t255, .int .i64 a1] rfl (by (try simp only [List.map_toArray, List.map_cons, List.map_nil]); first | done | rfl | (simp only [List.length_drop, List.length_take]; rfl)) ?_; (with_reducible refine (scopes_Has.calls t255 a1 t262 t263 _ A12.out).mono ?_); rintro e w27 ⟨rfl, hb⟩; refine ⟨_, rfl, ?_⟩; have n0_ := ak (below_step (by repeat (first | (with_reducible first | exact HB.out | apply wA | apply wN | apply wD) | exact HB.out)) hb); clear HB; have HB := n0_; clear n0_; (try clear hb); (try clear hb2); (try clear hk); (try clear hi)) | (go_at_call 15; (with_reducible refine (scopes_Check.calls t255 t264 _ A18.out).mono ?_); rintro e w28 ⟨rfl, hb⟩; have n0_ := ak (below_step (by repeat (first | (with_reducible first | exact HB.out | apply wA | apply wN | apply wD) | exact HB.out)) hb); clear HB; have HB := n0_; clear n0_; (try clear hb); (try clear hb2); (try clear hk); (try clear hi)) | ((with_reducible refine gate_callee (f := 24) rfl ?_); refine goesL_ (some 84) rfl rfl Tryd.func24 (by kernel_rfl) rfl #[.string a0, .int .i64 a2] rfl (by (try simp only [List.map_toArray, List.map_cons, List.map_nil]); first | done | rfl | (simp only [List.length_drop, List.length_take]; rfl)) ?_; (with_reducible refine (scopes_Flip.calls a0 a2 t265 t266 _ A20.out).mono ?_); rintro e w29 ⟨rfl, hb⟩; refine ⟨_, rfl, ?_⟩; have n0_ := ak (below_step (by repeat (first | (with_reducible first | exact HB.out | apply wA | apply wN | apply wD) | exact HB.out)) hb); clear HB; have HB := n0_; clear n0_; (try clear hb); (try clear hb2); (try clear hk); (try clear hi)) | ((with_reducible refine gate_callee (f := 24) rfl ?_); refine goesL_ (some 90) rfl rfl Tryd.func24 (by kernel_rfl) rfl #[.string t255, .int .i64 a2] rfl (by (try simp only [List.map_toArray, List.map_cons, List.map_nil]); first | done | rfl | (simp only [List.length_drop, List.length_take]; rfl)) ?_; (with_reducible refine (scopes_Flip.calls t255 a2 t267 t268 _ A21.out).mono ?_); rintro e w30 ⟨rfl, hb⟩; refine ⟨_, rfl, ?_⟩; have n0_ := ak (below_step (by repeat (first | (with_reducible first | exact HB.out | apply wA | apply wN | apply wD) | exact HB.out)) hb); clear HB; have HB := n0_; clear n0_; (try clear hb); (try clear hb2); (try clear hk); (try clear hi)) | ((with_reducible refine gate_callee (f := 24) rfl ?_); refine goesL_ (some 96) rfl rfl Tryd.func24 (by kernel_rfl) rfl #[.string t265, .int .i64 a1] rfl (by (try simp only [List.map_toArray, List.map_cons, List.map_nil]); first | done | rfl | (simp only [List.length_drop, List.length_take]; rfl)) ?_; (with_reducible refine (scopes_Flip.calls t265 a1 t269 t270 _ A22.out).mono ?_); rintro e w31 ⟨rfl, hb⟩; refine ⟨_, rfl, ?_⟩; have n0_ := ak (below_step (by repeat (first | (with_reducible first | exact HB.out | apply wA | apply wN | apply wD) | exact HB.out)) hb); clear HB; have HB := n0_; clear n0_; (try clear hb); (try clear hb2); (try clear hk); (try clear hi)))
                  (try simp only [Act.put, List.setIfInBounds_toArray, List.set_cons_zero, List.set_cons_succ])
                  go_cut [113] (fun v113 wc => ∃ (kq : Nat) (x113_22 : Bool), v113 = .bool x113_22 ∧ Aside0 (mummerlaw09_ScopesFlips.j0 kq a0 a1 a2 t255 t268 x113_22 = some r) ∧ Aside0 (kq ≤ k) ∧ Aside0 (Below w.heap.size w wc))
                  case first =>
                    have H := HC23.out
                    clear HC23
                    by_cases c32 : t266 = 0
                    · rw [if_pos c32] at H
                      have c32b0 : (t266 == 0) = true := beq_iff_eq.mpr c32
                      have c32b1 : (t266 != 0) = false := bne_eq_false_iff_eq.mpr c32
                      clear c32
                      (first | rw [c32b0] | (simp only [i64_w, i32_w]; rw [c32b0]) | skip)
                      by_cases c33 : t268 = 0
                      · rw [if_pos c33] at H
                        have c33b0 : (t268 == 0) = true := beq_iff_eq.mpr c33
                        have c33b1 : (t268 != 0) = false := bne_eq_false_iff_eq.mpr c33
                        clear c33
                        by_cases c34 : t270 = 0
                        · rw [if_pos c34] at H
                          have c34b0 : (t270 == 0) = true := beq_iff_eq.mpr c34
                          have c34b1 : (t270 != 0) = false := bne_eq_false_iff_eq.mpr c34
                          clear c34
                          have H' := ak H
                          clear H
                          go_wp2
                          go_meet
                          case rel => exact ⟨_, ((t267.toList != t269.toList)), (by first | rfl | (simp; done) | (simp [*]; done)), H', ⟨by first | omega | exact Nat.le_refl _⟩, ⟨by repeat (first | (with_reducible first | exact HB.out | apply wA | apply wN | apply wD) | exact HB.out)⟩⟩
                        · rw [if_neg c34] at H
                          have c34b0 : (t270 == 0) = false := beq_eq_false_iff_ne.mpr c34
                          have c34b1 : (t270 != 0) = true := bne_iff_ne.mpr c34
                          have H' := ak H
                          clear H
                          go_wp2
                          go_meet
                          case rel => exact ⟨_, (false), (by first | rfl | (simp; done) | (simp [*]; done)), H', ⟨by first | omega | exact Nat.le_refl _⟩, ⟨by repeat (first | (with_reducible first | exact HB.out | apply wA | apply wN | apply wD) | exact HB.out)⟩⟩
                      · rw [if_neg c33] at H
                        have c33b0 : (t268 == 0) = false := beq_eq_false_iff_ne.mpr c33
                        have c33b1 : (t268 != 0) = true := bne_iff_ne.mpr c33
                        have H' := ak H
                        clear H
                        go_wp2
                        go_meet
                        case rel => exact ⟨_, (false), (by first | rfl | (simp; done) | (simp [*]; done)), H', ⟨by first | omega | exact Nat.le_refl _⟩, ⟨by repeat (first | (with_reducible first | exact HB.out | apply wA | apply wN | apply wD) | exact HB.out)⟩⟩
                    · rw [if_neg c32] at H
                      have c32b0 : (t266 == 0) = false := beq_eq_false_iff_ne.mpr c32
                      have c32b1 : (t266 != 0) = true := bne_iff_ne.mpr c32
                      (first | rw [c32b0] | (simp only [i64_w, i32_w]; rw [c32b0]) | skip)
                      have H' := ak H
                      clear H
                      go_wp2
                      go_meet
                      case rel => exact ⟨_, (false), (by first | rfl | (simp; done) | (simp [*]; done)), H', ⟨by first | omega | exact Nat.le_refl _⟩, ⟨by repeat (first | (with_reducible first | exact HB.out | apply wA | apply wN | apply wD) | exact HB.out)⟩⟩
                  case rest =>
                    clear HC23
                    try clear c1
                    try clear c2
                    try clear p2
                    try clear c3
                    try clear c5
                    try clear c9
                    try clear c9b0
                    try clear c9b1
                    try clear c10
                    try clear c13
                    try clear c13b0
                    try clear c13b1
                    try clear c14
                    try clear c14b0
                    try clear c14b1
                    try clear c15
                    try clear c15b0
                    try clear c15b1
                    try clear c16
                    try clear c16b0
                    try clear c16b1
                    try clear c17
                    try clear c17b0
                    try clear c17b1
                    try clear c17b2
                    try clear c18
                    try clear c19
                    try clear c19b0
                    try clear c19b1
                    try clear c24
                    try clear c32
                    try clear c32b0
                    try clear c32b1
                    try clear c33
                    try clear c33b0
                    try clear c33b1
                    try clear c34
                    try clear c34b0
                    try clear c34b1
                    obtain ⟨kq, x113_22, rfl, HA, HJ22, HB⟩ := hcut
                    cases kq with
                    | zero => exact absurd HA.out (by simp [mummerlaw09_ScopesFlips.j0])
                    | succ kj22 =>
                      have H := HA.out
                      clear HA
                      simp only [mummerlaw09_ScopesFlips.j0] at H
                      by_cases c35 : x113_22 = true
                      · subst c35
                        have H1 : (some false) = some r := by rw [if_pos rfl] at H; exact H
                        clear H
                        have H := H1
                        clear H1
                        exact absurd ((Option.some.inj H).trans hrt.out) (by decide)
                      · replace c35 := Bool.eq_false_iff.mpr c35
                        subst c35
                        have H1 : (if a1 = a2 then (mummerlaw09_ScopesFlips.j1 kj22 a0 a2 t255 false) else (mummerlaw09_ScopesFlips.j1 kj22 a0 a2 t255 (t268 == 0))) = some r := by rw [if_neg (show ¬ (false = true) by decide)] at H; exact H
                        clear H
                        have H := H1
                        clear H1
                        have HC36 := ak H
                        clear H
                        go_upto_region 16 with (fail)
                        go_cut [120] (fun v120 wc => ∃ (kq : Nat) (x120_35 : Bool), v120 = .bool x120_35 ∧ Aside0 (mummerlaw09_ScopesFlips.j1 kq a0 a2 t255 x120_35 = some r) ∧ Aside0 (kq ≤ kj22) ∧ Aside0 (Below w.heap.size w wc))
                        case first =>
                          have H := HC36.out
                          clear HC36
                          by_cases c37 : a1 = a2
                          · rw [if_pos c37] at H
                            have c37b0 : (a1 == a2) = true := beq_iff_eq.mpr c37
                            have c37b1 : (a1 != a2) = false := bne_eq_false_iff_eq.mpr c37
                            clear c37
                            (first | rw [c37b0] | (simp only [i64_w, i32_w]; rw [c37b0]) | skip)
                            have H' := ak H
                            clear H
                            go_wp2
                            go_meet
                            case rel => exact ⟨_, (false), (by first | rfl | (simp; done) | (simp [*]; done)), H', ⟨by have := HJ22.out; first | omega | exact Nat.le_refl _⟩, ⟨by repeat (first | (with_reducible first | exact HB.out | apply wA | apply wN | apply wD) | exact HB.out)⟩⟩
                          · rw [if_neg c37] at H
                            have c37b0 : (a1 == a2) = false := beq_eq_false_iff_ne.mpr c37
                            have c37b1 : (a1 != a2) = true := bne_iff_ne.mpr c37
                            (first | rw [c37b0] | (simp only [i64_w, i32_w]; rw [c37b0]) | skip)
                            have H' := ak H
                            clear H
                            go_wp2
                            go_meet
                            case rel => exact ⟨_, ((t268 == 0)), (by first | rfl | (simp; done) | (simp [*]; done) | (cases t268 <;> simp)), H', ⟨by have := HJ22.out; first | omega | exact Nat.le_refl _⟩, ⟨by repeat (first | (with_reducible first | exact HB.out | apply wA | apply wN | apply wD) | exact HB.out)⟩⟩
                        case rest =>
                          clear HC36
                          try clear c1
                          try clear c2
                          try clear p2
                          try clear c3
                          try clear c5
                          try clear c9
                          try clear c9b0
                          try clear c9b1
                          try clear c10
                          try clear c13
                          try clear c13b0
                          try clear c13b1
                          try clear c14
                          try clear c14b0
                          try clear c14b1
                          try clear c15
                          try clear c15b0
                          try clear c15b1
                          try clear c16
                          try clear c16b0
                          try clear c16b1
                          try clear c17
                          try clear c17b0
                          try clear c17b1
                          try clear c17b2
                          try clear c18
                          try clear c19
                          try clear c19b0
                          try clear c19b1
                          try clear c24
                          try clear c32
                          try clear c32b0
                          try clear c32b1
                          try clear c33
                          try clear c33b0
                          try clear c33b1
                          try clear c34
                          try clear c34b0
                          try clear c34b1
                          try clear c35
                          try clear c37
                          try clear c37b0
                          try clear c37b1
                          try clear p2
                          obtain ⟨kq, x120_35, rfl, HA, HJ35, HB⟩ := hcut
                          cases kq with
                          | zero => exact absurd HA.out (by simp [mummerlaw09_ScopesFlips.j1])
                          | succ kj35 =>
                            have H := HA.out
                            clear HA
                            simp only [mummerlaw09_ScopesFlips.j1] at H
                            by_cases c38 : x120_35 = true
                            · subst c38
                              have H1 : ((scopes_Has.f a0 a2).bind fun bt271 => ((scopes_Has.f t255 a2).bind fun bt273 => (if bt271.2 = 0 then (if bt273.2 = 0 then (if (bt271.1 != bt273.1) = true then (some false) else ((mummerlaw09_awake.f kj35).bind fun t275 => (some t275))) else (some false)) else (some false)))) = some r := by rw [if_pos rfl] at H; exact H
                              clear H
                              have H := H1
                              clear H1
                              replace H := Option.bind_eq_some_iff.mp H
                              obtain ⟨⟨t271, t272⟩, A390, H⟩ := H
                              replace H : ((scopes_Has.f t255 a2).bind fun bt273 => (if t272 = 0 then (if bt273.2 = 0 then (if (t271 != bt273.1) = true then (some false) else ((mummerlaw09_awake.f kj35).bind fun t275 => (some t275))) else (some false)) else (some false))) = some r := H
                              have A39 := ak A390
                              clear A390
                              replace H := Option.bind_eq_some_iff.mp H
                              obtain ⟨⟨t273, t274⟩, A400, H⟩ := H
                              replace H : (if t272 = 0 then (if t274 = 0 then (if (t271 != t273) = true then (some false) else ((mummerlaw09_awake.f kj35).bind fun t275 => (some t275))) else (some false)) else (some false)) = some r := H
                              have A40 := ak A400
                              clear A400
                              by_cases c41 : t272 = 0
                              · rw [if_pos c41] at H
                                have c41b0 : (t272 == 0) = true := beq_iff_eq.mpr c41
                                have c41b1 : (t272 != 0) = false := bne_eq_false_iff_eq.mpr c41
                                clear c41
                                by_cases c42 : t274 = 0
                                · rw [if_pos c42] at H
                                  have c42b0 : (t274 == 0) = true := beq_iff_eq.mpr c42
                                  have c42b1 : (t274 != 0) = false := bne_eq_false_iff_eq.mpr c42
                                  clear c42
                                  by_cases c43 : (t271 != t273) = true
                                  · rw [if_pos c43] at H
                                    have c43b0 : (t271 != t273) = true := c43
                                    (try (have c43b1 : decide (t271 = t273) = false := by simpa using c43))
                                    (try (have c43b2 : (t271 == t273) = false := by simpa using c43))
                                    (try (have c43b3 : ¬ (t271 = t273) := by simpa using c43))
                                    clear c43
                                    exact absurd ((Option.some.inj H).trans hrt.out) (by decide)
                                  · rw [if_neg c43] at H
                                    have c43b0 : (t271 != t273) = false := by simpa using c43
                                    (try (have c43b1 : decide (t271 = t273) = true := by simpa using c43))
                                    (try (have c43b2 : (t271 == t273) = true := by simpa using c43))
                                    clear c43
                                    replace H := Option.bind_eq_some_iff.mp H
                                    obtain ⟨t275, A440, H⟩ := H
                                    replace H : (some t275) = some r := H
                                    have A44 := ak A440
                                    clear A440
                                    obtain rfl := Option.some.inj H
                                    go_wp2_with (first | ((with_reducible refine gate_callee (f := 18) rfl ?_); refine goesL_ (some 124) rfl rfl Tryd.func18 (by kernel_rfl) rfl #[.string a0, .int .i64 a2] rfl (by (try simp only [List.map_toArray, List.map_cons, List.map_nil]); first | done | rfl | (simp only [List.length_drop, List.length_take]; rfl)) ?_; (with_reducible refine (scopes_Has.calls a0 a2 t271 t272 _ A39.out).mono ?_); rintro e w45 ⟨rfl, hb⟩; refine ⟨_, rfl, ?_⟩; have n0_ := ak (below_step (by repeat (first | (with_reducible first | exact HB.out | apply wA | apply wN | apply wD) | exact HB.out)) hb); clear HB; have HB := n0_; clear n0_; (try clear hb); (try clear hb2); (try clear hk); (try clear hi)) | ((with_reducible refine gate_callee (f := 18) rfl ?_); refine goesL_ (some 130) rfl rfl Tryd.func18 (by kernel_rfl) rfl #[.string t255, .int .i64 a2] rfl (by (try simp only [List.map_toArray, List.map_cons, List.map_nil]); first | done | rfl | (simp only [List.length_drop, List.length_take]; rfl)) ?_; (with_reducible refine (scopes_Has.calls t255 a2 t273 t274 _ A40.out).mono ?_); rintro e w46 ⟨rfl, hb⟩; refine ⟨_, rfl, ?_⟩; have n0_ := ak (below_step (by repeat (first | (with_reducible first | exact HB.out | apply wA | apply wN | apply wD) | exact HB.out)) hb); clear HB; have HB := n0_; clear n0_; (try clear hb); (try clear hb2); (try clear hk); (try clear hi)) | ((with_reducible refine gate_callee (f := 10) rfl ?_); refine goesL_ (some 144) rfl rfl Tryd.func10 (by kernel_rfl) rfl #[] rfl (by (try simp only [List.map_toArray, List.map_cons, List.map_nil]); first | done | rfl | (simp only [List.length_drop, List.length_take]; rfl)) ?_; (with_reducible refine (mummerlaw09_awake.calls kj35  t275 _ hrt A44.out ⟨Sc.Tab.stay HT.out (by repeat (first | (with_reducible first | exact HB.out | apply wA | apply wN | apply wD) | exact HB.out | (refine below_set ?_ (by assumption))))⟩).mono ?_); rintro e w47 ⟨rfl, hb⟩; refine ⟨_, rfl, ?_⟩; have n0_ := ak (below_step (by repeat (first | (with_reducible first | exact HB.out | apply wA | apply wN | apply wD) | exact HB.out)) hb); clear HB; have HB := n0_; clear n0_; (try clear hb); (try clear hb2); (try clear hk); (try clear hi)))
                                    go_ret
                                    exact ⟨by first | rfl | (simp [errW_none, errW_some] <;> rfl) | (simp [*, errW_none, errW_some] <;> rfl), by repeat (first | (with_reducible first | exact HB.out | apply wA | apply wN | apply wD) | exact HB.out)⟩
                                · rw [if_neg c42] at H
                                  have c42b0 : (t274 == 0) = false := beq_eq_false_iff_ne.mpr c42
                                  have c42b1 : (t274 != 0) = true := bne_iff_ne.mpr c42
                                  exact absurd ((Option.some.inj H).trans hrt.out) (by decide)
                              · rw [if_neg c41] at H
                                have c41b0 : (t272 == 0) = false := beq_eq_false_iff_ne.mpr c41
                                have c41b1 : (t272 != 0) = true := bne_iff_ne.mpr c41
                                exact absurd ((Option.some.inj H).trans hrt.out) (by decide)
                            · replace c38 := Bool.eq_false_iff.mpr c38
                              subst c38
                              have H1 : ((mummerlaw09_awake.f kj35).bind fun t276 => (some t276)) = some r := by rw [if_neg (show ¬ (false = true) by decide)] at H; exact H
                              clear H
                              have H := H1
                              clear H1
                              replace H := Option.bind_eq_some_iff.mp H
                              obtain ⟨t276, A480, H⟩ := H
                              replace H : (some t276) = some r := H
                              have A48 := ak A480
                              clear A480
                              obtain rfl := Option.some.inj H
                              go_wp2_with (first | ((with_reducible refine gate_callee (f := 10) rfl ?_); refine goesL_ (some 144) rfl rfl Tryd.func10 (by kernel_rfl) rfl #[] rfl (by (try simp only [List.map_toArray, List.map_cons, List.map_nil]); first | done | rfl | (simp only [List.length_drop, List.length_take]; rfl)) ?_; (with_reducible refine (mummerlaw09_awake.calls kj35  t276 _ hrt A48.out ⟨Sc.Tab.stay HT.out (by repeat (first | (with_reducible first | exact HB.out | apply wA | apply wN | apply wD) | exact HB.out | (refine below_set ?_ (by assumption))))⟩).mono ?_); rintro e w49 ⟨rfl, hb⟩; refine ⟨_, rfl, ?_⟩; have n0_ := ak (below_step (by repeat (first | (with_reducible first | exact HB.out | apply wA | apply wN | apply wD) | exact HB.out)) hb); clear HB; have HB := n0_; clear n0_; (try clear hb); (try clear hb2); (try clear hk); (try clear hi)))
                              go_ret
                              exact ⟨by first | rfl | (simp [errW_none, errW_some] <;> rfl) | (simp [*, errW_none, errW_some] <;> rfl), by repeat (first | (with_reducible first | exact HB.out | apply wA | apply wN | apply wD) | exact HB.out)⟩
                · rw [if_neg c19] at H
                  have c19b0 : (t264 == 0) = false := beq_eq_false_iff_ne.mpr c19
                  have c19b1 : (t264 != 0) = true := bne_iff_ne.mpr c19
                  exact absurd ((Option.some.inj H).trans hrt.out) (by decide)
            · rw [if_neg c16] at H
              have c16b0 : (t263 == 0) = false := beq_eq_false_iff_ne.mpr c16
              have c16b1 : (t263 != 0) = true := bne_iff_ne.mpr c16
              exact absurd ((Option.some.inj H).trans hrt.out) (by decide)
          · rw [if_neg c15] at H
            have c15b0 : (t261 == 0) = false := beq_eq_false_iff_ne.mpr c15
            have c15b1 : (t261 != 0) = true := bne_iff_ne.mpr c15
            exact absurd ((Option.some.inj H).trans hrt.out) (by decide)
        · rw [if_neg c14] at H
          have c14b0 : (t259 == 0) = false := beq_eq_false_iff_ne.mpr c14
          have c14b1 : (t259 != 0) = true := bne_iff_ne.mpr c14
          exact absurd ((Option.some.inj H).trans hrt.out) (by decide)
      · rw [if_neg c13] at H
        have c13b0 : (t258.toList == a0.toList) = false := beq_eq_false_iff_ne.mpr c13
        have c13b1 : (t258.toList != a0.toList) = true := bne_iff_ne.mpr c13
        exact absurd ((Option.some.inj H).trans hrt.out) (by decide)
    · rw [if_neg c9] at H
      have c9b0 : (t256 == 0) = false := beq_eq_false_iff_ne.mpr c9
      have c9b1 : (t256 != 0) = true := bne_iff_ne.mpr c9
      by_cases c50 : t255.toList = ([] : List UInt8)
      · rw [if_pos c50] at H
        have c50b0 : (t255.toList == ([] : List UInt8)) = true := beq_iff_eq.mpr c50
        have c50b1 : (t255.toList != ([] : List UInt8)) = false := bne_eq_false_iff_eq.mpr c50
        clear c50
        replace H := Option.bind_eq_some_iff.mp H
        obtain ⟨t257, A510, H⟩ := H
        replace H : (some t257) = some r := H
        have A51 := ak A510
        clear A510
        obtain rfl := Option.some.inj H
        go_enter Tryd.func5, Tryd.ntmps5
        go_wp2_with (first | ((with_reducible refine gate_callee (f := 9) rfl ?_); refine goesL_ (some 23) rfl rfl Tryd.func9 (by kernel_rfl) rfl #[.string a0] rfl (by (try simp only [List.map_toArray, List.map_cons, List.map_nil]); first | done | rfl | (simp only [List.length_drop, List.length_take]; rfl)) ?_; (with_reducible refine (mummerlaw09_far.calls a0 false _ A4.out).mono ?_); rintro e w' ⟨rfl, ⟨nd, rfl⟩⟩; refine ⟨_, rfl, ?_⟩) | ((with_reducible refine gate_callee (f := 24) rfl ?_); refine goesL_ (some 28) rfl rfl Tryd.func24 (by kernel_rfl) rfl #[.string a0, .int .i64 a1] rfl (by (try simp only [List.map_toArray, List.map_cons, List.map_nil]); first | done | rfl | (simp only [List.length_drop, List.length_take]; rfl)) ?_; (with_reducible refine (scopes_Flip.calls a0 a1 t255 t256 _ A8.out).mono ?_); rintro e w52 ⟨rfl, hb⟩; refine ⟨_, rfl, ?_⟩; have n0_ := ak (below_step (by repeat (first | (with_reducible first | exact HB.out | apply wA | apply wN | apply wD) | exact HB.out)) hb); clear HB; have HB := n0_; clear n0_; (try clear hb); (try clear hb2); (try clear hk); (try clear hi)) | (go_at_call 10; (with_reducible refine (mummerlaw09_awake.calls k  t257 _ hrt A51.out ⟨Sc.Tab.stay HT.out (by repeat (first | (with_reducible first | exact HB.out | apply wA | apply wN | apply wD) | exact HB.out | (refine below_set ?_ (by assumption))))⟩).mono ?_); rintro e w53 ⟨rfl, hb⟩; have n0_ := ak (below_step (by repeat (first | (with_reducible first | exact HB.out | apply wA | apply wN | apply wD) | exact HB.out)) hb); clear HB; have HB := n0_; clear n0_; (try clear hb); (try clear hb2); (try clear hk); (try clear hi)))
        go_ret
        exact ⟨by first | rfl | (simp [errW_none, errW_some] <;> rfl) | (simp [*, errW_none, errW_some] <;> rfl), by repeat (first | (with_reducible first | exact HB.out | apply wA | apply wN | apply wD) | exact HB.out)⟩
      · rw [if_neg c50] at H
        have c50b0 : (t255.toList == ([] : List UInt8)) = false := beq_eq_false_iff_ne.mpr c50
        have c50b1 : (t255.toList != ([] : List UInt8)) = true := bne_iff_ne.mpr c50
        exact absurd ((Option.some.inj H).trans hrt.out) (by decide)

end Go.Proofs.YtkalbdeopogbpaaDoor.P
