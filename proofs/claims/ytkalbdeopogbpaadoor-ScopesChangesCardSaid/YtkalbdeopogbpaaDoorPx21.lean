-- Written by wip/tools/myprint.py of this session over the kit's print; Lean checks it.
import Derived.Test.YtkalbdeopogbpaaDoorPx0
import Derived.Test.YtkalbdeopogbpaaDoorPx1
import Derived.Test.YtkalbdeopogbpaaDoorPx5
import Derived.Test.YtkalbdeopogbpaaDoorPx15
import Derived.Test.YtkalbdeopogbpaaDoorPx17
import Derived.Test.YtkalbdeopogbpaaDoorPx19
import Derived.Test.YtkalbdeopogbpaaDoorPx20
namespace Go.Proofs.YtkalbdeopogbpaaDoor.P
open Go.RowKit Go.Proofs.YtkalbdeopogbpaaDoorW.PrintWords Go.Proofs.YtkalbdeopogbpaaDoorW.PrintLast Go.Proofs.YtkalbdeopogbpaaDoorW.PrintMore
attribute [local go_sem] max2_int min2_int max_two min_two max_three min_three max_four min_four   -- for this text's walks alone
set_option linter.unusedVariables false
set_option linter.unusedSimpArgs false

/-! ### mummerlaw09_ScopesChanges: function 4 -/
def mummerlaw09_ScopesChanges.f (k : Nat) (a0 : ByteArray) (a1 : Int) : Option (Bool) := (mummerlaw09_far.f a0).bind fun t234 => (if t234 = true then ((mummerlaw09_awake.f k).bind fun t235 => (some t235)) else ((scopes_Has.f a0 a1).bind fun bt236 => ((mummerref09_Has.f k a0 a1).bind fun bt238 => ((scopes_Add.f a0 a1).bind fun bt240 => ((mummerref09_Add.f k a0 a1).bind fun bt242 => (if (bt236.1 != bt238.1) = true then (some false) else (if bt236.2 = bt238.2 then (if bt240.1.toList = bt242.1.toList then (if bt240.2 = bt242.2 then ((scopes_Drop.f a0 a1).bind fun bt244 => ((mummerref09_Drop.f k a0 a1).bind fun bt246 => ((scopes_Flip.f a0 a1).bind fun bt248 => ((mummerref09_Flip.f k a0 a1).bind fun bt250 => (if bt244.1.toList = bt246.1.toList then (if bt244.2 = bt246.2 then (if bt248.1.toList = bt250.1.toList then (if bt248.2 = bt250.2 then ((mummerlaw09_awake.f k).bind fun t252 => (some t252)) else (some false)) else (some false)) else (some false)) else (some false)))))) else (some false)) else (some false)) else (some false))))))))
theorem mummerlaw09_ScopesChanges.mono : ∀ a0 a1 k, LeO (mummerlaw09_ScopesChanges.f k a0 a1) (mummerlaw09_ScopesChanges.f (k + 1) a0 a1) := by
  intro a0 a1 k
  unfold mummerlaw09_ScopesChanges.f
  repeat' first
      | (with_reducible exact mummerlaw09_awake.mono _)
      | (with_reducible exact mummerref09_Add.mono _ _ _)
      | (with_reducible exact mummerref09_Drop.mono _ _ _)
      | (with_reducible exact mummerref09_Flip.mono _ _ _)
      | (with_reducible exact mummerref09_Has.mono _ _ _)
      | (with_reducible exact LeO.refl _)
      | (with_reducible exact LeO.none _)
      | (with_reducible refine LeO.ite ?_ ?_)
      | (with_reducible refine LeO.bind ?_ (fun _ => ?_))
      | exact mummerlaw09_awake.mono _
      | exact mummerref09_Add.mono _ _ _
      | exact mummerref09_Drop.mono _ _ _
      | exact mummerref09_Flip.mono _ _ _
      | exact mummerref09_Has.mono _ _ _
      | exact LeO.none _
      | refine LeO.ite ?_ ?_
      | refine LeO.bind ?_ (fun _ => ?_)
set_option maxHeartbeats 8000000 in
set_option maxRecDepth 100000 in
theorem mummerlaw09_ScopesChanges.calls (k : Nat) (a0 : ByteArray) (a1 : Int) (r : Bool) (w : World) (hrt : Aside0 (r = true)) (h : mummerlaw09_ScopesChanges.f k a0 a1 = some r) (HT : Aside0 (Sc.Tab w)) :
    Calls Tryd.prog 4 #[.string a0, .int .i64 a1] w fun e w' => e = .returned (.bool r) ∧ Below w.heap.size w w' := by
  have HB := ak (Below.refl w.heap.size w)
  have H : ((mummerlaw09_far.f a0).bind fun t234 => (if t234 = true then ((mummerlaw09_awake.f k).bind fun t235 => (some t235)) else ((scopes_Has.f a0 a1).bind fun bt236 => ((mummerref09_Has.f k a0 a1).bind fun bt238 => ((scopes_Add.f a0 a1).bind fun bt240 => ((mummerref09_Add.f k a0 a1).bind fun bt242 => (if (bt236.1 != bt238.1) = true then (some false) else (if bt236.2 = bt238.2 then (if bt240.1.toList = bt242.1.toList then (if bt240.2 = bt242.2 then ((scopes_Drop.f a0 a1).bind fun bt244 => ((mummerref09_Drop.f k a0 a1).bind fun bt246 => ((scopes_Flip.f a0 a1).bind fun bt248 => ((mummerref09_Flip.f k a0 a1).bind fun bt250 => (if bt244.1.toList = bt246.1.toList then (if bt244.2 = bt246.2 then (if bt248.1.toList = bt250.1.toList then (if bt248.2 = bt250.2 then ((mummerlaw09_awake.f k).bind fun t252 => (some t252)) else (some false)) else (some false)) else (some false)) else (some false)))))) else (some false)) else (some false)) else (some false))))))))) = some r := h
  clear h
  replace H := Option.bind_eq_some_iff.mp H
  obtain ⟨t234, A30, H⟩ := H
  replace H : (if t234 = true then ((mummerlaw09_awake.f k).bind fun t235 => (some t235)) else ((scopes_Has.f a0 a1).bind fun bt236 => ((mummerref09_Has.f k a0 a1).bind fun bt238 => ((scopes_Add.f a0 a1).bind fun bt240 => ((mummerref09_Add.f k a0 a1).bind fun bt242 => (if (bt236.1 != bt238.1) = true then (some false) else (if bt236.2 = bt238.2 then (if bt240.1.toList = bt242.1.toList then (if bt240.2 = bt242.2 then ((scopes_Drop.f a0 a1).bind fun bt244 => ((mummerref09_Drop.f k a0 a1).bind fun bt246 => ((scopes_Flip.f a0 a1).bind fun bt248 => ((mummerref09_Flip.f k a0 a1).bind fun bt250 => (if bt244.1.toList = bt246.1.toList then (if bt244.2 = bt246.2 then (if bt248.1.toList = bt250.1.toList then (if bt248.2 = bt250.2 then ((mummerlaw09_awake.f k).bind fun t252 => (some t252)) else (some false)) else (some false)) else (some false)) else (some false)))))) else (some false)) else (some false)) else (some false)))))))) = some r := H
  have A3 := ak A30
  clear A30
  by_cases c4 : t234 = true
  · subst c4
    have H1 : ((mummerlaw09_awake.f k).bind fun t235 => (some t235)) = some r := by rw [if_pos rfl] at H; exact H
    clear H
    have H := H1
    clear H1
    replace H := Option.bind_eq_some_iff.mp H
    obtain ⟨t235, A50, H⟩ := H
    replace H : (some t235) = some r := H
    have A5 := ak A50
    clear A50
    obtain rfl := Option.some.inj H
    go_enter Tryd.func4, Tryd.ntmps4
    go_wp2_with (first | ((with_reducible refine gate_callee (f := 9) rfl ?_); refine goesL_ (some 16) rfl rfl Tryd.func9 (by kernel_rfl) rfl #[.string a0] rfl (by (try simp only [List.map_toArray, List.map_cons, List.map_nil]); first | done | rfl | (simp only [List.length_drop, List.length_take]; rfl)) ?_; (with_reducible refine (mummerlaw09_far.calls a0 true _ A3.out).mono ?_); rintro e w' ⟨rfl, ⟨nd, rfl⟩⟩; refine ⟨_, rfl, ?_⟩) | ((with_reducible refine gate_callee (f := 10) rfl ?_); refine goesL_ (some 17) rfl rfl Tryd.func10 (by kernel_rfl) rfl #[] rfl (by (try simp only [List.map_toArray, List.map_cons, List.map_nil]); first | done | rfl | (simp only [List.length_drop, List.length_take]; rfl)) ?_; (with_reducible refine (mummerlaw09_awake.calls k  t235 _ hrt A5.out ⟨Sc.Tab.stay HT.out (by repeat (first | (with_reducible first | exact HB.out | apply wA | apply wN | apply wD) | exact HB.out | (refine below_set ?_ (by assumption))))⟩).mono ?_); rintro e w6 ⟨rfl, hb⟩; refine ⟨_, rfl, ?_⟩; have n0_ := ak (below_step (by repeat (first | (with_reducible first | exact HB.out | apply wA | apply wN | apply wD) | exact HB.out)) hb); clear HB; have HB := n0_; clear n0_; (try clear hb); (try clear hb2); (try clear hk); (try clear hi)))
    go_ret
    exact ⟨by first | rfl | (simp [errW_none, errW_some] <;> rfl) | (simp [*, errW_none, errW_some] <;> rfl), by repeat (first | (with_reducible first | exact HB.out | apply wA | apply wN | apply wD) | exact HB.out)⟩
  · replace c4 := Bool.eq_false_iff.mpr c4
    subst c4
    have H1 : ((scopes_Has.f a0 a1).bind fun bt236 => ((mummerref09_Has.f k a0 a1).bind fun bt238 => ((scopes_Add.f a0 a1).bind fun bt240 => ((mummerref09_Add.f k a0 a1).bind fun bt242 => (if (bt236.1 != bt238.1) = true then (some false) else (if bt236.2 = bt238.2 then (if bt240.1.toList = bt242.1.toList then (if bt240.2 = bt242.2 then ((scopes_Drop.f a0 a1).bind fun bt244 => ((mummerref09_Drop.f k a0 a1).bind fun bt246 => ((scopes_Flip.f a0 a1).bind fun bt248 => ((mummerref09_Flip.f k a0 a1).bind fun bt250 => (if bt244.1.toList = bt246.1.toList then (if bt244.2 = bt246.2 then (if bt248.1.toList = bt250.1.toList then (if bt248.2 = bt250.2 then ((mummerlaw09_awake.f k).bind fun t252 => (some t252)) else (some false)) else (some false)) else (some false)) else (some false)))))) else (some false)) else (some false)) else (some false))))))) = some r := by rw [if_neg (show ¬ (false = true) by decide)] at H; exact H
    clear H
    have H := H1
    clear H1
    replace H := Option.bind_eq_some_iff.mp H
    obtain ⟨⟨t236, t237⟩, A70, H⟩ := H
    replace H : ((mummerref09_Has.f k a0 a1).bind fun bt238 => ((scopes_Add.f a0 a1).bind fun bt240 => ((mummerref09_Add.f k a0 a1).bind fun bt242 => (if (t236 != bt238.1) = true then (some false) else (if t237 = bt238.2 then (if bt240.1.toList = bt242.1.toList then (if bt240.2 = bt242.2 then ((scopes_Drop.f a0 a1).bind fun bt244 => ((mummerref09_Drop.f k a0 a1).bind fun bt246 => ((scopes_Flip.f a0 a1).bind fun bt248 => ((mummerref09_Flip.f k a0 a1).bind fun bt250 => (if bt244.1.toList = bt246.1.toList then (if bt244.2 = bt246.2 then (if bt248.1.toList = bt250.1.toList then (if bt248.2 = bt250.2 then ((mummerlaw09_awake.f k).bind fun t252 => (some t252)) else (some false)) else (some false)) else (some false)) else (some false)))))) else (some false)) else (some false)) else (some false)))))) = some r := H
    have A7 := ak A70
    clear A70
    replace H := Option.bind_eq_some_iff.mp H
    obtain ⟨⟨t238, t239⟩, A80, H⟩ := H
    replace H : ((scopes_Add.f a0 a1).bind fun bt240 => ((mummerref09_Add.f k a0 a1).bind fun bt242 => (if (t236 != t238) = true then (some false) else (if t237 = t239 then (if bt240.1.toList = bt242.1.toList then (if bt240.2 = bt242.2 then ((scopes_Drop.f a0 a1).bind fun bt244 => ((mummerref09_Drop.f k a0 a1).bind fun bt246 => ((scopes_Flip.f a0 a1).bind fun bt248 => ((mummerref09_Flip.f k a0 a1).bind fun bt250 => (if bt244.1.toList = bt246.1.toList then (if bt244.2 = bt246.2 then (if bt248.1.toList = bt250.1.toList then (if bt248.2 = bt250.2 then ((mummerlaw09_awake.f k).bind fun t252 => (some t252)) else (some false)) else (some false)) else (some false)) else (some false)))))) else (some false)) else (some false)) else (some false))))) = some r := H
    have A8 := ak A80
    clear A80
    replace H := Option.bind_eq_some_iff.mp H
    obtain ⟨⟨t240, t241⟩, A90, H⟩ := H
    replace H : ((mummerref09_Add.f k a0 a1).bind fun bt242 => (if (t236 != t238) = true then (some false) else (if t237 = t239 then (if t240.toList = bt242.1.toList then (if t241 = bt242.2 then ((scopes_Drop.f a0 a1).bind fun bt244 => ((mummerref09_Drop.f k a0 a1).bind fun bt246 => ((scopes_Flip.f a0 a1).bind fun bt248 => ((mummerref09_Flip.f k a0 a1).bind fun bt250 => (if bt244.1.toList = bt246.1.toList then (if bt244.2 = bt246.2 then (if bt248.1.toList = bt250.1.toList then (if bt248.2 = bt250.2 then ((mummerlaw09_awake.f k).bind fun t252 => (some t252)) else (some false)) else (some false)) else (some false)) else (some false)))))) else (some false)) else (some false)) else (some false)))) = some r := H
    have A9 := ak A90
    clear A90
    replace H := Option.bind_eq_some_iff.mp H
    obtain ⟨⟨t242, t243⟩, A100, H⟩ := H
    replace H : (if (t236 != t238) = true then (some false) else (if t237 = t239 then (if t240.toList = t242.toList then (if t241 = t243 then ((scopes_Drop.f a0 a1).bind fun bt244 => ((mummerref09_Drop.f k a0 a1).bind fun bt246 => ((scopes_Flip.f a0 a1).bind fun bt248 => ((mummerref09_Flip.f k a0 a1).bind fun bt250 => (if bt244.1.toList = bt246.1.toList then (if bt244.2 = bt246.2 then (if bt248.1.toList = bt250.1.toList then (if bt248.2 = bt250.2 then ((mummerlaw09_awake.f k).bind fun t252 => (some t252)) else (some false)) else (some false)) else (some false)) else (some false)))))) else (some false)) else (some false)) else (some false))) = some r := H
    have A10 := ak A100
    clear A100
    by_cases c11 : (t236 != t238) = true
    · rw [if_pos c11] at H
      have c11b0 : (t236 != t238) = true := c11
      (try (have c11b1 : decide (t236 = t238) = false := by simpa using c11))
      (try (have c11b2 : (t236 == t238) = false := by simpa using c11))
      (try (have c11b3 : ¬ (t236 = t238) := by simpa using c11))
      clear c11
      exact absurd ((Option.some.inj H).trans hrt.out) (by decide)
    · rw [if_neg c11] at H
      have c11b0 : (t236 != t238) = false := by simpa using c11
      (try (have c11b1 : decide (t236 = t238) = true := by simpa using c11))
      (try (have c11b2 : (t236 == t238) = true := by simpa using c11))
      clear c11
      by_cases c12 : t237 = t239
      · rw [if_pos c12] at H
        have c12b0 : (t237 == t239) = true := beq_iff_eq.mpr c12
        have c12b1 : (t237 != t239) = false := bne_eq_false_iff_eq.mpr c12
        clear c12
        by_cases c13 : t240.toList = t242.toList
        · rw [if_pos c13] at H
          have c13b0 : (t240.toList == t242.toList) = true := beq_iff_eq.mpr c13
          have c13b1 : (t240.toList != t242.toList) = false := bne_eq_false_iff_eq.mpr c13
          clear c13
          by_cases c14 : t241 = t243
          · rw [if_pos c14] at H
            have c14b0 : (t241 == t243) = true := beq_iff_eq.mpr c14
            have c14b1 : (t241 != t243) = false := bne_eq_false_iff_eq.mpr c14
            clear c14
            replace H := Option.bind_eq_some_iff.mp H
            obtain ⟨⟨t244, t245⟩, A150, H⟩ := H
            replace H : ((mummerref09_Drop.f k a0 a1).bind fun bt246 => ((scopes_Flip.f a0 a1).bind fun bt248 => ((mummerref09_Flip.f k a0 a1).bind fun bt250 => (if t244.toList = bt246.1.toList then (if t245 = bt246.2 then (if bt248.1.toList = bt250.1.toList then (if bt248.2 = bt250.2 then ((mummerlaw09_awake.f k).bind fun t252 => (some t252)) else (some false)) else (some false)) else (some false)) else (some false))))) = some r := H
            have A15 := ak A150
            clear A150
            replace H := Option.bind_eq_some_iff.mp H
            obtain ⟨⟨t246, t247⟩, A160, H⟩ := H
            replace H : ((scopes_Flip.f a0 a1).bind fun bt248 => ((mummerref09_Flip.f k a0 a1).bind fun bt250 => (if t244.toList = t246.toList then (if t245 = t247 then (if bt248.1.toList = bt250.1.toList then (if bt248.2 = bt250.2 then ((mummerlaw09_awake.f k).bind fun t252 => (some t252)) else (some false)) else (some false)) else (some false)) else (some false)))) = some r := H
            have A16 := ak A160
            clear A160
            replace H := Option.bind_eq_some_iff.mp H
            obtain ⟨⟨t248, t249⟩, A170, H⟩ := H
            replace H : ((mummerref09_Flip.f k a0 a1).bind fun bt250 => (if t244.toList = t246.toList then (if t245 = t247 then (if t248.toList = bt250.1.toList then (if t249 = bt250.2 then ((mummerlaw09_awake.f k).bind fun t252 => (some t252)) else (some false)) else (some false)) else (some false)) else (some false))) = some r := H
            have A17 := ak A170
            clear A170
            replace H := Option.bind_eq_some_iff.mp H
            obtain ⟨⟨t250, t251⟩, A180, H⟩ := H
            replace H : (if t244.toList = t246.toList then (if t245 = t247 then (if t248.toList = t250.toList then (if t249 = t251 then ((mummerlaw09_awake.f k).bind fun t252 => (some t252)) else (some false)) else (some false)) else (some false)) else (some false)) = some r := H
            have A18 := ak A180
            clear A180
            by_cases c19 : t244.toList = t246.toList
            · rw [if_pos c19] at H
              have c19b0 : (t244.toList == t246.toList) = true := beq_iff_eq.mpr c19
              have c19b1 : (t244.toList != t246.toList) = false := bne_eq_false_iff_eq.mpr c19
              clear c19
              by_cases c20 : t245 = t247
              · rw [if_pos c20] at H
                have c20b0 : (t245 == t247) = true := beq_iff_eq.mpr c20
                have c20b1 : (t245 != t247) = false := bne_eq_false_iff_eq.mpr c20
                clear c20
                by_cases c21 : t248.toList = t250.toList
                · rw [if_pos c21] at H
                  have c21b0 : (t248.toList == t250.toList) = true := beq_iff_eq.mpr c21
                  have c21b1 : (t248.toList != t250.toList) = false := bne_eq_false_iff_eq.mpr c21
                  clear c21
                  by_cases c22 : t249 = t251
                  · rw [if_pos c22] at H
                    have c22b0 : (t249 == t251) = true := beq_iff_eq.mpr c22
                    have c22b1 : (t249 != t251) = false := bne_eq_false_iff_eq.mpr c22
                    clear c22
                    replace H := Option.bind_eq_some_iff.mp H
                    obtain ⟨t252, A230, H⟩ := H
                    replace H : (some t252) = some r := H
                    have A23 := ak A230
                    clear A230
                    obtain rfl := Option.some.inj H
                    go_enter Tryd.func4, Tryd.ntmps4
                    go_wp2_with (first | ((with_reducible refine gate_callee (f := 9) rfl ?_); refine goesL_ (some 16) rfl rfl Tryd.func9 (by kernel_rfl) rfl #[.string a0] rfl (by (try simp only [List.map_toArray, List.map_cons, List.map_nil]); first | done | rfl | (simp only [List.length_drop, List.length_take]; rfl)) ?_; (with_reducible refine (mummerlaw09_far.calls a0 false _ A3.out).mono ?_); rintro e w' ⟨rfl, ⟨nd, rfl⟩⟩; refine ⟨_, rfl, ?_⟩) | ((with_reducible refine gate_callee (f := 18) rfl ?_); refine goesL_ (some 21) rfl rfl Tryd.func18 (by kernel_rfl) rfl #[.string a0, .int .i64 a1] rfl (by (try simp only [List.map_toArray, List.map_cons, List.map_nil]); first | done | rfl | (simp only [List.length_drop, List.length_take]; rfl)) ?_; (with_reducible refine (scopes_Has.calls a0 a1 t236 t237 _ A7.out).mono ?_); rintro e w24 ⟨rfl, hb⟩; refine ⟨_, rfl, ?_⟩; have n0_ := ak (below_step (by repeat (first | (with_reducible first | exact HB.out | apply wA | apply wN | apply wD) | exact HB.out)) hb); clear HB; have HB := n0_; clear n0_; (try clear hb); (try clear hb2); (try clear hk); (try clear hi)) | ((with_reducible refine gate_callee (f := 19) rfl ?_); refine goesL_ (some 27) rfl rfl Tryd.func19 (by kernel_rfl) rfl #[.string a0, .int .i64 a1] rfl (by (try simp only [List.map_toArray, List.map_cons, List.map_nil]); first | done | rfl | (simp only [List.length_drop, List.length_take]; rfl)) ?_; (with_reducible refine (mummerref09_Has.calls k a0 a1 t238 t239 _ A8.out).mono ?_); rintro e w25 ⟨rfl, hb⟩; refine ⟨_, rfl, ?_⟩; have n0_ := ak (below_step (by repeat (first | (with_reducible first | exact HB.out | apply wA | apply wN | apply wD) | exact HB.out)) hb); clear HB; have HB := n0_; clear n0_; (try clear hb); (try clear hb2); (try clear hk); (try clear hi)) | ((with_reducible refine gate_callee (f := 20) rfl ?_); refine goesL_ (some 33) rfl rfl Tryd.func20 (by kernel_rfl) rfl #[.string a0, .int .i64 a1] rfl (by (try simp only [List.map_toArray, List.map_cons, List.map_nil]); first | done | rfl | (simp only [List.length_drop, List.length_take]; rfl)) ?_; (with_reducible refine (scopes_Add.calls a0 a1 t240 t241 _ A9.out).mono ?_); rintro e w26 ⟨rfl, hb⟩; refine ⟨_, rfl, ?_⟩; have n0_ := ak (below_step (by repeat (first | (with_reducible first | exact HB.out | apply wA | apply wN | apply wD) | exact HB.out)) hb); clear HB; have HB := n0_; clear n0_; (try clear hb); (try clear hb2); (try clear hk); (try clear hi)) | ((with_reducible refine gate_callee (f := 21) rfl ?_); refine goesL_ (some 39) rfl rfl Tryd.func21 (by kernel_rfl) rfl #[.string a0, .int .i64 a1] rfl (by (try simp only [List.map_toArray, List.map_cons, List.map_nil]); first | done | rfl | (simp only [List.length_drop, List.length_take]; rfl)) ?_; (with_reducible refine (mummerref09_Add.calls k a0 a1 t242 t243 _ A10.out).mono ?_); rintro e w27 ⟨rfl, hb⟩; refine ⟨_, rfl, ?_⟩; have n0_ := ak (below_step (by repeat (first | (with_reducible first | exact HB.out | apply wA | apply wN | apply wD) | exact HB.out)) hb); clear HB; have HB := n0_; clear n0_; (try clear hb); (try clear hb2); (try clear hk); (try clear hi)) | ((with_reducible refine gate_callee (f := 22) rfl ?_); refine goesL_ (some 63) rfl rfl Tryd.func22 (by kernel_rfl) rfl #[.string a0, .int .i64 a1] rfl (by (try simp only [List.map_toArray, List.map_cons, List.map_nil]); first | done | rfl | (simp only [List.length_drop, List.length_take]; rfl)) ?_; (with_reducible refine (scopes_Drop.calls a0 a1 t244 t245 _ A15.out).mono ?_); rintro e w28 ⟨rfl, hb⟩; refine ⟨_, rfl, ?_⟩; have n0_ := ak (below_step (by repeat (first | (with_reducible first | exact HB.out | apply wA | apply wN | apply wD) | exact HB.out)) hb); clear HB; have HB := n0_; clear n0_; (try clear hb); (try clear hb2); (try clear hk); (try clear hi)) | ((with_reducible refine gate_callee (f := 23) rfl ?_); refine goesL_ (some 69) rfl rfl Tryd.func23 (by kernel_rfl) rfl #[.string a0, .int .i64 a1] rfl (by (try simp only [List.map_toArray, List.map_cons, List.map_nil]); first | done | rfl | (simp only [List.length_drop, List.length_take]; rfl)) ?_; (with_reducible refine (mummerref09_Drop.calls k a0 a1 t246 t247 _ A16.out).mono ?_); rintro e w29 ⟨rfl, hb⟩; refine ⟨_, rfl, ?_⟩; have n0_ := ak (below_step (by repeat (first | (with_reducible first | exact HB.out | apply wA | apply wN | apply wD) | exact HB.out)) hb); clear HB; have HB := n0_; clear n0_; (try clear hb); (try clear hb2); (try clear hk); (try clear hi)) | ((with_reducible refine gate_callee (f := 24) rfl ?_); refine goesL_ (some 75) rfl rfl Tryd.func24 (by kernel_rfl) rfl #[.string a0, .int .i64 a1] rfl (by (try simp only [List.map_toArray, List.map_cons, List.map_nil]); first | done | rfl | (simp only [List.length_drop, List.length_take]; rfl)) ?_; (with_reducible refine (scopes_Flip.calls a0 a1 t248 t249 _ A17.out).mono ?_); rintro e w30 ⟨rfl, hb⟩; refine ⟨_, rfl, ?_⟩; have n0_ := ak (below_step (by repeat (first | (with_reducible first | exact HB.out | apply wA | apply wN | apply wD) | exact HB.out)) hb); clear HB; have HB := n0_; clear n0_; (try clear hb); (try clear hb2); (try clear hk); (try clear hi)) | ((with_reducible refine gate_callee (f := 25) rfl ?_); refine goesL_ (some 81) rfl rfl Tryd.func25 (by kernel_rfl) rfl #[.string a0, .int .i64 a1] rfl (by (try simp only [List.map_toArray, List.map_cons, List.map_nil]); first | done | rfl | (simp only [List.length_drop, List.length_take]; rfl)) ?_; (with_reducible refine (mummerref09_Flip.calls k a0 a1 t250 t251 _ A18.out).mono ?_); rintro e w31 ⟨rfl, hb⟩; refine ⟨_, rfl, ?_⟩; have n0_ := ak (below_step (by repeat (first | (with_reducible first | exact HB.out | apply wA | apply wN | apply wD) | exact HB.out)) hb); clear HB; have HB := n0_; clear n0_; (try clear hb); (try clear hb2); (try clear hk); (try clear hi)) | (go_at_call 10; (with_reducible refine (mummerlaw09_awake.calls k  t252 _ hrt A23.out ⟨Sc.Tab.stay HT.out (by repeat (first | (with_reducible first | exact HB.out | apply wA | apply wN | apply wD) | exact HB.out | (refine below_set ?_ (by assumption))))⟩).mono ?_); rintro e w32 ⟨rfl, hb⟩; have n0_ := ak (below_step (by repeat (first | (with_reducible first | exact HB.out | apply wA | apply wN | apply wD) | exact HB.out)) hb); clear HB; have HB := n0_; clear n0_; (try clear hb); (try clear hb2); (try clear hk); (try clear hi)))
                    go_ret
                    exact ⟨by first | rfl | (simp [errW_none, errW_some] <;> rfl) | (simp [*, errW_none, errW_some] <;> rfl), by repeat (first | (with_reducible first | exact HB.out | apply wA | apply wN | apply wD) | exact HB.out)⟩
                  · rw [if_neg c22] at H
                    have c22b0 : (t249 == t251) = false := beq_eq_false_iff_ne.mpr c22
                    have c22b1 : (t249 != t251) = true := bne_iff_ne.mpr c22
                    exact absurd ((Option.some.inj H).trans hrt.out) (by decide)
                · rw [if_neg c21] at H
                  have c21b0 : (t248.toList == t250.toList) = false := beq_eq_false_iff_ne.mpr c21
                  have c21b1 : (t248.toList != t250.toList) = true := bne_iff_ne.mpr c21
                  exact absurd ((Option.some.inj H).trans hrt.out) (by decide)
              · rw [if_neg c20] at H
                have c20b0 : (t245 == t247) = false := beq_eq_false_iff_ne.mpr c20
                have c20b1 : (t245 != t247) = true := bne_iff_ne.mpr c20
                exact absurd ((Option.some.inj H).trans hrt.out) (by decide)
            · rw [if_neg c19] at H
              have c19b0 : (t244.toList == t246.toList) = false := beq_eq_false_iff_ne.mpr c19
              have c19b1 : (t244.toList != t246.toList) = true := bne_iff_ne.mpr c19
              exact absurd ((Option.some.inj H).trans hrt.out) (by decide)
          · rw [if_neg c14] at H
            have c14b0 : (t241 == t243) = false := beq_eq_false_iff_ne.mpr c14
            have c14b1 : (t241 != t243) = true := bne_iff_ne.mpr c14
            exact absurd ((Option.some.inj H).trans hrt.out) (by decide)
        · rw [if_neg c13] at H
          have c13b0 : (t240.toList == t242.toList) = false := beq_eq_false_iff_ne.mpr c13
          have c13b1 : (t240.toList != t242.toList) = true := bne_iff_ne.mpr c13
          exact absurd ((Option.some.inj H).trans hrt.out) (by decide)
      · rw [if_neg c12] at H
        have c12b0 : (t237 == t239) = false := beq_eq_false_iff_ne.mpr c12
        have c12b1 : (t237 != t239) = true := bne_iff_ne.mpr c12
        exact absurd ((Option.some.inj H).trans hrt.out) (by decide)

end Go.Proofs.YtkalbdeopogbpaaDoor.P
