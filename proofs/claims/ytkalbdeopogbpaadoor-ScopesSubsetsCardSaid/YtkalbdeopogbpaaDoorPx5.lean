-- Written by wip/tools/myprint.py of this session over the kit's print; Lean checks it.
import Derived.Test.YtkalbdeopogbpaaDoorPx0
import Derived.Test.YtkalbdeopogbpaaDoorPx1
import Derived.Test.YtkalbdeopogbpaaDoorPx3
import Derived.Test.YtkalbdeopogbpaaDoorPx4
namespace Go.Proofs.YtkalbdeopogbpaaDoor.P
open Go.RowKit Go.Proofs.YtkalbdeopogbpaaDoorW.PrintWords Go.Proofs.YtkalbdeopogbpaaDoorW.PrintLast Go.Proofs.YtkalbdeopogbpaaDoorW.PrintMore
attribute [local go_sem] max2_int min2_int max_two min_two max_three min_three max_four min_four   -- for this text's walks alone
set_option linter.unusedVariables false
set_option linter.unusedSimpArgs false

/-! ### mummerlaw09_awake: function 10 -/
def mummerlaw09_awake.f (k : Nat)  : Option (Bool) := (scopes_Of.f (([5, 258, 1, 5] : List Int))).bind fun bt156 => ((scopes_Drop.f bt156.1 5).bind fun bt158 => ((scopes_Flip.f bt156.1 6).bind fun bt160 => ((scopes_Print.f bt160.1).bind fun bt162 => ((scopes_Relate.f k (⟨#[0, 1]⟩ : ByteArray) bt156.1).bind fun bt164 => ((scopes_Add.f bt156.1 65536).bind fun bt166 => (if bt156.1.toList = ([0, 1, 0, 5, 1, 2] : List UInt8) then (if bt156.2 = 0 then (if bt158.1.toList = ([0, 1, 1, 2] : List UInt8) then (if bt158.2 = 0 then (if bt160.2 = 0 then (if bt162.1.toList = ([49, 44, 53, 45, 54, 44, 50, 53, 56] : List UInt8) then (if bt162.2 = 0 then (if bt164.1 = 1 then (if bt164.2 = 0 then (some (bt166.2 == 7)) else (some false)) else (some false)) else (some false)) else (some false)) else (some false)) else (some false)) else (some false)) else (some false)) else (some false)))))))
theorem mummerlaw09_awake.mono : ∀ k, LeO (mummerlaw09_awake.f k ) (mummerlaw09_awake.f (k + 1) ) := by
  intro  k
  unfold mummerlaw09_awake.f
  repeat' first
      | (with_reducible exact scopes_Relate.mono _ _ _)
      | (with_reducible exact LeO.refl _)
      | (with_reducible exact LeO.none _)
      | (with_reducible refine LeO.ite ?_ ?_)
      | (with_reducible refine LeO.bind ?_ (fun _ => ?_))
      | exact scopes_Relate.mono _ _ _
      | exact LeO.none _
      | refine LeO.ite ?_ ?_
      | refine LeO.bind ?_ (fun _ => ?_)
set_option maxHeartbeats 8000000 in
set_option maxRecDepth 100000 in
theorem mummerlaw09_awake.calls (k : Nat)  (r : Bool) (w : World) (hrt : Aside0 (r = true)) (h : mummerlaw09_awake.f k  = some r) (HT : Aside0 (Sc.Tab w)) :
    Calls Tryd.prog 10 #[] w fun e w' => e = .returned (.bool r) ∧ Below w.heap.size w w' := by
  have HB := ak (Below.refl w.heap.size w)
  have H : ((scopes_Of.f (([5, 258, 1, 5] : List Int))).bind fun bt156 => ((scopes_Drop.f bt156.1 5).bind fun bt158 => ((scopes_Flip.f bt156.1 6).bind fun bt160 => ((scopes_Print.f bt160.1).bind fun bt162 => ((scopes_Relate.f k (⟨#[0, 1]⟩ : ByteArray) bt156.1).bind fun bt164 => ((scopes_Add.f bt156.1 65536).bind fun bt166 => (if bt156.1.toList = ([0, 1, 0, 5, 1, 2] : List UInt8) then (if bt156.2 = 0 then (if bt158.1.toList = ([0, 1, 1, 2] : List UInt8) then (if bt158.2 = 0 then (if bt160.2 = 0 then (if bt162.1.toList = ([49, 44, 53, 45, 54, 44, 50, 53, 56] : List UInt8) then (if bt162.2 = 0 then (if bt164.1 = 1 then (if bt164.2 = 0 then (some (bt166.2 == 7)) else (some false)) else (some false)) else (some false)) else (some false)) else (some false)) else (some false)) else (some false)) else (some false)) else (some false)))))))) = some r := h
  clear h
  obtain ⟨y153, hy153⟩ : ∃ y_ : List Int, y_ = (([5, 258, 1, 5] : List Int)) := ⟨_, rfl⟩
  replace H : ((scopes_Of.f y153).bind fun bt156 => ((scopes_Drop.f bt156.1 5).bind fun bt158 => ((scopes_Flip.f bt156.1 6).bind fun bt160 => ((scopes_Print.f bt160.1).bind fun bt162 => ((scopes_Relate.f k (⟨#[0, 1]⟩ : ByteArray) bt156.1).bind fun bt164 => ((scopes_Add.f bt156.1 65536).bind fun bt166 => (if bt156.1.toList = ([0, 1, 0, 5, 1, 2] : List UInt8) then (if bt156.2 = 0 then (if bt158.1.toList = ([0, 1, 1, 2] : List UInt8) then (if bt158.2 = 0 then (if bt160.2 = 0 then (if bt162.1.toList = ([49, 44, 53, 45, 54, 44, 50, 53, 56] : List UInt8) then (if bt162.2 = 0 then (if bt164.1 = 1 then (if bt164.2 = 0 then (some (bt166.2 == 7)) else (some false)) else (some false)) else (some false)) else (some false)) else (some false)) else (some false)) else (some false)) else (some false)) else (some false)))))))) = some r := by first | (rw [hy153]; with_reducible exact H) | (have H2_ := (Option.bind_some _ _).symm.trans H; rw [hy153]; with_reducible exact H2_) | (have H2_ := (Option.bind_some _ _).symm.trans H; with_reducible exact H2_) | with_reducible exact H | (rw [hy153]; exact H) | exact H
  have Ny153 := ak hy153
  clear hy153
  replace H := Option.bind_eq_some_iff.mp H
  obtain ⟨⟨t156, t157⟩, A10, H⟩ := H
  replace H : ((scopes_Drop.f t156 5).bind fun bt158 => ((scopes_Flip.f t156 6).bind fun bt160 => ((scopes_Print.f bt160.1).bind fun bt162 => ((scopes_Relate.f k (⟨#[0, 1]⟩ : ByteArray) t156).bind fun bt164 => ((scopes_Add.f t156 65536).bind fun bt166 => (if t156.toList = ([0, 1, 0, 5, 1, 2] : List UInt8) then (if t157 = 0 then (if bt158.1.toList = ([0, 1, 1, 2] : List UInt8) then (if bt158.2 = 0 then (if bt160.2 = 0 then (if bt162.1.toList = ([49, 44, 53, 45, 54, 44, 50, 53, 56] : List UInt8) then (if bt162.2 = 0 then (if bt164.1 = 1 then (if bt164.2 = 0 then (some (bt166.2 == 7)) else (some false)) else (some false)) else (some false)) else (some false)) else (some false)) else (some false)) else (some false)) else (some false)) else (some false))))))) = some r := H
  have A1 := ak A10
  clear A10
  replace H := Option.bind_eq_some_iff.mp H
  obtain ⟨⟨t158, t159⟩, A20, H⟩ := H
  replace H : ((scopes_Flip.f t156 6).bind fun bt160 => ((scopes_Print.f bt160.1).bind fun bt162 => ((scopes_Relate.f k (⟨#[0, 1]⟩ : ByteArray) t156).bind fun bt164 => ((scopes_Add.f t156 65536).bind fun bt166 => (if t156.toList = ([0, 1, 0, 5, 1, 2] : List UInt8) then (if t157 = 0 then (if t158.toList = ([0, 1, 1, 2] : List UInt8) then (if t159 = 0 then (if bt160.2 = 0 then (if bt162.1.toList = ([49, 44, 53, 45, 54, 44, 50, 53, 56] : List UInt8) then (if bt162.2 = 0 then (if bt164.1 = 1 then (if bt164.2 = 0 then (some (bt166.2 == 7)) else (some false)) else (some false)) else (some false)) else (some false)) else (some false)) else (some false)) else (some false)) else (some false)) else (some false)))))) = some r := H
  have A2 := ak A20
  clear A20
  replace H := Option.bind_eq_some_iff.mp H
  obtain ⟨⟨t160, t161⟩, A30, H⟩ := H
  replace H : ((scopes_Print.f t160).bind fun bt162 => ((scopes_Relate.f k (⟨#[0, 1]⟩ : ByteArray) t156).bind fun bt164 => ((scopes_Add.f t156 65536).bind fun bt166 => (if t156.toList = ([0, 1, 0, 5, 1, 2] : List UInt8) then (if t157 = 0 then (if t158.toList = ([0, 1, 1, 2] : List UInt8) then (if t159 = 0 then (if t161 = 0 then (if bt162.1.toList = ([49, 44, 53, 45, 54, 44, 50, 53, 56] : List UInt8) then (if bt162.2 = 0 then (if bt164.1 = 1 then (if bt164.2 = 0 then (some (bt166.2 == 7)) else (some false)) else (some false)) else (some false)) else (some false)) else (some false)) else (some false)) else (some false)) else (some false)) else (some false))))) = some r := H
  have A3 := ak A30
  clear A30
  replace H := Option.bind_eq_some_iff.mp H
  obtain ⟨⟨t162, t163⟩, A40, H⟩ := H
  replace H : ((scopes_Relate.f k (⟨#[0, 1]⟩ : ByteArray) t156).bind fun bt164 => ((scopes_Add.f t156 65536).bind fun bt166 => (if t156.toList = ([0, 1, 0, 5, 1, 2] : List UInt8) then (if t157 = 0 then (if t158.toList = ([0, 1, 1, 2] : List UInt8) then (if t159 = 0 then (if t161 = 0 then (if t162.toList = ([49, 44, 53, 45, 54, 44, 50, 53, 56] : List UInt8) then (if t163 = 0 then (if bt164.1 = 1 then (if bt164.2 = 0 then (some (bt166.2 == 7)) else (some false)) else (some false)) else (some false)) else (some false)) else (some false)) else (some false)) else (some false)) else (some false)) else (some false)))) = some r := H
  have A4 := ak A40
  clear A40
  replace H := Option.bind_eq_some_iff.mp H
  obtain ⟨⟨t164, t165⟩, A50, H⟩ := H
  replace H : ((scopes_Add.f t156 65536).bind fun bt166 => (if t156.toList = ([0, 1, 0, 5, 1, 2] : List UInt8) then (if t157 = 0 then (if t158.toList = ([0, 1, 1, 2] : List UInt8) then (if t159 = 0 then (if t161 = 0 then (if t162.toList = ([49, 44, 53, 45, 54, 44, 50, 53, 56] : List UInt8) then (if t163 = 0 then (if t164 = 1 then (if t165 = 0 then (some (bt166.2 == 7)) else (some false)) else (some false)) else (some false)) else (some false)) else (some false)) else (some false)) else (some false)) else (some false)) else (some false))) = some r := H
  have A5 := ak A50
  clear A50
  replace H := Option.bind_eq_some_iff.mp H
  obtain ⟨⟨t166, t167⟩, A60, H⟩ := H
  replace H : (if t156.toList = ([0, 1, 0, 5, 1, 2] : List UInt8) then (if t157 = 0 then (if t158.toList = ([0, 1, 1, 2] : List UInt8) then (if t159 = 0 then (if t161 = 0 then (if t162.toList = ([49, 44, 53, 45, 54, 44, 50, 53, 56] : List UInt8) then (if t163 = 0 then (if t164 = 1 then (if t165 = 0 then (some (t167 == 7)) else (some false)) else (some false)) else (some false)) else (some false)) else (some false)) else (some false)) else (some false)) else (some false)) else (some false)) = some r := H
  have A6 := ak A60
  clear A60
  by_cases c7 : t156.toList = ([0, 1, 0, 5, 1, 2] : List UInt8)
  · rw [if_pos c7] at H
    have c7b0 : (t156.toList == ([0, 1, 0, 5, 1, 2] : List UInt8)) = true := beq_iff_eq.mpr c7
    have c7b1 : (t156.toList != ([0, 1, 0, 5, 1, 2] : List UInt8)) = false := bne_eq_false_iff_eq.mpr c7
    clear c7
    by_cases c8 : t157 = 0
    · rw [if_pos c8] at H
      have c8b0 : (t157 == 0) = true := beq_iff_eq.mpr c8
      have c8b1 : (t157 != 0) = false := bne_eq_false_iff_eq.mpr c8
      clear c8
      by_cases c9 : t158.toList = ([0, 1, 1, 2] : List UInt8)
      · rw [if_pos c9] at H
        have c9b0 : (t158.toList == ([0, 1, 1, 2] : List UInt8)) = true := beq_iff_eq.mpr c9
        have c9b1 : (t158.toList != ([0, 1, 1, 2] : List UInt8)) = false := bne_eq_false_iff_eq.mpr c9
        clear c9
        by_cases c10 : t159 = 0
        · rw [if_pos c10] at H
          have c10b0 : (t159 == 0) = true := beq_iff_eq.mpr c10
          have c10b1 : (t159 != 0) = false := bne_eq_false_iff_eq.mpr c10
          clear c10
          by_cases c11 : t161 = 0
          · rw [if_pos c11] at H
            have c11b0 : (t161 == 0) = true := beq_iff_eq.mpr c11
            have c11b1 : (t161 != 0) = false := bne_eq_false_iff_eq.mpr c11
            clear c11
            by_cases c12 : t162.toList = ([49, 44, 53, 45, 54, 44, 50, 53, 56] : List UInt8)
            · rw [if_pos c12] at H
              have c12b0 : (t162.toList == ([49, 44, 53, 45, 54, 44, 50, 53, 56] : List UInt8)) = true := beq_iff_eq.mpr c12
              have c12b1 : (t162.toList != ([49, 44, 53, 45, 54, 44, 50, 53, 56] : List UInt8)) = false := bne_eq_false_iff_eq.mpr c12
              clear c12
              by_cases c13 : t163 = 0
              · rw [if_pos c13] at H
                have c13b0 : (t163 == 0) = true := beq_iff_eq.mpr c13
                have c13b1 : (t163 != 0) = false := bne_eq_false_iff_eq.mpr c13
                clear c13
                by_cases c14 : t164 = 1
                · rw [if_pos c14] at H
                  have c14b0 : (t164 == 1) = true := beq_iff_eq.mpr c14
                  have c14b1 : (t164 != 1) = false := bne_eq_false_iff_eq.mpr c14
                  clear c14
                  by_cases c15 : t165 = 0
                  · rw [if_pos c15] at H
                    have c15b0 : (t165 == 0) = true := beq_iff_eq.mpr c15
                    have c15b1 : (t165 != 0) = false := bne_eq_false_iff_eq.mpr c15
                    clear c15
                    obtain rfl := Option.some.inj H
                    go_enter Tryd.func10, Tryd.ntmps10
                    go_wp2_with (first | ((with_reducible refine gate_dst (N := 14) rfl ?_); refine Kd.R_lit (Kd.int .i64) _ 3 ?hg (N := 14) ?hd (xs := ([5, 258, 1, 5] : List Int)) (inner := [.int .i64 5, .int .i64 258, .int .i64 1, .int .i64 5]) (ok := fun _ => True) (okp := fun _ => True) ?hr ?hp (fun _ hk => hk) trivial (Below.refl _ _) (Nat.le_refl _) (by simp) ?_; (case hd => rfl); (case hg => rfl); (case hr => first | (go_simp; done) | (go_simp; rfl)); (case hp => exact (Reps.one (show Kd.M (Kd.int .i64) _ _ _ 5 [.int .i64 5] from rfl) (Reps.one (show Kd.M (Kd.int .i64) _ _ _ 258 [.int .i64 258] from rfl) (Reps.one (show Kd.M (Kd.int .i64) _ _ _ 1 [.int .i64 1] from rfl) (Reps.one (show Kd.M (Kd.int .i64) _ _ _ 5 [.int .i64 5] from rfl) (Reps.none _ _)))))); intro v154 w16 ho17 hb hg_ hnew_; clear hg_ hnew_; (first | rw [← Ny153.out] at ho17 | (simp only [Int.reduceToNat] at ho17; rw [← Ny153.out] at ho17)); have n0_ := ak (Kd.R_lower ho17 (below_size (by repeat (first | (with_reducible first | exact HB.out | apply wA | apply wN | apply wD) | exact HB.out)))); have n1_ := ak (below_step (by repeat (first | (with_reducible first | exact HB.out | apply wA | apply wN | apply wD) | exact HB.out)) hb); clear HB; have HO155 := n0_; have HB := n1_; clear n0_ n1_; clear hb ho17; obtain ⟨Ao18, co18, eo18⟩ := Kd.R_slice HO155.out; subst eo18) | ((with_reducible refine gate_callee (f := 11) rfl ?_); refine goesL_ (some 15) rfl rfl Tryd.func11 (by kernel_rfl) rfl #[.slice Ao18 y153.length co18] rfl (by (try simp only [List.map_toArray, List.map_cons, List.map_nil]); first | done | rfl | (simp only [List.length_drop, List.length_take]; rfl)) ?_; (with_reducible refine (scopes_Of.calls _ _ y153 t156 t157 _ ?side1 ?side2 A1.out).mono ?_); (case side1 => repeat (first | exact (Kd.R_reads' HO155.out).2.2 | (with_reducible refine Kd.C_alloc ?_ _) | (with_reducible refine Kd.C_drewN ?_ _) | (with_reducible refine Kd.C_drew ?_))); (case side2 => exact (Kd.R_reads' HO155.out).2.1); rintro e w19 ⟨rfl, hb⟩; refine ⟨_, rfl, ?_⟩; have n0_ := ak (Kd.R_below (by (with_reducible repeat (first | apply Kd.R_alloc | apply Kd.R_drewN | apply Kd.R_drew)); exact HO155.out) hb); have n1_ := ak (below_step (by repeat (first | (with_reducible first | exact HB.out | apply wA | apply wN | apply wD) | exact HB.out)) hb); clear HO155; clear HB; have HO155 := n0_; have HB := n1_; clear n0_ n1_; (try clear hb); (try clear hb2); (try clear hk); (try clear hi)) | ((with_reducible refine gate_callee (f := 22) rfl ?_); refine goesL_ (some 20) rfl rfl Tryd.func22 (by kernel_rfl) rfl #[.string t156, .int .i64 5] rfl (by (try simp only [List.map_toArray, List.map_cons, List.map_nil]); first | done | rfl | (simp only [List.length_drop, List.length_take]; rfl)) ?_; (with_reducible refine (scopes_Drop.calls t156 5 t158 t159 _ A2.out).mono ?_); rintro e w20 ⟨rfl, hb⟩; refine ⟨_, rfl, ?_⟩; have n0_ := ak (Kd.R_below (by (with_reducible repeat (first | apply Kd.R_alloc | apply Kd.R_drewN | apply Kd.R_drew)); exact HO155.out) hb); have n1_ := ak (below_step (by repeat (first | (with_reducible first | exact HB.out | apply wA | apply wN | apply wD) | exact HB.out)) hb); clear HO155; clear HB; have HO155 := n0_; have HB := n1_; clear n0_ n1_; (try clear hb); (try clear hb2); (try clear hk); (try clear hi)) | ((with_reducible refine gate_callee (f := 24) rfl ?_); refine goesL_ (some 25) rfl rfl Tryd.func24 (by kernel_rfl) rfl #[.string t156, .int .i64 6] rfl (by (try simp only [List.map_toArray, List.map_cons, List.map_nil]); first | done | rfl | (simp only [List.length_drop, List.length_take]; rfl)) ?_; (with_reducible refine (scopes_Flip.calls t156 6 t160 t161 _ A3.out).mono ?_); rintro e w21 ⟨rfl, hb⟩; refine ⟨_, rfl, ?_⟩; have n0_ := ak (Kd.R_below (by (with_reducible repeat (first | apply Kd.R_alloc | apply Kd.R_drewN | apply Kd.R_drew)); exact HO155.out) hb); have n1_ := ak (below_step (by repeat (first | (with_reducible first | exact HB.out | apply wA | apply wN | apply wD) | exact HB.out)) hb); clear HO155; clear HB; have HO155 := n0_; have HB := n1_; clear n0_ n1_; (try clear hb); (try clear hb2); (try clear hk); (try clear hi)) | ((with_reducible refine gate_callee (f := 36) rfl ?_); refine goesL_ (some 30) rfl rfl Tryd.func36 (by kernel_rfl) rfl #[.string t160] rfl (by (try simp only [List.map_toArray, List.map_cons, List.map_nil]); first | done | rfl | (simp only [List.length_drop, List.length_take]; rfl)) ?_; (with_reducible refine (scopes_Print.calls t160 t162 t163 _ A4.out ⟨Sc.Tab.stay HT.out (by repeat (first | (with_reducible first | exact HB.out | apply wA | apply wN | apply wD) | exact HB.out | (refine below_set ?_ (by assumption))))⟩).mono ?_); rintro e w22 ⟨rfl, hb⟩; refine ⟨_, rfl, ?_⟩; have n0_ := ak (Kd.R_below (by (with_reducible repeat (first | apply Kd.R_alloc | apply Kd.R_drewN | apply Kd.R_drew)); exact HO155.out) hb); have n1_ := ak (below_step (by repeat (first | (with_reducible first | exact HB.out | apply wA | apply wN | apply wD) | exact HB.out)) hb); clear HO155; clear HB; have HO155 := n0_; have HB := n1_; clear n0_ n1_; (try clear hb); (try clear hb2); (try clear hk); (try clear hi)) | ((with_reducible refine gate_callee (f := 34) rfl ?_); refine goesL_ (some 35) rfl rfl Tryd.func34 (by kernel_rfl) rfl #[.string (⟨#[0, 1]⟩ : ByteArray), .string t156] rfl (by (try simp only [List.map_toArray, List.map_cons, List.map_nil]); first | done | rfl | (simp only [List.length_drop, List.length_take]; rfl)) ?_; (with_reducible refine (scopes_Relate.calls k (⟨#[0, 1]⟩ : ByteArray) t156 t164 t165 _ A5.out).mono ?_); rintro e w23 ⟨rfl, hb⟩; refine ⟨_, rfl, ?_⟩; have n0_ := ak (Kd.R_below (by (with_reducible repeat (first | apply Kd.R_alloc | apply Kd.R_drewN | apply Kd.R_drew)); exact HO155.out) hb); have n1_ := ak (below_step (by repeat (first | (with_reducible first | exact HB.out | apply wA | apply wN | apply wD) | exact HB.out)) hb); clear HO155; clear HB; have HO155 := n0_; have HB := n1_; clear n0_ n1_; (try clear hb); (try clear hb2); (try clear hk); (try clear hi)) | ((with_reducible refine gate_callee (f := 20) rfl ?_); refine goesL_ (some 40) rfl rfl Tryd.func20 (by kernel_rfl) rfl #[.string t156, .int .i64 65536] rfl (by (try simp only [List.map_toArray, List.map_cons, List.map_nil]); first | done | rfl | (simp only [List.length_drop, List.length_take]; rfl)) ?_; (with_reducible refine (scopes_Add.calls t156 65536 t166 t167 _ A6.out).mono ?_); rintro e w24 ⟨rfl, hb⟩; refine ⟨_, rfl, ?_⟩; have n0_ := ak (Kd.R_below (by (with_reducible repeat (first | apply Kd.R_alloc | apply Kd.R_drewN | apply Kd.R_drew)); exact HO155.out) hb); have n1_ := ak (below_step (by repeat (first | (with_reducible first | exact HB.out | apply wA | apply wN | apply wD) | exact HB.out)) hb); clear HO155; clear HB; have HO155 := n0_; have HB := n1_; clear n0_ n1_; (try clear hb); (try clear hb2); (try clear hk); (try clear hi)))
                    go_ret
                    exact ⟨by first | rfl | (simp [errW_none, errW_some] <;> rfl) | (simp [*, errW_none, errW_some] <;> rfl), by repeat (first | (with_reducible first | exact HB.out | apply wA | apply wN | apply wD) | exact HB.out)⟩
                  · rw [if_neg c15] at H
                    have c15b0 : (t165 == 0) = false := beq_eq_false_iff_ne.mpr c15
                    have c15b1 : (t165 != 0) = true := bne_iff_ne.mpr c15
                    exact absurd ((Option.some.inj H).trans hrt.out) (by decide)
                · rw [if_neg c14] at H
                  have c14b0 : (t164 == 1) = false := beq_eq_false_iff_ne.mpr c14
                  have c14b1 : (t164 != 1) = true := bne_iff_ne.mpr c14
                  exact absurd ((Option.some.inj H).trans hrt.out) (by decide)
              · rw [if_neg c13] at H
                have c13b0 : (t163 == 0) = false := beq_eq_false_iff_ne.mpr c13
                have c13b1 : (t163 != 0) = true := bne_iff_ne.mpr c13
                exact absurd ((Option.some.inj H).trans hrt.out) (by decide)
            · rw [if_neg c12] at H
              have c12b0 : (t162.toList == ([49, 44, 53, 45, 54, 44, 50, 53, 56] : List UInt8)) = false := beq_eq_false_iff_ne.mpr c12
              have c12b1 : (t162.toList != ([49, 44, 53, 45, 54, 44, 50, 53, 56] : List UInt8)) = true := bne_iff_ne.mpr c12
              exact absurd ((Option.some.inj H).trans hrt.out) (by decide)
          · rw [if_neg c11] at H
            have c11b0 : (t161 == 0) = false := beq_eq_false_iff_ne.mpr c11
            have c11b1 : (t161 != 0) = true := bne_iff_ne.mpr c11
            exact absurd ((Option.some.inj H).trans hrt.out) (by decide)
        · rw [if_neg c10] at H
          have c10b0 : (t159 == 0) = false := beq_eq_false_iff_ne.mpr c10
          have c10b1 : (t159 != 0) = true := bne_iff_ne.mpr c10
          exact absurd ((Option.some.inj H).trans hrt.out) (by decide)
      · rw [if_neg c9] at H
        have c9b0 : (t158.toList == ([0, 1, 1, 2] : List UInt8)) = false := beq_eq_false_iff_ne.mpr c9
        have c9b1 : (t158.toList != ([0, 1, 1, 2] : List UInt8)) = true := bne_iff_ne.mpr c9
        exact absurd ((Option.some.inj H).trans hrt.out) (by decide)
    · rw [if_neg c8] at H
      have c8b0 : (t157 == 0) = false := beq_eq_false_iff_ne.mpr c8
      have c8b1 : (t157 != 0) = true := bne_iff_ne.mpr c8
      exact absurd ((Option.some.inj H).trans hrt.out) (by decide)
  · rw [if_neg c7] at H
    have c7b0 : (t156.toList == ([0, 1, 0, 5, 1, 2] : List UInt8)) = false := beq_eq_false_iff_ne.mpr c7
    have c7b1 : (t156.toList != ([0, 1, 0, 5, 1, 2] : List UInt8)) = true := bne_iff_ne.mpr c7
    exact absurd ((Option.some.inj H).trans hrt.out) (by decide)

end Go.Proofs.YtkalbdeopogbpaaDoor.P
