-- Written by wip/tools/myprint.py of this session over the kit's print; Lean checks it.
import Derived.Test.YtkalbdeopogbpaaDoorPx0
import Derived.Test.YtkalbdeopogbpaaDoorPx13
namespace Go.Proofs.YtkalbdeopogbpaaDoor.P
open Go.RowKit Go.Proofs.YtkalbdeopogbpaaDoorW.PrintWords Go.Proofs.YtkalbdeopogbpaaDoorW.PrintLast Go.Proofs.YtkalbdeopogbpaaDoorW.PrintMore
attribute [local go_sem] max2_int min2_int max_two min_two max_three min_three max_four min_four   -- for this text's walks alone
set_option linter.unusedVariables false
set_option linter.unusedSimpArgs false

/-! ### mummerref09_without: function 52 -/
def mummerref09_without.l0 : Nat → ByteArray → ByteArray → Int → Option (ByteArray)
  | 0, _, _, _ => none
  | k + 1, x0, x5, x6 => if x6 < (x0.size : Int) then (if 0 ≤ x6 then (if x6 ≤ (wrap64 (x6 + 2)) then (if (wrap64 (x6 + 2)) ≤ (x0.size : Int) then (if (x0.extract (x6 : Int).toNat ((wrap64 (x6 + 2)) : Int).toNat).toList = x5.toList then (if x6 ≤ (x0.size : Int) then (if 0 ≤ (wrap64 (x6 + 2)) then (if (x0.extract 0 (x6 : Int).toNat).size + (x0.extract ((wrap64 (x6 + 2)) : Int).toNat x0.size).size ≤ 9223372036854775807 then (some ((x0.extract 0 (x6 : Int).toNat) ++ (x0.extract ((wrap64 (x6 + 2)) : Int).toNat x0.size))) else (none)) else (none)) else (none)) else (mummerref09_without.l0 k x0 x5 (wrap64 (x6 + 2)))) else (none)) else (none)) else (none)) else (some x0)
def mummerref09_without.f (k : Nat) (a0 : ByteArray) (a1 : Int) : Option (ByteArray) := (mummerref09_bytes.f a1).bind fun t225 => (mummerref09_without.l0 k a0 t225 0)
theorem mummerref09_without.mono_l : ∀ k, (∀ y0 y1 y2, LeO (mummerref09_without.l0 k y0 y1 y2) (mummerref09_without.l0 (k + 1) y0 y1 y2))
  | 0 => fun _ _ _ r h => by simp [mummerref09_without.l0] at h
  | k + 1 => by
    have ih0 := mummerref09_without.mono_l k
    · intro y0 y1 y2
      unfold mummerref09_without.l0
      repeat' first
      | (with_reducible exact ih0 _ _ _)
      | (with_reducible exact LeO.refl _)
      | (with_reducible exact LeO.none _)
      | (with_reducible refine LeO.ite ?_ ?_)
      | (with_reducible refine LeO.bind ?_ (fun _ => ?_))
      | exact ih0 _ _ _
      | exact LeO.none _
      | refine LeO.ite ?_ ?_
      | refine LeO.bind ?_ (fun _ => ?_)
theorem mummerref09_without.mono : ∀ a0 a1 k, LeO (mummerref09_without.f k a0 a1) (mummerref09_without.f (k + 1) a0 a1) := by
  intro a0 a1 k
  have ih0 := mummerref09_without.mono_l k
  unfold mummerref09_without.f
  repeat' first
      | (with_reducible exact ih0 _ _ _)
      | (with_reducible exact LeO.refl _)
      | (with_reducible exact LeO.none _)
      | (with_reducible refine LeO.ite ?_ ?_)
      | (with_reducible refine LeO.bind ?_ (fun _ => ?_))
      | exact ih0 _ _ _
      | exact LeO.none _
      | refine LeO.ite ?_ ?_
      | refine LeO.bind ?_ (fun _ => ?_)
set_option maxHeartbeats 8000000 in
set_option maxRecDepth 100000 in
theorem mummerref09_without.calls (k : Nat) (a0 : ByteArray) (a1 : Int) (r : ByteArray) (w : World) (h : mummerref09_without.f k a0 a1 = some r) :
    Calls Tryd.prog 52 #[.string a0, .int .i64 a1] w fun e w' => e = .returned (.string r) ∧ Below w.heap.size w w' := by
  have HB := ak (Below.refl w.heap.size w)
  have H : ((mummerref09_bytes.f a1).bind fun t225 => (mummerref09_without.l0 k a0 t225 0)) = some r := h
  clear h
  replace H := Option.bind_eq_some_iff.mp H
  obtain ⟨t225, A30, H⟩ := H
  replace H : (mummerref09_without.l0 k a0 t225 0) = some r := H
  have A3 := ak A30
  clear A30
  have H' := ak H
  clear H
  go_enter Tryd.func52, Tryd.ntmps52
  go_wp2_with (first | (go_at_call 63; (with_reducible refine (mummerref09_bytes.calls a1 t225 _ A3.out).mono ?_); rintro e w4 ⟨rfl, hb⟩; have n0_ := ak (below_step (by repeat (first | (with_reducible first | exact HB.out | apply wA | apply wN | apply wD) | exact HB.out)) hb); clear HB; have HB := n0_; clear n0_; (try clear hb); (try clear hb2); (try clear hk); (try clear hi)))
  repeat (go_quiet (first | (go_at_call 63; (with_reducible refine (mummerref09_bytes.calls a1 t225 _ A3.out).mono ?_); rintro e w4 ⟨rfl, hb⟩; have n0_ := ak (below_step (by repeat (first | (with_reducible first | exact HB.out | apply wA | apply wN | apply wD) | exact HB.out)) hb); clear HB; have HB := n0_; clear n0_; (try clear hb); (try clear hb2); (try clear hk); (try clear hi))); try go_wp2_with (first | (go_at_call 63; (with_reducible refine (mummerref09_bytes.calls a1 t225 _ A3.out).mono ?_); rintro e w4 ⟨rfl, hb⟩; have n0_ := ak (below_step (by repeat (first | (with_reducible first | exact HB.out | apply wA | apply wN | apply wD) | exact HB.out)) hb); clear HB; have HB := n0_; clear n0_; (try clear hb); (try clear hb2); (try clear hk); (try clear hi))))
  go_loopg [6] k (fun kq v6 w' => ∃ (x6_1 : Int), v6 = .int .i64 x6_1 ∧ Aside0 (mummerref09_without.l0 kq a0 t225 x6_1 = some r) ∧ Aside0 (kq ≤ k) ∧ Aside0 (Below w.heap.size w w'))
  case atStart => exact ⟨(0), (by first | rfl | (simp; done) | (simp [*]; done)), H', ⟨Nat.le_refl _⟩, ⟨by repeat (first | (with_reducible first | exact HB.out | apply wA | apply wN | apply wD) | exact HB.out)⟩⟩
  case round =>
    clear H'
    try clear p2
    obtain ⟨x6_1, rfl, HA, HK1, HB⟩ := hrel
    cases gk with
    | zero => exact absurd HA.out (by simp [mummerref09_without.l0])
    | succ k1 =>
      have H := HA.out
      clear HA
      simp only [mummerref09_without.l0] at H
      by_cases c5 : x6_1 < (a0.size : Int)
      · rw [if_pos c5] at H
        have c5b0 : decide (x6_1 < (a0.size : Int)) = true := decide_eq_true c5
        clear c5
        by_cases c6 : 0 ≤ x6_1
        · rw [if_pos c6] at H
          have c6b0 := eq_true c6
          have c6b1 : decide (0 ≤ x6_1) = true := decide_eq_true c6
          clear c6
          by_cases c7 : x6_1 ≤ (wrap64 (x6_1 + 2))
          · rw [if_pos c7] at H
            have c7b0 := eq_true c7
            have c7b1 : decide (x6_1 ≤ (wrap64 (x6_1 + 2))) = true := decide_eq_true c7
            by_cases c8 : (wrap64 (x6_1 + 2)) ≤ (a0.size : Int)
            · rw [if_pos c8] at H
              have c8b0 := eq_true c8
              have c8b1 : decide ((wrap64 (x6_1 + 2)) ≤ (a0.size : Int)) = true := decide_eq_true c8
              by_cases c9 : (a0.extract (x6_1 : Int).toNat ((wrap64 (x6_1 + 2)) : Int).toNat).toList = t225.toList
              · rw [if_pos c9] at H
                have c9b0 : ((a0.extract (x6_1 : Int).toNat ((wrap64 (x6_1 + 2)) : Int).toNat).toList == t225.toList) = true := beq_iff_eq.mpr c9
                have c9b1 : ((a0.extract (x6_1 : Int).toNat ((wrap64 (x6_1 + 2)) : Int).toNat).toList != t225.toList) = false := bne_eq_false_iff_eq.mpr c9
                clear c9
                have c10b0 := eq_true (of_decide_eq_true (by first | (with_reducible assumption) | assumption) : 0 ≤ x6_1)
                by_cases c11 : x6_1 ≤ (a0.size : Int)
                · rw [if_pos c11] at H
                  have c11b0 := eq_true c11
                  have c11b1 : decide (x6_1 ≤ (a0.size : Int)) = true := decide_eq_true c11
                  clear c11
                  obtain ⟨ji12, hji12⟩ : ∃ j_ : Int, (wrap64 (x6_1 + 2)) = j_ := ⟨_, rfl⟩
                  replace H : (if 0 ≤ (ji12) then (if (a0.extract 0 (x6_1 : Int).toNat).size + (a0.extract ((ji12) : Int).toNat a0.size).size ≤ 9223372036854775807 then (some ((a0.extract 0 (x6_1 : Int).toNat) ++ (a0.extract ((ji12) : Int).toNat a0.size))) else (none)) else (none)) = some r := by first | (rw [hji12] at H; exact H) | (simp only [hji12] at H ⊢; exact H)
                  (try rw [hji12] at c7b0)
                  (try rw [hji12] at c7b1)
                  (try rw [hji12] at c7)
                  (try rw [hji12] at c8b0)
                  (try rw [hji12] at c8b1)
                  (try rw [hji12] at c8)
                  (try rw [hji12] at c9b0)
                  (try rw [hji12] at c9b1)
                  have hji12w : (IntKind.i64.wrap (x6_1 + 2)) = ji12 := (i64_w _).trans hji12
                  by_cases c13 : 0 ≤ (ji12)
                  · rw [if_pos c13] at H
                    have c13b0 := eq_true c13
                    have c13b1 : decide (0 ≤ (ji12)) = true := decide_eq_true c13
                    clear c13
                    have c14b0 := eq_true (of_decide_eq_true (by first | (with_reducible assumption) | assumption) : (ji12) ≤ (a0.size : Int))
                    by_cases c15 : (a0.extract 0 (x6_1 : Int).toNat).size + (a0.extract ((ji12) : Int).toNat a0.size).size ≤ 9223372036854775807
                    · rw [if_pos c15] at H
                      have c15b0 := eq_true c15
                      have c15b1 : decide ((a0.extract 0 (x6_1 : Int).toNat).size + (a0.extract ((ji12) : Int).toNat a0.size).size ≤ 9223372036854775807) = true := decide_eq_true c15
                      try have c15b2 : (9223372036854775807 < (a0.extract 0 (x6_1 : Int).toNat).size + (a0.extract ((ji12) : Int).toNat a0.size).size) = False := eq_false (Nat.not_lt.2 c15)
                      obtain rfl := Option.some.inj H
                      go_wp2
                      repeat (go_quiet (fail); try go_wp2)
                      go_ret
                      exact ⟨by first | rfl | (simp [errW_none, errW_some] <;> rfl) | (simp only [← hji12]; first | rfl | (simp [errW_none, errW_some] <;> rfl)) | (simp [*, errW_none, errW_some] <;> rfl), by repeat (first | (with_reducible first | exact HB.out | apply wA | apply wN | apply wD) | exact HB.out)⟩
                    · rw [if_neg c15] at H
                      exact absurd H (by simp)
                  · rw [if_neg c13] at H
                    exact absurd H (by simp)
                · rw [if_neg c11] at H
                  exact absurd H (by simp)
              · rw [if_neg c9] at H
                have c9b0 : ((a0.extract (x6_1 : Int).toNat ((wrap64 (x6_1 + 2)) : Int).toNat).toList == t225.toList) = false := beq_eq_false_iff_ne.mpr c9
                have c9b1 : ((a0.extract (x6_1 : Int).toNat ((wrap64 (x6_1 + 2)) : Int).toNat).toList != t225.toList) = true := bne_iff_ne.mpr c9
                have H' := ak H
                clear H
                go_wp2
                repeat (go_quiet (fail); try go_wp2)
                go_roundg k1
                case measure => have := HK1.out; omega
                case rel => exact ⟨(wrap64 (x6_1 + 2)), (by first | rfl | (simp; done) | (simp [*]; done)), H', ⟨by have := HK1.out; omega⟩, ⟨by repeat (first | (with_reducible first | exact HB.out | apply wA | apply wN | apply wD) | exact HB.out)⟩⟩
            · rw [if_neg c8] at H
              exact absurd H (by simp)
          · rw [if_neg c7] at H
            exact absurd H (by simp)
        · rw [if_neg c6] at H
          exact absurd H (by simp)
      · rw [if_neg c5] at H
        have c5b0 : decide (x6_1 < (a0.size : Int)) = false := decide_eq_false c5
        clear c5
        obtain rfl := Option.some.inj H
        go_wp2
        repeat (go_quiet (fail); try go_wp2)
        go_ret
        exact ⟨by first | rfl | (simp [errW_none, errW_some] <;> rfl) | (simp [*, errW_none, errW_some] <;> rfl), by repeat (first | (with_reducible first | exact HB.out | apply wA | apply wN | apply wD) | exact HB.out)⟩

end Go.Proofs.YtkalbdeopogbpaaDoor.P
