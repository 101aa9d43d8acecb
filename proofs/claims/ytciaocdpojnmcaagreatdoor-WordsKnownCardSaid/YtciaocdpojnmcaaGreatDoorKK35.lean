import Derived.Test.YtciaocdpojnmcaaGreatDoorKK34
namespace Go.Proofs.YtciaocdpojnmcaaGreatDoor.P
open Go.RowKit Go.Proofs.YtciaocdpojnmcaaGreatDoorW.PrintWords Go.Proofs.YtciaocdpojnmcaaGreatDoorW.PrintLast Go.Proofs.YtciaocdpojnmcaaGreatDoorW.PrintMore
attribute [local go_sem] max2_int min2_int max_two min_two max_three min_three max_four min_four   -- for this text's walks alone
set_option linter.unusedVariables false
set_option linter.unusedSimpArgs false
mutual
def words_ParseList.l0 : Nat → ByteArray → List (S76) → List ByteArray → Int → Int → Option (List Int × Int)
  | 0, _, _, _, _, _ => none
  | k + 1, x4, x5, x22, x23, x24 => if x24 < x23 then (if 0 ≤ x24 then (if x24 < (x22.length : Int) then ((strings_Cut.f (rdOf ByteArray.empty x22 x24) (⟨#[45]⟩ : ByteArray)).bind fun bt147 => (if bt147.2.2 = true then (words_ParseList.j1 k x4 x5 x24 bt147.1 bt147.2.1 bt147.2.2 x22 x23 x24) else (words_ParseList.j1 k x4 x5 x24 bt147.1 bt147.1 bt147.2.2 x22 x23 x24))) else (none)) else (none)) else ((strconv_Itoa_30.f 1000000000).bind fun t167 => ((words_compare.f x4 t167).bind fun t168 => (if t168 > 0 then (some (([] : List Int), 7)) else (words_ParseList.l1 k ([] : List Int) x5 (x5.length : Int) 0))))
def words_ParseList.j1 : Nat → ByteArray → List (S76) → Int → ByteArray → ByteArray → Bool → List ByteArray → Int → Int → Option (List Int × Int)
  | 0, _, _, _, _, _, _, _, _, _ => none
  | k + 1, x4, x5, x6, x8, x9, x10, x22, x23, x24 => (words_isDecimal.f x8).bind fun t150 => (if t150 = true then ((words_isDecimal.f x9).bind fun t151 => (if t151 = true then (if 0 < (x9.size : Int) then (if (bt x9 0) = 45 then (some (([] : List Int), 6)) else (if x10 = true then ((words_compare.f x8 x9).bind fun t152 => (if t152 ≥ 0 then (some (([] : List Int), 6)) else (if x6 > 0 then ((words_follows.f x4 x8).bind fun t153 => (if t153 = true then (if x5.length < 4398046511104 then (words_ParseList.l0 k x9 (x5 ++ [(⟨x8, x9⟩ : S76)]) x22 x23 (wrap64 (x24 + 1))) else (none)) else (some (([] : List Int), 6)))) else (if x5.length < 4398046511104 then (words_ParseList.l0 k x9 (x5 ++ [(⟨x8, x9⟩ : S76)]) x22 x23 (wrap64 (x24 + 1))) else (none))))) else (if x6 > 0 then ((words_follows.f x4 x8).bind fun t160 => (if t160 = true then (if x5.length < 4398046511104 then (words_ParseList.l0 k x9 (x5 ++ [(⟨x8, x9⟩ : S76)]) x22 x23 (wrap64 (x24 + 1))) else (none)) else (some (([] : List Int), 6)))) else (if x5.length < 4398046511104 then (words_ParseList.l0 k x9 (x5 ++ [(⟨x8, x9⟩ : S76)]) x22 x23 (wrap64 (x24 + 1))) else (none))))) else (none)) else (some (([] : List Int), 6)))) else (some (([] : List Int), 6)))
def words_ParseList.l1 : Nat → List Int → List (S76) → Int → Int → Option (List Int × Int)
  | 0, _, _, _, _ => none
  | k + 1, x11, x82, x83, x84 => if x84 < x83 then (if 0 ≤ x84 then (if x84 < (x82.length : Int) then ((strconv_Atoi_37.f ((rd_T76 x82 x84).f0)).bind fun bt171 => ((strconv_Atoi_37.f ((rd_T76 x82 x84).f1)).bind fun bt173 => (if (wrap64 (bt173.1 - bt171.1)) ≥ (wrap64 (500 - (x11.length : Int))) then (some (([] : List Int), 3)) else (words_ParseList.l2 k x11 bt173.1 bt171.1 x82 x83 x84)))) else (none)) else (none)) else (some (x11, 0))
def words_ParseList.l2 : Nat → List Int → Int → Int → List (S76) → Int → Int → Option (List Int × Int)
  | 0, _, _, _, _, _, _ => none
  | k + 1, x11, x16, x18, x82, x83, x84 => if x18 ≤ x16 then (if x11.length < 17592186044416 then (words_ParseList.l2 k (x11 ++ [x18]) x16 (wrap64 (x18 + 1)) x82 x83 x84) else (none)) else (words_ParseList.l1 k x11 x82 x83 (wrap64 (x84 + 1)))
end
def words_ParseList.f (k : Nat) (a0 : ByteArray) : Option (List Int × Int) := if a0.toList = ([45] : List UInt8) then (some (([] : List Int), 0)) else ((strings_Split.f a0 (⟨#[44]⟩ : ByteArray)).bind fun t143 => (words_ParseList.l0 k (⟨#[]⟩ : ByteArray) ([] : List (S76)) t143 (t143.length : Int) 0))
set_option maxHeartbeats 8000000 in
set_option maxRecDepth 100000 in
theorem words_ParseList.calls (k : Nat) (a0 : ByteArray) (r1 : List Int) (r2 : Int) (w : World) (h : words_ParseList.f k a0 = some (r1, r2)) (HT : Aside0 (Wd.All w)) :
    Calls Tryz.prog 14 #[.string a0] w fun e w' => ∃ v0_ : Value, e = .returned (.tuple #[v0_, .int .i64 r2]) ∧ Kd.R (Kd.int .i64) 3 w' w.heap.size (fun _ => True) v0_ r1 ∧ Below w.heap.size w w' := by
  have hu76 := Tryz.underlying76
  have HB := ak (Below.refl w.heap.size w)
  have H : (if a0.toList = ([45] : List UInt8) then (some (([] : List Int), 0)) else ((strings_Split.f a0 (⟨#[44]⟩ : ByteArray)).bind fun t143 => (words_ParseList.l0 k (⟨#[]⟩ : ByteArray) ([] : List (S76)) t143 (t143.length : Int) 0))) = some (r1, r2) := h
  clear h
  by_cases c2 : a0.toList = ([45] : List UInt8)
  · rw [if_pos c2] at H
    have c2b0 : (a0.toList == ([45] : List UInt8)) = true := beq_iff_eq.mpr c2
    have c2b1 : (a0.toList != ([45] : List UInt8)) = false := bne_eq_false_iff_eq.mpr c2
    clear c2
    simp only [Option.some.injEq, Prod.mk.injEq] at H
    obtain ⟨rfl, rfl⟩ := H
    go_enter Tryz.func14, Tryz.ntmps14
    go_wp2
    go_ret2
    exact ⟨_, by first | rfl | (simp [errW_none, errW_some] <;> rfl) | (simp [*, errW_none, errW_some] <;> rfl), by first | exact Kd.R_nil _ _ _ _ _ | exact Kd.N_nil _ _ _ _ _ | exact Kd.V_nil _ _ _ _ _ | exact Kd.Q_nil _ _ _ _ _ | exact Kd.S_nil _ _ _ _ _, by repeat (first | (with_reducible first | exact HB.out | apply wA | apply wN | apply wD) | exact HB.out)⟩
  · rw [if_neg c2] at H
    have c2b0 : (a0.toList == ([45] : List UInt8)) = false := beq_eq_false_iff_ne.mpr c2
    have c2b1 : (a0.toList != ([45] : List UInt8)) = true := bne_iff_ne.mpr c2
    replace H := Option.bind_eq_some_iff.mp H
    obtain ⟨t143, A30, H⟩ := H
    replace H : (words_ParseList.l0 k (⟨#[]⟩ : ByteArray) ([] : List (S76)) t143 (t143.length : Int) 0) = some (r1, r2) := H
    have A3 := ak A30
    clear A30
    have H' := ak H
    clear H
    go_enter Tryz.func14, Tryz.ntmps14
    go_wp2_with (first | ((with_reducible refine gate_callee (f := 32) rfl ?_); refine goesL_ (some 22) rfl rfl Tryz.func32 (by kernel_rfl) rfl #[.string a0, .string (⟨#[44]⟩ : ByteArray)] rfl (by (try simp only [List.map_toArray, List.map_cons, List.map_nil]); first | done | rfl | (simp only [List.length_drop, List.length_take]; rfl)) ?_; (with_reducible refine (strings_Split.calls a0 (⟨#[44]⟩ : ByteArray) t143 _ A3.out ⟨Wd.All.stay HT.out (by repeat (first | (with_reducible first | exact HB.out | apply wA | apply wN | apply wD) | exact HB.out | (refine below_set ?_ (by assumption)) | (refine below_set ?_ (Aside0.out (by assumption)))))⟩).mono ?_); rintro e w4 ⟨v144, rfl, ho0, hb⟩; refine ⟨_, rfl, ?_⟩; have n0_ := ak (Kd.R_lower ho0 (below_size (by repeat (first | (with_reducible first | exact HB.out | apply wA | apply wN | apply wD) | exact HB.out)))); have n1_ := ak (below_step (by repeat (first | (with_reducible first | exact HB.out | apply wA | apply wN | apply wD) | exact HB.out)) hb); clear HB; have HO145 := n0_; have HB := n1_; clear n0_ n1_; (try clear hb); (try clear hb2); (try clear hk); (try clear hi); (try clear ho0); obtain ⟨Ao5, co5, eo5⟩ := Kd.R_slice HO145.out; subst eo5))
    go_loopg [4, 5, 24] k (fun kq v4 v5 v24 w' => ∃ (x4_1 : ByteArray) (x5_1 : List (S76)) (x24_1 : Int), v4 = .string x4_1 ∧ v24 = .int .i64 x24_1 ∧ Aside0 (words_ParseList.l0 kq x4_1 x5_1 t143 (t143.length : Int) x24_1 = some (r1, r2)) ∧ Aside0 (kq ≤ k) ∧ Aside0 (Kd.R k76 76 w' w.heap.size (fun _ => True) v5 x5_1) ∧ Aside0 (Kd.R Kd.string 9 w' w.heap.size (fun _ => True) (.slice Ao5 t143.length co5) t143) ∧ Aside0 (Below w.heap.size w w'))
    case atStart => exact ⟨((⟨#[]⟩ : ByteArray)), (([] : List (S76))), (0), (by first | rfl | (simp; done) | (simp [*]; done)), (by first | rfl | (simp; done) | (simp [*]; done)), H', ⟨Nat.le_refl _⟩, ⟨by first | exact Kd.R_nil _ _ _ _ _ | exact Kd.N_nil _ _ _ _ _ | exact Kd.V_nil _ _ _ _ _ | exact Kd.Q_nil _ _ _ _ _ | exact Kd.S_nil _ _ _ _ _⟩, ⟨by (with_reducible repeat (first | apply Kd.R_alloc | apply Kd.R_drewN | apply Kd.R_drew)); exact HO145.out⟩, ⟨by repeat (first | (with_reducible first | exact HB.out | apply wA | apply wN | apply wD) | exact HB.out)⟩⟩
    case round =>
      clear H'
      try clear c1
      try clear c2
      try clear c2b0
      try clear c2b1
      try clear p2
      try clear c3
      obtain ⟨x4_1, x5_1, x24_1, rfl, rfl, HA, HK1, HO_5, HO_22, HB⟩ := hrel
      cases gk with
      | zero => exact absurd HA.out (by simp [words_ParseList.l0])
      | succ k1 =>
        have H := HA.out
        clear HA
        simp only [words_ParseList.l0] at H
        by_cases c6 : x24_1 < (t143.length : Int)
        · rw [if_pos c6] at H
          have c6b0 : decide (x24_1 < (t143.length : Int)) = true := decide_eq_true c6
          clear c6
          by_cases c7 : 0 ≤ x24_1
          · rw [if_pos c7] at H
            have c7b0 : decide (0 ≤ x24_1) = true := decide_eq_true c7
            clear c7
            by_cases c8 : x24_1 < (t143.length : Int)
            · rw [if_pos c8] at H
              have c8b0 : decide (x24_1 < (t143.length : Int)) = true := decide_eq_true c8
              clear c8
              replace H := Option.bind_eq_some_iff.mp H
              obtain ⟨⟨t147, t148, t149⟩, A90, H⟩ := H
              replace H : (if t149 = true then (words_ParseList.j1 k1 x4_1 x5_1 x24_1 t147 t148 t149 t143 (t143.length : Int) x24_1) else (words_ParseList.j1 k1 x4_1 x5_1 x24_1 t147 t147 t149 t143 (t143.length : Int) x24_1)) = some (r1, r2) := H
              have A9 := ak A90
              clear A90
              have HC10 := ak H
              clear H
              have p146 : 0 ≤ (x24_1 : Int) := of_decide_eq_true (by first | (with_reducible assumption) | assumption)
              have q146 : x24_1 < (t143.length : Int) := of_decide_eq_true (by first | (with_reducible assumption) | assumption)
              obtain ⟨ad146, e146, hx146_0⟩ := Kd.at_string (Kd.R_reads' HO_22.out).2.2 x24_1 p146 q146
              cases e146
              replace p146 := eq_true p146
              replace q146 := eq_true q146
              go_upto_if 36 with (first | ((with_reducible refine gate_callee (f := 33) rfl ?_); refine goesL_ (some 31) rfl rfl Tryz.func33 (by kernel_rfl) rfl #[.string (rdOf ByteArray.empty t143 x24_1), .string (⟨#[45]⟩ : ByteArray)] rfl (by (try simp only [List.map_toArray, List.map_cons, List.map_nil]); first | done | rfl | (simp only [List.length_drop, List.length_take]; rfl)) ?_; (with_reducible refine (strings_Cut.calls (rdOf ByteArray.empty t143 x24_1) (⟨#[45]⟩ : ByteArray) t147 t148 t149 _ A9.out).mono ?_); rintro e w11 ⟨rfl, hb⟩; refine ⟨_, rfl, ?_⟩; have n0_ := ak (Kd.R_below (by (with_reducible repeat (first | apply Kd.R_alloc | apply Kd.R_drewN | apply Kd.R_drew)); exact HO_5.out) hb); have n1_ := ak (Kd.R_below (by (with_reducible repeat (first | apply Kd.R_alloc | apply Kd.R_drewN | apply Kd.R_drew)); exact HO_22.out) hb); have n2_ := ak (below_step (by repeat (first | (with_reducible first | exact HB.out | apply wA | apply wN | apply wD) | exact HB.out)) hb); clear HO_5; clear HO_22; clear HB; have HO_5 := n0_; have HO_22 := n1_; have HB := n2_; clear n0_ n1_ n2_; (try clear hb); (try clear hb2); (try clear hk); (try clear hi)))
              (try simp only [Act.put, List.setIfInBounds_toArray, List.set_cons_zero, List.set_cons_succ])
              go_cut [9] (fun v9 wc => ∃ (kq : Nat) (x9_9 : ByteArray), v9 = .string x9_9 ∧ Aside0 (words_ParseList.j1 kq x4_1 x5_1 x24_1 t147 x9_9 t149 t143 (t143.length : Int) x24_1 = some (r1, r2)) ∧ Aside0 (kq ≤ k1) ∧ Aside0 (Kd.R k76 76 wc w.heap.size (fun _ => True) u5 x5_1) ∧ Aside0 (Kd.R Kd.string 9 wc w.heap.size (fun _ => True) (.slice (some ad146) t143.length co5) t143) ∧ Aside0 (Below w.heap.size w wc))
              case first =>
                have H := HC10.out
                clear HC10
                by_cases c12 : t149 = true
                · subst c12
                  have H1 : (words_ParseList.j1 k1 x4_1 x5_1 x24_1 t147 t148 true t143 (t143.length : Int) x24_1) = some (r1, r2) := by rw [if_pos rfl] at H; exact H
                  clear H
                  have H := H1
                  clear H1
                  have H' := ak H
                  clear H
                  go_wp2
                  go_meet
                  case rel => exact ⟨_, (t148), (by first | rfl | (simp; done) | (simp [*]; done)), H', ⟨by have := HK1.out; first | omega | exact Nat.le_refl _⟩, ⟨by (with_reducible repeat (first | apply Kd.R_alloc | apply Kd.R_drewN | apply Kd.R_drew)); exact HO_5.out⟩, ⟨by (with_reducible repeat (first | apply Kd.R_alloc | apply Kd.R_drewN | apply Kd.R_drew)); exact HO_22.out⟩, ⟨by repeat (first | (with_reducible first | exact HB.out | apply wA | apply wN | apply wD) | exact HB.out)⟩⟩
                · replace c12 := Bool.eq_false_iff.mpr c12
                  subst c12
                  have H1 : (words_ParseList.j1 k1 x4_1 x5_1 x24_1 t147 t147 false t143 (t143.length : Int) x24_1) = some (r1, r2) := by rw [if_neg (show ¬ (false = true) by decide)] at H; exact H
                  clear H
                  have H := H1
                  clear H1
                  have H' := ak H
                  clear H
                  go_wp2
                  go_meet
                  case rel => exact ⟨_, (t147), (by first | rfl | (simp; done) | (simp [*]; done)), H', ⟨by have := HK1.out; first | omega | exact Nat.le_refl _⟩, ⟨by (with_reducible repeat (first | apply Kd.R_alloc | apply Kd.R_drewN | apply Kd.R_drew)); exact HO_5.out⟩, ⟨by (with_reducible repeat (first | apply Kd.R_alloc | apply Kd.R_drewN | apply Kd.R_drew)); exact HO_22.out⟩, ⟨by repeat (first | (with_reducible first | exact HB.out | apply wA | apply wN | apply wD) | exact HB.out)⟩⟩
              case rest =>
                clear HC10
                try clear c1
                try clear p1
                try clear q1
                try clear hx1
                try clear c2
                try clear c2b0
                try clear c2b1
                try clear p2
                try clear c3
                try clear c6
                try clear c6b0
                try clear c7
                try clear c7b0
                try clear c8
                try clear c8b0
                try clear c12
                try clear hx146_0
                try clear p146
                try clear p2
                try clear q146
                obtain ⟨kq, x9_9, rfl, HA, HJ9, HO_5, HO_22, HB⟩ := hcut
                cases kq with
                | zero => exact absurd HA.out (by simp [words_ParseList.j1])
                | succ kj9 =>
                  have H := HA.out
                  clear HA
                  simp only [words_ParseList.j1] at H
                  replace H := Option.bind_eq_some_iff.mp H
                  obtain ⟨t150, A130, H⟩ := H
                  replace H : (if t150 = true then ((words_isDecimal.f x9_9).bind fun t151 => (if t151 = true then (if 0 < (x9_9.size : Int) then (if (bt x9_9 0) = 45 then (some (([] : List Int), 6)) else (if t149 = true then ((words_compare.f t147 x9_9).bind fun t152 => (if t152 ≥ 0 then (some (([] : List Int), 6)) else (if x24_1 > 0 then ((words_follows.f x4_1 t147).bind fun t153 => (if t153 = true then (if x5_1.length < 4398046511104 then (words_ParseList.l0 kj9 x9_9 (x5_1 ++ [(⟨t147, x9_9⟩ : S76)]) t143 (t143.length : Int) (wrap64 (x24_1 + 1))) else (none)) else (some (([] : List Int), 6)))) else (if x5_1.length < 4398046511104 then (words_ParseList.l0 kj9 x9_9 (x5_1 ++ [(⟨t147, x9_9⟩ : S76)]) t143 (t143.length : Int) (wrap64 (x24_1 + 1))) else (none))))) else (if x24_1 > 0 then ((words_follows.f x4_1 t147).bind fun t160 => (if t160 = true then (if x5_1.length < 4398046511104 then (words_ParseList.l0 kj9 x9_9 (x5_1 ++ [(⟨t147, x9_9⟩ : S76)]) t143 (t143.length : Int) (wrap64 (x24_1 + 1))) else (none)) else (some (([] : List Int), 6)))) else (if x5_1.length < 4398046511104 then (words_ParseList.l0 kj9 x9_9 (x5_1 ++ [(⟨t147, x9_9⟩ : S76)]) t143 (t143.length : Int) (wrap64 (x24_1 + 1))) else (none))))) else (none)) else (some (([] : List Int), 6)))) else (some (([] : List Int), 6))) = some (r1, r2) := H
                  have A13 := ak A130
                  clear A130
                  by_cases c14 : t150 = true
                  · subst c14
                    have H1 : ((words_isDecimal.f x9_9).bind fun t151 => (if t151 = true then (if 0 < (x9_9.size : Int) then (if (bt x9_9 0) = 45 then (some (([] : List Int), 6)) else (if t149 = true then ((words_compare.f t147 x9_9).bind fun t152 => (if t152 ≥ 0 then (some (([] : List Int), 6)) else (if x24_1 > 0 then ((words_follows.f x4_1 t147).bind fun t153 => (if t153 = true then (if x5_1.length < 4398046511104 then (words_ParseList.l0 kj9 x9_9 (x5_1 ++ [(⟨t147, x9_9⟩ : S76)]) t143 (t143.length : Int) (wrap64 (x24_1 + 1))) else (none)) else (some (([] : List Int), 6)))) else (if x5_1.length < 4398046511104 then (words_ParseList.l0 kj9 x9_9 (x5_1 ++ [(⟨t147, x9_9⟩ : S76)]) t143 (t143.length : Int) (wrap64 (x24_1 + 1))) else (none))))) else (if x24_1 > 0 then ((words_follows.f x4_1 t147).bind fun t160 => (if t160 = true then (if x5_1.length < 4398046511104 then (words_ParseList.l0 kj9 x9_9 (x5_1 ++ [(⟨t147, x9_9⟩ : S76)]) t143 (t143.length : Int) (wrap64 (x24_1 + 1))) else (none)) else (some (([] : List Int), 6)))) else (if x5_1.length < 4398046511104 then (words_ParseList.l0 kj9 x9_9 (x5_1 ++ [(⟨t147, x9_9⟩ : S76)]) t143 (t143.length : Int) (wrap64 (x24_1 + 1))) else (none))))) else (none)) else (some (([] : List Int), 6)))) = some (r1, r2) := by rw [if_pos rfl] at H; exact H
                    clear H
                    have H := H1
                    clear H1
                    replace H := Option.bind_eq_some_iff.mp H
                    obtain ⟨t151, A150, H⟩ := H
                    replace H : (if t151 = true then (if 0 < (x9_9.size : Int) then (if (bt x9_9 0) = 45 then (some (([] : List Int), 6)) else (if t149 = true then ((words_compare.f t147 x9_9).bind fun t152 => (if t152 ≥ 0 then (some (([] : List Int), 6)) else (if x24_1 > 0 then ((words_follows.f x4_1 t147).bind fun t153 => (if t153 = true then (if x5_1.length < 4398046511104 then (words_ParseList.l0 kj9 x9_9 (x5_1 ++ [(⟨t147, x9_9⟩ : S76)]) t143 (t143.length : Int) (wrap64 (x24_1 + 1))) else (none)) else (some (([] : List Int), 6)))) else (if x5_1.length < 4398046511104 then (words_ParseList.l0 kj9 x9_9 (x5_1 ++ [(⟨t147, x9_9⟩ : S76)]) t143 (t143.length : Int) (wrap64 (x24_1 + 1))) else (none))))) else (if x24_1 > 0 then ((words_follows.f x4_1 t147).bind fun t160 => (if t160 = true then (if x5_1.length < 4398046511104 then (words_ParseList.l0 kj9 x9_9 (x5_1 ++ [(⟨t147, x9_9⟩ : S76)]) t143 (t143.length : Int) (wrap64 (x24_1 + 1))) else (none)) else (some (([] : List Int), 6)))) else (if x5_1.length < 4398046511104 then (words_ParseList.l0 kj9 x9_9 (x5_1 ++ [(⟨t147, x9_9⟩ : S76)]) t143 (t143.length : Int) (wrap64 (x24_1 + 1))) else (none))))) else (none)) else (some (([] : List Int), 6))) = some (r1, r2) := H
                    have A15 := ak A150
                    clear A150
                    by_cases c16 : t151 = true
                    · subst c16
                      have H1 : (if 0 < (x9_9.size : Int) then (if (bt x9_9 0) = 45 then (some (([] : List Int), 6)) else (if t149 = true then ((words_compare.f t147 x9_9).bind fun t152 => (if t152 ≥ 0 then (some (([] : List Int), 6)) else (if x24_1 > 0 then ((words_follows.f x4_1 t147).bind fun t153 => (if t153 = true then (if x5_1.length < 4398046511104 then (words_ParseList.l0 kj9 x9_9 (x5_1 ++ [(⟨t147, x9_9⟩ : S76)]) t143 (t143.length : Int) (wrap64 (x24_1 + 1))) else (none)) else (some (([] : List Int), 6)))) else (if x5_1.length < 4398046511104 then (words_ParseList.l0 kj9 x9_9 (x5_1 ++ [(⟨t147, x9_9⟩ : S76)]) t143 (t143.length : Int) (wrap64 (x24_1 + 1))) else (none))))) else (if x24_1 > 0 then ((words_follows.f x4_1 t147).bind fun t160 => (if t160 = true then (if x5_1.length < 4398046511104 then (words_ParseList.l0 kj9 x9_9 (x5_1 ++ [(⟨t147, x9_9⟩ : S76)]) t143 (t143.length : Int) (wrap64 (x24_1 + 1))) else (none)) else (some (([] : List Int), 6)))) else (if x5_1.length < 4398046511104 then (words_ParseList.l0 kj9 x9_9 (x5_1 ++ [(⟨t147, x9_9⟩ : S76)]) t143 (t143.length : Int) (wrap64 (x24_1 + 1))) else (none))))) else (none)) = some (r1, r2) := by rw [if_pos rfl] at H; exact H
                      clear H
                      have H := H1
                      clear H1
                      by_cases c17 : 0 < (x9_9.size : Int)
                      · rw [if_pos c17] at H
                        have c17b0 : decide (0 < (x9_9.size : Int)) = true := decide_eq_true c17
                        have c17b1 : decide (0 < x9_9.size) = true := decide_eq_true (by omega)
                        clear c17
                        by_cases c19 : (bt x9_9 0) = 45
                        · rw [if_pos c19] at H
                          have c19b0 : ((bt x9_9 0) == 45) = true := beq_iff_eq.mpr c19
                          have c19b1 : ((bt x9_9 0) != 45) = false := bne_eq_false_iff_eq.mpr c19
                          clear c19
                          simp only [Option.some.injEq, Prod.mk.injEq] at H
                          obtain ⟨rfl, rfl⟩ := H
                          go_wp2_with (first | ((with_reducible refine gate_callee (f := 34) rfl ?_); refine goesL_ (some 39) rfl rfl Tryz.func34 (by kernel_rfl) rfl #[.string t147] rfl (by (try simp only [List.map_toArray, List.map_cons, List.map_nil]); first | done | rfl | (simp only [List.length_drop, List.length_take]; rfl)) ?_; (with_reducible refine (words_isDecimal.calls t147 true _ A13.out).mono ?_); rintro e w20 ⟨rfl, hb⟩; refine ⟨_, rfl, ?_⟩; have n0_ := ak (Kd.R_below (by (with_reducible repeat (first | apply Kd.R_alloc | apply Kd.R_drewN | apply Kd.R_drew)); exact HO_5.out) hb); have n1_ := ak (Kd.R_below (by (with_reducible repeat (first | apply Kd.R_alloc | apply Kd.R_drewN | apply Kd.R_drew)); exact HO_22.out) hb); have n2_ := ak (below_step (by repeat (first | (with_reducible first | exact HB.out | apply wA | apply wN | apply wD) | exact HB.out)) hb); clear HO_5; clear HO_22; clear HB; have HO_5 := n0_; have HO_22 := n1_; have HB := n2_; clear n0_ n1_ n2_; (try clear hb); (try clear hb2); (try clear hk); (try clear hi)) | (go_at_call 34; (with_reducible refine (words_isDecimal.calls x9_9 true _ A15.out).mono ?_); rintro e w21 ⟨rfl, hb⟩; have n0_ := ak (Kd.R_below (by (with_reducible repeat (first | apply Kd.R_alloc | apply Kd.R_drewN | apply Kd.R_drew)); exact HO_5.out) hb); have n1_ := ak (Kd.R_below (by (with_reducible repeat (first | apply Kd.R_alloc | apply Kd.R_drewN | apply Kd.R_drew)); exact HO_22.out) hb); have n2_ := ak (below_step (by repeat (first | (with_reducible first | exact HB.out | apply wA | apply wN | apply wD) | exact HB.out)) hb); clear HO_5; clear HO_22; clear HB; have HO_5 := n0_; have HO_22 := n1_; have HB := n2_; clear n0_ n1_ n2_; (try clear hb); (try clear hb2); (try clear hk); (try clear hi); have p18 : 0 ≤ (0 : Int) := (by omega); have q18 : 0 < x9_9.size := (by have : (0 : Int) < (x9_9.size : Int) := of_decide_eq_true (by first | (with_reducible assumption) | assumption); omega); have hx18 : ∀ h : 0 < x9_9.size, ((x9_9[0]'h).toNat : Int) = bt x9_9 0 := bt_at x9_9 0; clear p18; have qi18 : (0 < (x9_9.size : Int)) = True := eq_true (of_decide_eq_true (by first | (with_reducible assumption) | assumption)); replace q18 := eq_true q18))
                          go_ret2
                          exact ⟨_, by first | rfl | (simp [errW_none, errW_some] <;> rfl) | (simp [*, errW_none, errW_some] <;> rfl), by first | exact Kd.R_nil _ _ _ _ _ | exact Kd.N_nil _ _ _ _ _ | exact Kd.V_nil _ _ _ _ _ | exact Kd.Q_nil _ _ _ _ _ | exact Kd.S_nil _ _ _ _ _, by repeat (first | (with_reducible first | exact HB.out | apply wA | apply wN | apply wD) | exact HB.out)⟩
                        · rw [if_neg c19] at H
                          have c19b0 : ((bt x9_9 0) == 45) = false := beq_eq_false_iff_ne.mpr c19
                          have c19b1 : ((bt x9_9 0) != 45) = true := bne_iff_ne.mpr c19
                          by_cases c22 : t149 = true
                          · subst c22
                            have H1 : ((words_compare.f t147 x9_9).bind fun t152 => (if t152 ≥ 0 then (some (([] : List Int), 6)) else (if x24_1 > 0 then ((words_follows.f x4_1 t147).bind fun t153 => (if t153 = true then (if x5_1.length < 4398046511104 then (words_ParseList.l0 kj9 x9_9 (x5_1 ++ [(⟨t147, x9_9⟩ : S76)]) t143 (t143.length : Int) (wrap64 (x24_1 + 1))) else (none)) else (some (([] : List Int), 6)))) else (if x5_1.length < 4398046511104 then (words_ParseList.l0 kj9 x9_9 (x5_1 ++ [(⟨t147, x9_9⟩ : S76)]) t143 (t143.length : Int) (wrap64 (x24_1 + 1))) else (none))))) = some (r1, r2) := by rw [if_pos rfl] at H; exact H
                            clear H
                            have H := H1
                            clear H1
                            replace H := Option.bind_eq_some_iff.mp H
                            obtain ⟨t152, A230, H⟩ := H
                            replace H : (if t152 ≥ 0 then (some (([] : List Int), 6)) else (if x24_1 > 0 then ((words_follows.f x4_1 t147).bind fun t153 => (if t153 = true then (if x5_1.length < 4398046511104 then (words_ParseList.l0 kj9 x9_9 (x5_1 ++ [(⟨t147, x9_9⟩ : S76)]) t143 (t143.length : Int) (wrap64 (x24_1 + 1))) else (none)) else (some (([] : List Int), 6)))) else (if x5_1.length < 4398046511104 then (words_ParseList.l0 kj9 x9_9 (x5_1 ++ [(⟨t147, x9_9⟩ : S76)]) t143 (t143.length : Int) (wrap64 (x24_1 + 1))) else (none)))) = some (r1, r2) := H
                            have A23 := ak A230
                            clear A230
                            by_cases c24 : t152 ≥ 0
                            · rw [if_pos c24] at H
                              have c24b0 : decide (0 ≤ t152) = true := decide_eq_true c24
                              clear c24
                              simp only [Option.some.injEq, Prod.mk.injEq] at H
                              obtain ⟨rfl, rfl⟩ := H
                              go_wp2_with (first | ((with_reducible refine gate_callee (f := 34) rfl ?_); refine goesL_ (some 39) rfl rfl Tryz.func34 (by kernel_rfl) rfl #[.string t147] rfl (by (try simp only [List.map_toArray, List.map_cons, List.map_nil]); first | done | rfl | (simp only [List.length_drop, List.length_take]; rfl)) ?_; (with_reducible refine (words_isDecimal.calls t147 true _ A13.out).mono ?_); rintro e w25 ⟨rfl, hb⟩; refine ⟨_, rfl, ?_⟩; have n0_ := ak (Kd.R_below (by (with_reducible repeat (first | apply Kd.R_alloc | apply Kd.R_drewN | apply Kd.R_drew)); exact HO_5.out) hb); have n1_ := ak (Kd.R_below (by (with_reducible repeat (first | apply Kd.R_alloc | apply Kd.R_drewN | apply Kd.R_drew)); exact HO_22.out) hb); have n2_ := ak (below_step (by repeat (first | (with_reducible first | exact HB.out | apply wA | apply wN | apply wD) | exact HB.out)) hb); clear HO_5; clear HO_22; clear HB; have HO_5 := n0_; have HO_22 := n1_; have HB := n2_; clear n0_ n1_ n2_; (try clear hb); (try clear hb2); (try clear hk); (try clear hi)) | (go_at_call 34; (with_reducible refine (words_isDecimal.calls x9_9 true _ A15.out).mono ?_); rintro e w26 ⟨rfl, hb⟩; have n0_ := ak (Kd.R_below (by (with_reducible repeat (first | apply Kd.R_alloc | apply Kd.R_drewN | apply Kd.R_drew)); exact HO_5.out) hb); have n1_ := ak (Kd.R_below (by (with_reducible repeat (first | apply Kd.R_alloc | apply Kd.R_drewN | apply Kd.R_drew)); exact HO_22.out) hb); have n2_ := ak (below_step (by repeat (first | (with_reducible first | exact HB.out | apply wA | apply wN | apply wD) | exact HB.out)) hb); clear HO_5; clear HO_22; clear HB; have HO_5 := n0_; have HO_22 := n1_; have HB := n2_; clear n0_ n1_ n2_; (try clear hb); (try clear hb2); (try clear hk); (try clear hi); have p18 : 0 ≤ (0 : Int) := (by omega); have q18 : 0 < x9_9.size := (by have : (0 : Int) < (x9_9.size : Int) := of_decide_eq_true (by first | (with_reducible assumption) | assumption); omega); have hx18 : ∀ h : 0 < x9_9.size, ((x9_9[0]'h).toNat : Int) = bt x9_9 0 := bt_at x9_9 0; clear p18; have qi18 : (0 < (x9_9.size : Int)) = True := eq_true (of_decide_eq_true (by first | (with_reducible assumption) | assumption)); replace q18 := eq_true q18) | (go_at_call 35; (with_reducible refine (words_compare.calls t147 x9_9 t152 _ A23.out).mono ?_); rintro e w27 ⟨rfl, hb⟩; have n0_ := ak (Kd.R_below (by (with_reducible repeat (first | apply Kd.R_alloc | apply Kd.R_drewN | apply Kd.R_drew)); exact HO_5.out) hb); have n1_ := ak (Kd.R_below (by (with_reducible repeat (first | apply Kd.R_alloc | apply Kd.R_drewN | apply Kd.R_drew)); exact HO_22.out) hb); have n2_ := ak (below_step (by repeat (first | (with_reducible first | exact HB.out | apply wA | apply wN | apply wD) | exact HB.out)) hb); clear HO_5; clear HO_22; clear HB; have HO_5 := n0_; have HO_22 := n1_; have HB := n2_; clear n0_ n1_ n2_; (try clear hb); (try clear hb2); (try clear hk); (try clear hi)))
                              go_ret2
                              exact ⟨_, by first | rfl | (simp [errW_none, errW_some] <;> rfl) | (simp [*, errW_none, errW_some] <;> rfl), by first | exact Kd.R_nil _ _ _ _ _ | exact Kd.N_nil _ _ _ _ _ | exact Kd.V_nil _ _ _ _ _ | exact Kd.Q_nil _ _ _ _ _ | exact Kd.S_nil _ _ _ _ _, by repeat (first | (with_reducible first | exact HB.out | apply wA | apply wN | apply wD) | exact HB.out)⟩
                            · rw [if_neg c24] at H
                              have c24b0 : decide (0 ≤ t152) = false := decide_eq_false c24
                              clear c24
                              by_cases c28 : x24_1 > 0
                              · rw [if_pos c28] at H
                                have c28b0 : decide (0 < x24_1) = true := decide_eq_true c28
                                clear c28
                                replace H := Option.bind_eq_some_iff.mp H
                                obtain ⟨t153, A290, H⟩ := H
                                replace H : (if t153 = true then (if x5_1.length < 4398046511104 then (words_ParseList.l0 kj9 x9_9 (x5_1 ++ [(⟨t147, x9_9⟩ : S76)]) t143 (t143.length : Int) (wrap64 (x24_1 + 1))) else (none)) else (some (([] : List Int), 6))) = some (r1, r2) := H
                                have A29 := ak A290
                                clear A290
                                by_cases c30 : t153 = true
                                · subst c30
                                  have H1 : (if x5_1.length < 4398046511104 then (words_ParseList.l0 kj9 x9_9 (x5_1 ++ [(⟨t147, x9_9⟩ : S76)]) t143 (t143.length : Int) (wrap64 (x24_1 + 1))) else (none)) = some (r1, r2) := by rw [if_pos rfl] at H; exact H
                                  clear H
                                  have H := H1
                                  clear H1
                                  by_cases c31 : x5_1.length < 4398046511104
                                  · rw [if_pos c31] at H
                                    have LMc31 := ak c31
                                    clear c31
                                    obtain ⟨y154, hy154⟩ : ∃ y_ : List (S76), y_ = (x5_1 ++ [(⟨t147, x9_9⟩ : S76)]) := ⟨_, rfl⟩
                                    replace H : (words_ParseList.l0 kj9 x9_9 y154 t143 (t143.length : Int) (wrap64 (x24_1 + 1))) = some (r1, r2) := by first | (rw [hy154]; with_reducible exact H) | (have H2_ := (Option.bind_some _ _).symm.trans H; rw [hy154]; with_reducible exact H2_) | (have H2_ := (Option.bind_some _ _).symm.trans H; with_reducible exact H2_) | with_reducible exact H | (rw [hy154]; exact H) | exact H
                                    have Ny154 := ak hy154
                                    clear hy154
                                    have H' := ak H
                                    clear H
                                    go_wp2_with (first | ((with_reducible refine gate_callee (f := 34) rfl ?_); refine goesL_ (some 39) rfl rfl Tryz.func34 (by kernel_rfl) rfl #[.string t147] rfl (by (try simp only [List.map_toArray, List.map_cons, List.map_nil]); first | done | rfl | (simp only [List.length_drop, List.length_take]; rfl)) ?_; (with_reducible refine (words_isDecimal.calls t147 true _ A13.out).mono ?_); rintro e w32 ⟨rfl, hb⟩; refine ⟨_, rfl, ?_⟩; have n0_ := ak (Kd.R_below (by (with_reducible repeat (first | apply Kd.R_alloc | apply Kd.R_drewN | apply Kd.R_drew)); exact HO_5.out) hb); have n1_ := ak (Kd.R_below (by (with_reducible repeat (first | apply Kd.R_alloc | apply Kd.R_drewN | apply Kd.R_drew)); exact HO_22.out) hb); have n2_ := ak (below_step (by repeat (first | (with_reducible first | exact HB.out | apply wA | apply wN | apply wD) | exact HB.out)) hb); clear HO_5; clear HO_22; clear HB; have HO_5 := n0_; have HO_22 := n1_; have HB := n2_; clear n0_ n1_ n2_; (try clear hb); (try clear hb2); (try clear hk); (try clear hi)) | (go_at_call 34; (with_reducible refine (words_isDecimal.calls x9_9 true _ A15.out).mono ?_); rintro e w33 ⟨rfl, hb⟩; have n0_ := ak (Kd.R_below (by (with_reducible repeat (first | apply Kd.R_alloc | apply Kd.R_drewN | apply Kd.R_drew)); exact HO_5.out) hb); have n1_ := ak (Kd.R_below (by (with_reducible repeat (first | apply Kd.R_alloc | apply Kd.R_drewN | apply Kd.R_drew)); exact HO_22.out) hb); have n2_ := ak (below_step (by repeat (first | (with_reducible first | exact HB.out | apply wA | apply wN | apply wD) | exact HB.out)) hb); clear HO_5; clear HO_22; clear HB; have HO_5 := n0_; have HO_22 := n1_; have HB := n2_; clear n0_ n1_ n2_; (try clear hb); (try clear hb2); (try clear hk); (try clear hi); have p18 : 0 ≤ (0 : Int) := (by omega); have q18 : 0 < x9_9.size := (by have : (0 : Int) < (x9_9.size : Int) := of_decide_eq_true (by first | (with_reducible assumption) | assumption); omega); have hx18 : ∀ h : 0 < x9_9.size, ((x9_9[0]'h).toNat : Int) = bt x9_9 0 := bt_at x9_9 0; clear p18; have qi18 : (0 < (x9_9.size : Int)) = True := eq_true (of_decide_eq_true (by first | (with_reducible assumption) | assumption)); replace q18 := eq_true q18) | (go_at_call 35; (with_reducible refine (words_compare.calls t147 x9_9 t152 _ A23.out).mono ?_); rintro e w34 ⟨rfl, hb⟩; have n0_ := ak (Kd.R_below (by (with_reducible repeat (first | apply Kd.R_alloc | apply Kd.R_drewN | apply Kd.R_drew)); exact HO_5.out) hb); have n1_ := ak (Kd.R_below (by (with_reducible repeat (first | apply Kd.R_alloc | apply Kd.R_drewN | apply Kd.R_drew)); exact HO_22.out) hb); have n2_ := ak (below_step (by repeat (first | (with_reducible first | exact HB.out | apply wA | apply wN | apply wD) | exact HB.out)) hb); clear HO_5; clear HO_22; clear HB; have HO_5 := n0_; have HO_22 := n1_; have HB := n2_; clear n0_ n1_ n2_; (try clear hb); (try clear hb2); (try clear hk); (try clear hi)) | (go_at_call 36; (with_reducible refine (words_follows.calls x4_1 t147 true _ A29.out).mono ?_); rintro e w35 ⟨rfl, hb⟩; have n0_ := ak (Kd.R_below (by (with_reducible repeat (first | apply Kd.R_alloc | apply Kd.R_drewN | apply Kd.R_drew)); exact HO_5.out) hb); have n1_ := ak (Kd.R_below (by (with_reducible repeat (first | apply Kd.R_alloc | apply Kd.R_drewN | apply Kd.R_drew)); exact HO_22.out) hb); have n2_ := ak (below_step (by repeat (first | (with_reducible first | exact HB.out | apply wA | apply wN | apply wD) | exact HB.out)) hb); clear HO_5; clear HO_22; clear HB; have HO_5 := n0_; have HO_22 := n1_; have HB := n2_; clear n0_ n1_ n2_; (try clear hb); (try clear hb2); (try clear hk); (try clear hi)) | ((with_reducible refine gate_builtin (b := .append) (xs := #[.tmp 71, .tmp 75]) rfl ?_); at_builtin; refine Kd.R_append k76 (w0 := w) w.heap.size rfl (.tmp 71) (.tmp 75) 70 76 (.agg #[(.string ⟨#[]⟩), (.string ⟨#[]⟩)]) 32 rfl Tryz.underlying70 info76 rfl (by decide) (by omega) u5 x5_1 (⟨t147, x9_9⟩ : S76) [.string t147, .string x9_9] (fun _ => True) (fun _ => False) rfl rfl ?aP (fun _ hk => hk.elim) ?aF ?aO ?aB ?aS ?aL ?_; (case aP => exact k76_mkM _ _ _ (⟨t147, x9_9⟩ : S76)); (case aB => exact (by repeat (first | (with_reducible first | exact HB.out | apply wA | apply wN | apply wD) | exact HB.out))); (case aF => exact (fun _ _ => trivial)); (case aO => exact (by (with_reducible repeat (first | apply Kd.R_alloc | apply Kd.R_drewN | apply Kd.R_drew)); exact HO_5.out)); (case aS => exact (below_size (by repeat (first | (with_reducible first | exact HB.out | apply wA | apply wN | apply wD) | exact HB.out)))); (case aL => have := LMc31.out; omega); intro v155 w36 ho hb hg hat; rw [← Ny154.out] at ho; have n0_ := ak (Kd.R_over' (by (with_reducible repeat (first | apply Kd.R_alloc | apply Kd.R_drewN | apply Kd.R_drew)); exact HO_22.out) (Kd.R_typed (by (with_reducible repeat (first | apply Kd.R_alloc | apply Kd.R_drewN | apply Kd.R_drew)); exact HO_5.out)) (by decide) hg); have n1_ := ak (hb); have n2_ := ak (ho); clear HO_22; clear HB; clear HO_5; have HO_22 := n0_; have HB := n1_; have HO156 := n2_; clear n0_ n1_ n2_; clear ho hb hg hat))
                                    go_roundg kj9
                                    case measure => have := HK1.out; have := HJ9.out; omega
                                    case rel => exact ⟨(x9_9), (y154), (wrap64 (x24_1 + 1)), (by first | rfl | (simp; done) | (simp [*]; done)), (by first | rfl | (simp; done) | (simp [*]; done)), H', ⟨by have := HK1.out; have := HJ9.out; omega⟩, ⟨by (with_reducible repeat (first | apply Kd.R_alloc | apply Kd.R_drewN | apply Kd.R_drew)); exact HO156.out⟩, ⟨by (with_reducible repeat (first | apply Kd.R_alloc | apply Kd.R_drewN | apply Kd.R_drew)); exact HO_22.out⟩, ⟨by repeat (first | (with_reducible first | exact HB.out | apply wA | apply wN | apply wD) | exact HB.out)⟩⟩
                                  · rw [if_neg c31] at H
                                    exact absurd H (by simp)
                                · replace c30 := Bool.eq_false_iff.mpr c30
                                  subst c30
                                  have H1 : (some (([] : List Int), 6)) = some (r1, r2) := by rw [if_neg (show ¬ (false = true) by decide)] at H; exact H
                                  clear H
                                  have H := H1
                                  clear H1
                                  simp only [Option.some.injEq, Prod.mk.injEq] at H
                                  obtain ⟨rfl, rfl⟩ := H
                                  go_wp2_with (first | ((with_reducible refine gate_callee (f := 34) rfl ?_); refine goesL_ (some 39) rfl rfl Tryz.func34 (by kernel_rfl) rfl #[.string t147] rfl (by (try simp only [List.map_toArray, List.map_cons, List.map_nil]); first | done | rfl | (simp only [List.length_drop, List.length_take]; rfl)) ?_; (with_reducible refine (words_isDecimal.calls t147 true _ A13.out).mono ?_); rintro e w37 ⟨rfl, hb⟩; refine ⟨_, rfl, ?_⟩; have n0_ := ak (Kd.R_below (by (with_reducible repeat (first | apply Kd.R_alloc | apply Kd.R_drewN | apply Kd.R_drew)); exact HO_5.out) hb); have n1_ := ak (Kd.R_below (by (with_reducible repeat (first | apply Kd.R_alloc | apply Kd.R_drewN | apply Kd.R_drew)); exact HO_22.out) hb); have n2_ := ak (below_step (by repeat (first | (with_reducible first | exact HB.out | apply wA | apply wN | apply wD) | exact HB.out)) hb); clear HO_5; clear HO_22; clear HB; have HO_5 := n0_; have HO_22 := n1_; have HB := n2_; clear n0_ n1_ n2_; (try clear hb); (try clear hb2); (try clear hk); (try clear hi)) | (go_at_call 34; (with_reducible refine (words_isDecimal.calls x9_9 true _ A15.out).mono ?_); rintro e w38 ⟨rfl, hb⟩; have n0_ := ak (Kd.R_below (by (with_reducible repeat (first | apply Kd.R_alloc | apply Kd.R_drewN | apply Kd.R_drew)); exact HO_5.out) hb); have n1_ := ak (Kd.R_below (by (with_reducible repeat (first | apply Kd.R_alloc | apply Kd.R_drewN | apply Kd.R_drew)); exact HO_22.out) hb); have n2_ := ak (below_step (by repeat (first | (with_reducible first | exact HB.out | apply wA | apply wN | apply wD) | exact HB.out)) hb); clear HO_5; clear HO_22; clear HB; have HO_5 := n0_; have HO_22 := n1_; have HB := n2_; clear n0_ n1_ n2_; (try clear hb); (try clear hb2); (try clear hk); (try clear hi); have p18 : 0 ≤ (0 : Int) := (by omega); have q18 : 0 < x9_9.size := (by have : (0 : Int) < (x9_9.size : Int) := of_decide_eq_true (by first | (with_reducible assumption) | assumption); omega); have hx18 : ∀ h : 0 < x9_9.size, ((x9_9[0]'h).toNat : Int) = bt x9_9 0 := bt_at x9_9 0; clear p18; have qi18 : (0 < (x9_9.size : Int)) = True := eq_true (of_decide_eq_true (by first | (with_reducible assumption) | assumption)); replace q18 := eq_true q18) | (go_at_call 35; (with_reducible refine (words_compare.calls t147 x9_9 t152 _ A23.out).mono ?_); rintro e w39 ⟨rfl, hb⟩; have n0_ := ak (Kd.R_below (by (with_reducible repeat (first | apply Kd.R_alloc | apply Kd.R_drewN | apply Kd.R_drew)); exact HO_5.out) hb); have n1_ := ak (Kd.R_below (by (with_reducible repeat (first | apply Kd.R_alloc | apply Kd.R_drewN | apply Kd.R_drew)); exact HO_22.out) hb); have n2_ := ak (below_step (by repeat (first | (with_reducible first | exact HB.out | apply wA | apply wN | apply wD) | exact HB.out)) hb); clear HO_5; clear HO_22; clear HB; have HO_5 := n0_; have HO_22 := n1_; have HB := n2_; clear n0_ n1_ n2_; (try clear hb); (try clear hb2); (try clear hk); (try clear hi)) | (go_at_call 36; (with_reducible refine (words_follows.calls x4_1 t147 false _ A29.out).mono ?_); rintro e w40 ⟨rfl, hb⟩; have n0_ := ak (Kd.R_below (by (with_reducible repeat (first | apply Kd.R_alloc | apply Kd.R_drewN | apply Kd.R_drew)); exact HO_5.out) hb); have n1_ := ak (Kd.R_below (by (with_reducible repeat (first | apply Kd.R_alloc | apply Kd.R_drewN | apply Kd.R_drew)); exact HO_22.out) hb); have n2_ := ak (below_step (by repeat (first | (with_reducible first | exact HB.out | apply wA | apply wN | apply wD) | exact HB.out)) hb); clear HO_5; clear HO_22; clear HB; have HO_5 := n0_; have HO_22 := n1_; have HB := n2_; clear n0_ n1_ n2_; (try clear hb); (try clear hb2); (try clear hk); (try clear hi)))
                                  go_ret2
                                  exact ⟨_, by first | rfl | (simp [errW_none, errW_some] <;> rfl) | (simp [*, errW_none, errW_some] <;> rfl), by first | exact Kd.R_nil _ _ _ _ _ | exact Kd.N_nil _ _ _ _ _ | exact Kd.V_nil _ _ _ _ _ | exact Kd.Q_nil _ _ _ _ _ | exact Kd.S_nil _ _ _ _ _, by repeat (first | (with_reducible first | exact HB.out | apply wA | apply wN | apply wD) | exact HB.out)⟩
                              · rw [if_neg c28] at H
                                have c28b0 : decide (0 < x24_1) = false := decide_eq_false c28
                                clear c28
                                by_cases c41 : x5_1.length < 4398046511104
                                · rw [if_pos c41] at H
                                  have LMc41 := ak c41
                                  clear c41
                                  obtain ⟨y157, hy157⟩ : ∃ y_ : List (S76), y_ = (x5_1 ++ [(⟨t147, x9_9⟩ : S76)]) := ⟨_, rfl⟩
                                  replace H : (words_ParseList.l0 kj9 x9_9 y157 t143 (t143.length : Int) (wrap64 (x24_1 + 1))) = some (r1, r2) := by first | (rw [hy157]; with_reducible exact H) | (have H2_ := (Option.bind_some _ _).symm.trans H; rw [hy157]; with_reducible exact H2_) | (have H2_ := (Option.bind_some _ _).symm.trans H; with_reducible exact H2_) | with_reducible exact H | (rw [hy157]; exact H) | exact H
                                  have Ny157 := ak hy157
                                  clear hy157
                                  have H' := ak H
                                  clear H
                                  go_wp2_with (first | ((with_reducible refine gate_callee (f := 34) rfl ?_); refine goesL_ (some 39) rfl rfl Tryz.func34 (by kernel_rfl) rfl #[.string t147] rfl (by (try simp only [List.map_toArray, List.map_cons, List.map_nil]); first | done | rfl | (simp only [List.length_drop, List.length_take]; rfl)) ?_; (with_reducible refine (words_isDecimal.calls t147 true _ A13.out).mono ?_); rintro e w42 ⟨rfl, hb⟩; refine ⟨_, rfl, ?_⟩; have n0_ := ak (Kd.R_below (by (with_reducible repeat (first | apply Kd.R_alloc | apply Kd.R_drewN | apply Kd.R_drew)); exact HO_5.out) hb); have n1_ := ak (Kd.R_below (by (with_reducible repeat (first | apply Kd.R_alloc | apply Kd.R_drewN | apply Kd.R_drew)); exact HO_22.out) hb); have n2_ := ak (below_step (by repeat (first | (with_reducible first | exact HB.out | apply wA | apply wN | apply wD) | exact HB.out)) hb); clear HO_5; clear HO_22; clear HB; have HO_5 := n0_; have HO_22 := n1_; have HB := n2_; clear n0_ n1_ n2_; (try clear hb); (try clear hb2); (try clear hk); (try clear hi)) | (go_at_call 34; (with_reducible refine (words_isDecimal.calls x9_9 true _ A15.out).mono ?_); rintro e w43 ⟨rfl, hb⟩; have n0_ := ak (Kd.R_below (by (with_reducible repeat (first | apply Kd.R_alloc | apply Kd.R_drewN | apply Kd.R_drew)); exact HO_5.out) hb); have n1_ := ak (Kd.R_below (by (with_reducible repeat (first | apply Kd.R_alloc | apply Kd.R_drewN | apply Kd.R_drew)); exact HO_22.out) hb); have n2_ := ak (below_step (by repeat (first | (with_reducible first | exact HB.out | apply wA | apply wN | apply wD) | exact HB.out)) hb); clear HO_5; clear HO_22; clear HB; have HO_5 := n0_; have HO_22 := n1_; have HB := n2_; clear n0_ n1_ n2_; (try clear hb); (try clear hb2); (try clear hk); (try clear hi); have p18 : 0 ≤ (0 : Int) := (by omega); have q18 : 0 < x9_9.size := (by have : (0 : Int) < (x9_9.size : Int) := of_decide_eq_true (by first | (with_reducible assumption) | assumption); omega); have hx18 : ∀ h : 0 < x9_9.size, ((x9_9[0]'h).toNat : Int) = bt x9_9 0 := bt_at x9_9 0; clear p18; have qi18 : (0 < (x9_9.size : Int)) = True := eq_true (of_decide_eq_true (by first | (with_reducible assumption) | assumption)); replace q18 := eq_true q18) | (go_at_call 35; (with_reducible refine (words_compare.calls t147 x9_9 t152 _ A23.out).mono ?_); rintro e w44 ⟨rfl, hb⟩; have n0_ := ak (Kd.R_below (by (with_reducible repeat (first | apply Kd.R_alloc | apply Kd.R_drewN | apply Kd.R_drew)); exact HO_5.out) hb); have n1_ := ak (Kd.R_below (by (with_reducible repeat (first | apply Kd.R_alloc | apply Kd.R_drewN | apply Kd.R_drew)); exact HO_22.out) hb); have n2_ := ak (below_step (by repeat (first | (with_reducible first | exact HB.out | apply wA | apply wN | apply wD) | exact HB.out)) hb); clear HO_5; clear HO_22; clear HB; have HO_5 := n0_; have HO_22 := n1_; have HB := n2_; clear n0_ n1_ n2_; (try clear hb); (try clear hb2); (try clear hk); (try clear hi)) | ((with_reducible refine gate_builtin (b := .append) (xs := #[.tmp 71, .tmp 75]) rfl ?_); at_builtin; refine Kd.R_append k76 (w0 := w) w.heap.size rfl (.tmp 71) (.tmp 75) 70 76 (.agg #[(.string ⟨#[]⟩), (.string ⟨#[]⟩)]) 32 rfl Tryz.underlying70 info76 rfl (by decide) (by omega) u5 x5_1 (⟨t147, x9_9⟩ : S76) [.string t147, .string x9_9] (fun _ => True) (fun _ => False) rfl rfl ?aP (fun _ hk => hk.elim) ?aF ?aO ?aB ?aS ?aL ?_; (case aP => exact k76_mkM _ _ _ (⟨t147, x9_9⟩ : S76)); (case aB => exact (by repeat (first | (with_reducible first | exact HB.out | apply wA | apply wN | apply wD) | exact HB.out))); (case aF => exact (fun _ _ => trivial)); (case aO => exact (by (with_reducible repeat (first | apply Kd.R_alloc | apply Kd.R_drewN | apply Kd.R_drew)); exact HO_5.out)); (case aS => exact (below_size (by repeat (first | (with_reducible first | exact HB.out | apply wA | apply wN | apply wD) | exact HB.out)))); (case aL => have := LMc41.out; omega); intro v158 w45 ho hb hg hat; rw [← Ny157.out] at ho; have n0_ := ak (Kd.R_over' (by (with_reducible repeat (first | apply Kd.R_alloc | apply Kd.R_drewN | apply Kd.R_drew)); exact HO_22.out) (Kd.R_typed (by (with_reducible repeat (first | apply Kd.R_alloc | apply Kd.R_drewN | apply Kd.R_drew)); exact HO_5.out)) (by decide) hg); have n1_ := ak (hb); have n2_ := ak (ho); clear HO_22; clear HB; clear HO_5; have HO_22 := n0_; have HB := n1_; have HO159 := n2_; clear n0_ n1_ n2_; clear ho hb hg hat))
                                  go_roundg kj9
                                  case measure => have := HK1.out; have := HJ9.out; omega
                                  case rel => exact ⟨(x9_9), (y157), (wrap64 (x24_1 + 1)), (by first | rfl | (simp; done) | (simp [*]; done)), (by first | rfl | (simp; done) | (simp [*]; done)), H', ⟨by have := HK1.out; have := HJ9.out; omega⟩, ⟨by (with_reducible repeat (first | apply Kd.R_alloc | apply Kd.R_drewN | apply Kd.R_drew)); exact HO159.out⟩, ⟨by (with_reducible repeat (first | apply Kd.R_alloc | apply Kd.R_drewN | apply Kd.R_drew)); exact HO_22.out⟩, ⟨by repeat (first | (with_reducible first | exact HB.out | apply wA | apply wN | apply wD) | exact HB.out)⟩⟩
                                · rw [if_neg c41] at H
                                  exact absurd H (by simp)
                          · replace c22 := Bool.eq_false_iff.mpr c22
                            subst c22
                            have H1 : (if x24_1 > 0 then ((words_follows.f x4_1 t147).bind fun t160 => (if t160 = true then (if x5_1.length < 4398046511104 then (words_ParseList.l0 kj9 x9_9 (x5_1 ++ [(⟨t147, x9_9⟩ : S76)]) t143 (t143.length : Int) (wrap64 (x24_1 + 1))) else (none)) else (some (([] : List Int), 6)))) else (if x5_1.length < 4398046511104 then (words_ParseList.l0 kj9 x9_9 (x5_1 ++ [(⟨t147, x9_9⟩ : S76)]) t143 (t143.length : Int) (wrap64 (x24_1 + 1))) else (none))) = some (r1, r2) := by rw [if_neg (show ¬ (false = true) by decide)] at H; exact H
                            clear H
                            have H := H1
                            clear H1
                            by_cases c46 : x24_1 > 0
                            · rw [if_pos c46] at H
                              have c46b0 : decide (0 < x24_1) = true := decide_eq_true c46
                              clear c46
                              replace H := Option.bind_eq_some_iff.mp H
                              obtain ⟨t160, A470, H⟩ := H
                              replace H : (if t160 = true then (if x5_1.length < 4398046511104 then (words_ParseList.l0 kj9 x9_9 (x5_1 ++ [(⟨t147, x9_9⟩ : S76)]) t143 (t143.length : Int) (wrap64 (x24_1 + 1))) else (none)) else (some (([] : List Int), 6))) = some (r1, r2) := H
                              have A47 := ak A470
                              clear A470
                              by_cases c48 : t160 = true
                              · subst c48
                                have H1 : (if x5_1.length < 4398046511104 then (words_ParseList.l0 kj9 x9_9 (x5_1 ++ [(⟨t147, x9_9⟩ : S76)]) t143 (t143.length : Int) (wrap64 (x24_1 + 1))) else (none)) = some (r1, r2) := by rw [if_pos rfl] at H; exact H
                                clear H
                                have H := H1
                                clear H1
                                by_cases c49 : x5_1.length < 4398046511104
                                · rw [if_pos c49] at H
                                  have LMc49 := ak c49
                                  clear c49
                                  obtain ⟨y161, hy161⟩ : ∃ y_ : List (S76), y_ = (x5_1 ++ [(⟨t147, x9_9⟩ : S76)]) := ⟨_, rfl⟩
                                  replace H : (words_ParseList.l0 kj9 x9_9 y161 t143 (t143.length : Int) (wrap64 (x24_1 + 1))) = some (r1, r2) := by first | (rw [hy161]; with_reducible exact H) | (have H2_ := (Option.bind_some _ _).symm.trans H; rw [hy161]; with_reducible exact H2_) | (have H2_ := (Option.bind_some _ _).symm.trans H; with_reducible exact H2_) | with_reducible exact H | (rw [hy161]; exact H) | exact H
                                  have Ny161 := ak hy161
                                  clear hy161
                                  have H' := ak H
                                  clear H
                                  go_wp2_with (first | ((with_reducible refine gate_callee (f := 34) rfl ?_); refine goesL_ (some 39) rfl rfl Tryz.func34 (by kernel_rfl) rfl #[.string t147] rfl (by (try simp only [List.map_toArray, List.map_cons, List.map_nil]); first | done | rfl | (simp only [List.length_drop, List.length_take]; rfl)) ?_; (with_reducible refine (words_isDecimal.calls t147 true _ A13.out).mono ?_); rintro e w50 ⟨rfl, hb⟩; refine ⟨_, rfl, ?_⟩; have n0_ := ak (Kd.R_below (by (with_reducible repeat (first | apply Kd.R_alloc | apply Kd.R_drewN | apply Kd.R_drew)); exact HO_5.out) hb); have n1_ := ak (Kd.R_below (by (with_reducible repeat (first | apply Kd.R_alloc | apply Kd.R_drewN | apply Kd.R_drew)); exact HO_22.out) hb); have n2_ := ak (below_step (by repeat (first | (with_reducible first | exact HB.out | apply wA | apply wN | apply wD) | exact HB.out)) hb); clear HO_5; clear HO_22; clear HB; have HO_5 := n0_; have HO_22 := n1_; have HB := n2_; clear n0_ n1_ n2_; (try clear hb); (try clear hb2); (try clear hk); (try clear hi)) | (go_at_call 34; (with_reducible refine (words_isDecimal.calls x9_9 true _ A15.out).mono ?_); rintro e w51 ⟨rfl, hb⟩; have n0_ := ak (Kd.R_below (by (with_reducible repeat (first | apply Kd.R_alloc | apply Kd.R_drewN | apply Kd.R_drew)); exact HO_5.out) hb); have n1_ := ak (Kd.R_below (by (with_reducible repeat (first | apply Kd.R_alloc | apply Kd.R_drewN | apply Kd.R_drew)); exact HO_22.out) hb); have n2_ := ak (below_step (by repeat (first | (with_reducible first | exact HB.out | apply wA | apply wN | apply wD) | exact HB.out)) hb); clear HO_5; clear HO_22; clear HB; have HO_5 := n0_; have HO_22 := n1_; have HB := n2_; clear n0_ n1_ n2_; (try clear hb); (try clear hb2); (try clear hk); (try clear hi); have p18 : 0 ≤ (0 : Int) := (by omega); have q18 : 0 < x9_9.size := (by have : (0 : Int) < (x9_9.size : Int) := of_decide_eq_true (by first | (with_reducible assumption) | assumption); omega); have hx18 : ∀ h : 0 < x9_9.size, ((x9_9[0]'h).toNat : Int) = bt x9_9 0 := bt_at x9_9 0; clear p18; have qi18 : (0 < (x9_9.size : Int)) = True := eq_true (of_decide_eq_true (by first | (with_reducible assumption) | assumption)); replace q18 := eq_true q18) | (go_at_call 36; (with_reducible refine (words_follows.calls x4_1 t147 true _ A47.out).mono ?_); rintro e w52 ⟨rfl, hb⟩; have n0_ := ak (Kd.R_below (by (with_reducible repeat (first | apply Kd.R_alloc | apply Kd.R_drewN | apply Kd.R_drew)); exact HO_5.out) hb); have n1_ := ak (Kd.R_below (by (with_reducible repeat (first | apply Kd.R_alloc | apply Kd.R_drewN | apply Kd.R_drew)); exact HO_22.out) hb); have n2_ := ak (below_step (by repeat (first | (with_reducible first | exact HB.out | apply wA | apply wN | apply wD) | exact HB.out)) hb); clear HO_5; clear HO_22; clear HB; have HO_5 := n0_; have HO_22 := n1_; have HB := n2_; clear n0_ n1_ n2_; (try clear hb); (try clear hb2); (try clear hk); (try clear hi)) | ((with_reducible refine gate_builtin (b := .append) (xs := #[.tmp 71, .tmp 75]) rfl ?_); at_builtin; refine Kd.R_append k76 (w0 := w) w.heap.size rfl (.tmp 71) (.tmp 75) 70 76 (.agg #[(.string ⟨#[]⟩), (.string ⟨#[]⟩)]) 32 rfl Tryz.underlying70 info76 rfl (by decide) (by omega) u5 x5_1 (⟨t147, x9_9⟩ : S76) [.string t147, .string x9_9] (fun _ => True) (fun _ => False) rfl rfl ?aP (fun _ hk => hk.elim) ?aF ?aO ?aB ?aS ?aL ?_; (case aP => exact k76_mkM _ _ _ (⟨t147, x9_9⟩ : S76)); (case aB => exact (by repeat (first | (with_reducible first | exact HB.out | apply wA | apply wN | apply wD) | exact HB.out))); (case aF => exact (fun _ _ => trivial)); (case aO => exact (by (with_reducible repeat (first | apply Kd.R_alloc | apply Kd.R_drewN | apply Kd.R_drew)); exact HO_5.out)); (case aS => exact (below_size (by repeat (first | (with_reducible first | exact HB.out | apply wA | apply wN | apply wD) | exact HB.out)))); (case aL => have := LMc49.out; omega); intro v162 w53 ho hb hg hat; rw [← Ny161.out] at ho; have n0_ := ak (Kd.R_over' (by (with_reducible repeat (first | apply Kd.R_alloc | apply Kd.R_drewN | apply Kd.R_drew)); exact HO_22.out) (Kd.R_typed (by (with_reducible repeat (first | apply Kd.R_alloc | apply Kd.R_drewN | apply Kd.R_drew)); exact HO_5.out)) (by decide) hg); have n1_ := ak (hb); have n2_ := ak (ho); clear HO_22; clear HB; clear HO_5; have HO_22 := n0_; have HB := n1_; have HO163 := n2_; clear n0_ n1_ n2_; clear ho hb hg hat))
                                  go_roundg kj9
                                  case measure => have := HK1.out; have := HJ9.out; omega
                                  case rel => exact ⟨(x9_9), (y161), (wrap64 (x24_1 + 1)), (by first | rfl | (simp; done) | (simp [*]; done)), (by first | rfl | (simp; done) | (simp [*]; done)), H', ⟨by have := HK1.out; have := HJ9.out; omega⟩, ⟨by (with_reducible repeat (first | apply Kd.R_alloc | apply Kd.R_drewN | apply Kd.R_drew)); exact HO163.out⟩, ⟨by (with_reducible repeat (first | apply Kd.R_alloc | apply Kd.R_drewN | apply Kd.R_drew)); exact HO_22.out⟩, ⟨by repeat (first | (with_reducible first | exact HB.out | apply wA | apply wN | apply wD) | exact HB.out)⟩⟩
                                · rw [if_neg c49] at H
                                  exact absurd H (by simp)
                              · replace c48 := Bool.eq_false_iff.mpr c48
                                subst c48
                                have H1 : (some (([] : List Int), 6)) = some (r1, r2) := by rw [if_neg (show ¬ (false = true) by decide)] at H; exact H
                                clear H
                                have H := H1
                                clear H1
                                simp only [Option.some.injEq, Prod.mk.injEq] at H
                                obtain ⟨rfl, rfl⟩ := H
                                go_wp2_with (first | ((with_reducible refine gate_callee (f := 34) rfl ?_); refine goesL_ (some 39) rfl rfl Tryz.func34 (by kernel_rfl) rfl #[.string t147] rfl (by (try simp only [List.map_toArray, List.map_cons, List.map_nil]); first | done | rfl | (simp only [List.length_drop, List.length_take]; rfl)) ?_; (with_reducible refine (words_isDecimal.calls t147 true _ A13.out).mono ?_); rintro e w54 ⟨rfl, hb⟩; refine ⟨_, rfl, ?_⟩; have n0_ := ak (Kd.R_below (by (with_reducible repeat (first | apply Kd.R_alloc | apply Kd.R_drewN | apply Kd.R_drew)); exact HO_5.out) hb); have n1_ := ak (Kd.R_below (by (with_reducible repeat (first | apply Kd.R_alloc | apply Kd.R_drewN | apply Kd.R_drew)); exact HO_22.out) hb); have n2_ := ak (below_step (by repeat (first | (with_reducible first | exact HB.out | apply wA | apply wN | apply wD) | exact HB.out)) hb); clear HO_5; clear HO_22; clear HB; have HO_5 := n0_; have HO_22 := n1_; have HB := n2_; clear n0_ n1_ n2_; (try clear hb); (try clear hb2); (try clear hk); (try clear hi)) | (go_at_call 34; (with_reducible refine (words_isDecimal.calls x9_9 true _ A15.out).mono ?_); rintro e w55 ⟨rfl, hb⟩; have n0_ := ak (Kd.R_below (by (with_reducible repeat (first | apply Kd.R_alloc | apply Kd.R_drewN | apply Kd.R_drew)); exact HO_5.out) hb); have n1_ := ak (Kd.R_below (by (with_reducible repeat (first | apply Kd.R_alloc | apply Kd.R_drewN | apply Kd.R_drew)); exact HO_22.out) hb); have n2_ := ak (below_step (by repeat (first | (with_reducible first | exact HB.out | apply wA | apply wN | apply wD) | exact HB.out)) hb); clear HO_5; clear HO_22; clear HB; have HO_5 := n0_; have HO_22 := n1_; have HB := n2_; clear n0_ n1_ n2_; (try clear hb); (try clear hb2); (try clear hk); (try clear hi); have p18 : 0 ≤ (0 : Int) := (by omega); have q18 : 0 < x9_9.size := (by have : (0 : Int) < (x9_9.size : Int) := of_decide_eq_true (by first | (with_reducible assumption) | assumption); omega); have hx18 : ∀ h : 0 < x9_9.size, ((x9_9[0]'h).toNat : Int) = bt x9_9 0 := bt_at x9_9 0; clear p18; have qi18 : (0 < (x9_9.size : Int)) = True := eq_true (of_decide_eq_true (by first | (with_reducible assumption) | assumption)); replace q18 := eq_true q18) | (go_at_call 36; (with_reducible refine (words_follows.calls x4_1 t147 false _ A47.out).mono ?_); rintro e w56 ⟨rfl, hb⟩; have n0_ := ak (Kd.R_below (by (with_reducible repeat (first | apply Kd.R_alloc | apply Kd.R_drewN | apply Kd.R_drew)); exact HO_5.out) hb); have n1_ := ak (Kd.R_below (by (with_reducible repeat (first | apply Kd.R_alloc | apply Kd.R_drewN | apply Kd.R_drew)); exact HO_22.out) hb); have n2_ := ak (below_step (by repeat (first | (with_reducible first | exact HB.out | apply wA | apply wN | apply wD) | exact HB.out)) hb); clear HO_5; clear HO_22; clear HB; have HO_5 := n0_; have HO_22 := n1_; have HB := n2_; clear n0_ n1_ n2_; (try clear hb); (try clear hb2); (try clear hk); (try clear hi)))
                                go_ret2
                                exact ⟨_, by first | rfl | (simp [errW_none, errW_some] <;> rfl) | (simp [*, errW_none, errW_some] <;> rfl), by first | exact Kd.R_nil _ _ _ _ _ | exact Kd.N_nil _ _ _ _ _ | exact Kd.V_nil _ _ _ _ _ | exact Kd.Q_nil _ _ _ _ _ | exact Kd.S_nil _ _ _ _ _, by repeat (first | (with_reducible first | exact HB.out | apply wA | apply wN | apply wD) | exact HB.out)⟩
                            · rw [if_neg c46] at H
                              have c46b0 : decide (0 < x24_1) = false := decide_eq_false c46
                              clear c46
                              by_cases c57 : x5_1.length < 4398046511104
                              · rw [if_pos c57] at H
                                have LMc57 := ak c57
                                clear c57
                                obtain ⟨y164, hy164⟩ : ∃ y_ : List (S76), y_ = (x5_1 ++ [(⟨t147, x9_9⟩ : S76)]) := ⟨_, rfl⟩
                                replace H : (words_ParseList.l0 kj9 x9_9 y164 t143 (t143.length : Int) (wrap64 (x24_1 + 1))) = some (r1, r2) := by first | (rw [hy164]; with_reducible exact H) | (have H2_ := (Option.bind_some _ _).symm.trans H; rw [hy164]; with_reducible exact H2_) | (have H2_ := (Option.bind_some _ _).symm.trans H; with_reducible exact H2_) | with_reducible exact H | (rw [hy164]; exact H) | exact H
                                have Ny164 := ak hy164
                                clear hy164
                                have H' := ak H
                                clear H
                                go_wp2_with (first | ((with_reducible refine gate_callee (f := 34) rfl ?_); refine goesL_ (some 39) rfl rfl Tryz.func34 (by kernel_rfl) rfl #[.string t147] rfl (by (try simp only [List.map_toArray, List.map_cons, List.map_nil]); first | done | rfl | (simp only [List.length_drop, List.length_take]; rfl)) ?_; (with_reducible refine (words_isDecimal.calls t147 true _ A13.out).mono ?_); rintro e w58 ⟨rfl, hb⟩; refine ⟨_, rfl, ?_⟩; have n0_ := ak (Kd.R_below (by (with_reducible repeat (first | apply Kd.R_alloc | apply Kd.R_drewN | apply Kd.R_drew)); exact HO_5.out) hb); have n1_ := ak (Kd.R_below (by (with_reducible repeat (first | apply Kd.R_alloc | apply Kd.R_drewN | apply Kd.R_drew)); exact HO_22.out) hb); have n2_ := ak (below_step (by repeat (first | (with_reducible first | exact HB.out | apply wA | apply wN | apply wD) | exact HB.out)) hb); clear HO_5; clear HO_22; clear HB; have HO_5 := n0_; have HO_22 := n1_; have HB := n2_; clear n0_ n1_ n2_; (try clear hb); (try clear hb2); (try clear hk); (try clear hi)) | (go_at_call 34; (with_reducible refine (words_isDecimal.calls x9_9 true _ A15.out).mono ?_); rintro e w59 ⟨rfl, hb⟩; have n0_ := ak (Kd.R_below (by (with_reducible repeat (first | apply Kd.R_alloc | apply Kd.R_drewN | apply Kd.R_drew)); exact HO_5.out) hb); have n1_ := ak (Kd.R_below (by (with_reducible repeat (first | apply Kd.R_alloc | apply Kd.R_drewN | apply Kd.R_drew)); exact HO_22.out) hb); have n2_ := ak (below_step (by repeat (first | (with_reducible first | exact HB.out | apply wA | apply wN | apply wD) | exact HB.out)) hb); clear HO_5; clear HO_22; clear HB; have HO_5 := n0_; have HO_22 := n1_; have HB := n2_; clear n0_ n1_ n2_; (try clear hb); (try clear hb2); (try clear hk); (try clear hi); have p18 : 0 ≤ (0 : Int) := (by omega); have q18 : 0 < x9_9.size := (by have : (0 : Int) < (x9_9.size : Int) := of_decide_eq_true (by first | (with_reducible assumption) | assumption); omega); have hx18 : ∀ h : 0 < x9_9.size, ((x9_9[0]'h).toNat : Int) = bt x9_9 0 := bt_at x9_9 0; clear p18; have qi18 : (0 < (x9_9.size : Int)) = True := eq_true (of_decide_eq_true (by first | (with_reducible assumption) | assumption)); replace q18 := eq_true q18) | ((with_reducible refine gate_builtin (b := .append) (xs := #[.tmp 71, .tmp 75]) rfl ?_); at_builtin; refine Kd.R_append k76 (w0 := w) w.heap.size rfl (.tmp 71) (.tmp 75) 70 76 (.agg #[(.string ⟨#[]⟩), (.string ⟨#[]⟩)]) 32 rfl Tryz.underlying70 info76 rfl (by decide) (by omega) u5 x5_1 (⟨t147, x9_9⟩ : S76) [.string t147, .string x9_9] (fun _ => True) (fun _ => False) rfl rfl ?aP (fun _ hk => hk.elim) ?aF ?aO ?aB ?aS ?aL ?_; (case aP => exact k76_mkM _ _ _ (⟨t147, x9_9⟩ : S76)); (case aB => exact (by repeat (first | (with_reducible first | exact HB.out | apply wA | apply wN | apply wD) | exact HB.out))); (case aF => exact (fun _ _ => trivial)); (case aO => exact (by (with_reducible repeat (first | apply Kd.R_alloc | apply Kd.R_drewN | apply Kd.R_drew)); exact HO_5.out)); (case aS => exact (below_size (by repeat (first | (with_reducible first | exact HB.out | apply wA | apply wN | apply wD) | exact HB.out)))); (case aL => have := LMc57.out; omega); intro v165 w60 ho hb hg hat; rw [← Ny164.out] at ho; have n0_ := ak (Kd.R_over' (by (with_reducible repeat (first | apply Kd.R_alloc | apply Kd.R_drewN | apply Kd.R_drew)); exact HO_22.out) (Kd.R_typed (by (with_reducible repeat (first | apply Kd.R_alloc | apply Kd.R_drewN | apply Kd.R_drew)); exact HO_5.out)) (by decide) hg); have n1_ := ak (hb); have n2_ := ak (ho); clear HO_22; clear HB; clear HO_5; have HO_22 := n0_; have HB := n1_; have HO166 := n2_; clear n0_ n1_ n2_; clear ho hb hg hat))
                                go_roundg kj9
                                case measure => have := HK1.out; have := HJ9.out; omega
                                case rel => exact ⟨(x9_9), (y164), (wrap64 (x24_1 + 1)), (by first | rfl | (simp; done) | (simp [*]; done)), (by first | rfl | (simp; done) | (simp [*]; done)), H', ⟨by have := HK1.out; have := HJ9.out; omega⟩, ⟨by (with_reducible repeat (first | apply Kd.R_alloc | apply Kd.R_drewN | apply Kd.R_drew)); exact HO166.out⟩, ⟨by (with_reducible repeat (first | apply Kd.R_alloc | apply Kd.R_drewN | apply Kd.R_drew)); exact HO_22.out⟩, ⟨by repeat (first | (with_reducible first | exact HB.out | apply wA | apply wN | apply wD) | exact HB.out)⟩⟩
                              · rw [if_neg c57] at H
                                exact absurd H (by simp)
                      · rw [if_neg c17] at H
                        exact absurd H (by simp)
                    · replace c16 := Bool.eq_false_iff.mpr c16
                      subst c16
                      have H1 : (some (([] : List Int), 6)) = some (r1, r2) := by rw [if_neg (show ¬ (false = true) by decide)] at H; exact H
                      clear H
                      have H := H1
                      clear H1
                      simp only [Option.some.injEq, Prod.mk.injEq] at H
                      obtain ⟨rfl, rfl⟩ := H
                      go_wp2_with (first | ((with_reducible refine gate_callee (f := 34) rfl ?_); refine goesL_ (some 39) rfl rfl Tryz.func34 (by kernel_rfl) rfl #[.string t147] rfl (by (try simp only [List.map_toArray, List.map_cons, List.map_nil]); first | done | rfl | (simp only [List.length_drop, List.length_take]; rfl)) ?_; (with_reducible refine (words_isDecimal.calls t147 true _ A13.out).mono ?_); rintro e w61 ⟨rfl, hb⟩; refine ⟨_, rfl, ?_⟩; have n0_ := ak (Kd.R_below (by (with_reducible repeat (first | apply Kd.R_alloc | apply Kd.R_drewN | apply Kd.R_drew)); exact HO_5.out) hb); have n1_ := ak (Kd.R_below (by (with_reducible repeat (first | apply Kd.R_alloc | apply Kd.R_drewN | apply Kd.R_drew)); exact HO_22.out) hb); have n2_ := ak (below_step (by repeat (first | (with_reducible first | exact HB.out | apply wA | apply wN | apply wD) | exact HB.out)) hb); clear HO_5; clear HO_22; clear HB; have HO_5 := n0_; have HO_22 := n1_; have HB := n2_; clear n0_ n1_ n2_; (try clear hb); (try clear hb2); (try clear hk); (try clear hi)) | (go_at_call 34; (with_reducible refine (words_isDecimal.calls x9_9 false _ A15.out).mono ?_); rintro e w62 ⟨rfl, hb⟩; have n0_ := ak (Kd.R_below (by (with_reducible repeat (first | apply Kd.R_alloc | apply Kd.R_drewN | apply Kd.R_drew)); exact HO_5.out) hb); have n1_ := ak (Kd.R_below (by (with_reducible repeat (first | apply Kd.R_alloc | apply Kd.R_drewN | apply Kd.R_drew)); exact HO_22.out) hb); have n2_ := ak (below_step (by repeat (first | (with_reducible first | exact HB.out | apply wA | apply wN | apply wD) | exact HB.out)) hb); clear HO_5; clear HO_22; clear HB; have HO_5 := n0_; have HO_22 := n1_; have HB := n2_; clear n0_ n1_ n2_; (try clear hb); (try clear hb2); (try clear hk); (try clear hi)))
                      go_ret2
                      exact ⟨_, by first | rfl | (simp [errW_none, errW_some] <;> rfl) | (simp [*, errW_none, errW_some] <;> rfl), by first | exact Kd.R_nil _ _ _ _ _ | exact Kd.N_nil _ _ _ _ _ | exact Kd.V_nil _ _ _ _ _ | exact Kd.Q_nil _ _ _ _ _ | exact Kd.S_nil _ _ _ _ _, by repeat (first | (with_reducible first | exact HB.out | apply wA | apply wN | apply wD) | exact HB.out)⟩
                  · replace c14 := Bool.eq_false_iff.mpr c14
                    subst c14
                    have H1 : (some (([] : List Int), 6)) = some (r1, r2) := by rw [if_neg (show ¬ (false = true) by decide)] at H; exact H
                    clear H
                    have H := H1
                    clear H1
                    simp only [Option.some.injEq, Prod.mk.injEq] at H
                    obtain ⟨rfl, rfl⟩ := H
                    go_wp2_with (first | ((with_reducible refine gate_callee (f := 34) rfl ?_); refine goesL_ (some 39) rfl rfl Tryz.func34 (by kernel_rfl) rfl #[.string t147] rfl (by (try simp only [List.map_toArray, List.map_cons, List.map_nil]); first | done | rfl | (simp only [List.length_drop, List.length_take]; rfl)) ?_; (with_reducible refine (words_isDecimal.calls t147 false _ A13.out).mono ?_); rintro e w63 ⟨rfl, hb⟩; refine ⟨_, rfl, ?_⟩; have n0_ := ak (Kd.R_below (by (with_reducible repeat (first | apply Kd.R_alloc | apply Kd.R_drewN | apply Kd.R_drew)); exact HO_5.out) hb); have n1_ := ak (Kd.R_below (by (with_reducible repeat (first | apply Kd.R_alloc | apply Kd.R_drewN | apply Kd.R_drew)); exact HO_22.out) hb); have n2_ := ak (below_step (by repeat (first | (with_reducible first | exact HB.out | apply wA | apply wN | apply wD) | exact HB.out)) hb); clear HO_5; clear HO_22; clear HB; have HO_5 := n0_; have HO_22 := n1_; have HB := n2_; clear n0_ n1_ n2_; (try clear hb); (try clear hb2); (try clear hk); (try clear hi)))
                    go_ret2
                    exact ⟨_, by first | rfl | (simp [errW_none, errW_some] <;> rfl) | (simp [*, errW_none, errW_some] <;> rfl), by first | exact Kd.R_nil _ _ _ _ _ | exact Kd.N_nil _ _ _ _ _ | exact Kd.V_nil _ _ _ _ _ | exact Kd.Q_nil _ _ _ _ _ | exact Kd.S_nil _ _ _ _ _, by repeat (first | (with_reducible first | exact HB.out | apply wA | apply wN | apply wD) | exact HB.out)⟩
            · rw [if_neg c8] at H
              exact absurd H (by simp)
          · rw [if_neg c7] at H
            exact absurd H (by simp)
        · rw [if_neg c6] at H
          have c6b0 : decide (x24_1 < (t143.length : Int)) = false := decide_eq_false c6
          clear c6
          replace H := Option.bind_eq_some_iff.mp H
          obtain ⟨t167, A640, H⟩ := H
          replace H : ((words_compare.f x4_1 t167).bind fun t168 => (if t168 > 0 then (some (([] : List Int), 7)) else (words_ParseList.l1 k1 ([] : List Int) x5_1 (x5_1.length : Int) 0))) = some (r1, r2) := H
          have A64 := ak A640
          clear A640
          replace H := Option.bind_eq_some_iff.mp H
          obtain ⟨t168, A650, H⟩ := H
          replace H : (if t168 > 0 then (some (([] : List Int), 7)) else (words_ParseList.l1 k1 ([] : List Int) x5_1 (x5_1.length : Int) 0)) = some (r1, r2) := H
          have A65 := ak A650
          clear A650
          by_cases c66 : t168 > 0
          · rw [if_pos c66] at H
            have c66b0 : decide (0 < t168) = true := decide_eq_true c66
            clear c66
            simp only [Option.some.injEq, Prod.mk.injEq] at H
            obtain ⟨rfl, rfl⟩ := H
            go_wp2_with (first | ((with_reducible refine gate_callee (f := 30) rfl ?_); refine goesL_ (some 79) rfl rfl Tryz.func30 (by kernel_rfl) rfl #[.int .i64 1000000000] rfl (by (try simp only [List.map_toArray, List.map_cons, List.map_nil]); first | done | rfl | (simp only [List.length_drop, List.length_take]; rfl)) ?_; (with_reducible refine (strconv_Itoa_30.calls 1000000000 t167 _ A64.out ⟨Wd.All.stay HT.out (by repeat (first | (with_reducible first | exact HB.out | apply wA | apply wN | apply wD) | exact HB.out | (refine below_set ?_ (by assumption)) | (refine below_set ?_ (Aside0.out (by assumption)))))⟩).mono ?_); rintro e w67 ⟨rfl, hb⟩; refine ⟨_, rfl, ?_⟩; have n0_ := ak (Kd.R_below (by (with_reducible repeat (first | apply Kd.R_alloc | apply Kd.R_drewN | apply Kd.R_drew)); exact HO_5.out) hb); have n1_ := ak (Kd.R_below (by (with_reducible repeat (first | apply Kd.R_alloc | apply Kd.R_drewN | apply Kd.R_drew)); exact HO_22.out) hb); have n2_ := ak (below_step (by repeat (first | (with_reducible first | exact HB.out | apply wA | apply wN | apply wD) | exact HB.out)) hb); clear HO_5; clear HO_22; clear HB; have HO_5 := n0_; have HO_22 := n1_; have HB := n2_; clear n0_ n1_ n2_; (try clear hb); (try clear hb2); (try clear hk); (try clear hi)) | ((with_reducible refine gate_callee (f := 35) rfl ?_); refine goesL_ (some 80) rfl rfl Tryz.func35 (by kernel_rfl) rfl #[.string x4_1, .string t167] rfl (by (try simp only [List.map_toArray, List.map_cons, List.map_nil]); first | done | rfl | (simp only [List.length_drop, List.length_take]; rfl)) ?_; (with_reducible refine (words_compare.calls x4_1 t167 t168 _ A65.out).mono ?_); rintro e w68 ⟨rfl, hb⟩; refine ⟨_, rfl, ?_⟩; have n0_ := ak (Kd.R_below (by (with_reducible repeat (first | apply Kd.R_alloc | apply Kd.R_drewN | apply Kd.R_drew)); exact HO_5.out) hb); have n1_ := ak (Kd.R_below (by (with_reducible repeat (first | apply Kd.R_alloc | apply Kd.R_drewN | apply Kd.R_drew)); exact HO_22.out) hb); have n2_ := ak (below_step (by repeat (first | (with_reducible first | exact HB.out | apply wA | apply wN | apply wD) | exact HB.out)) hb); clear HO_5; clear HO_22; clear HB; have HO_5 := n0_; have HO_22 := n1_; have HB := n2_; clear n0_ n1_ n2_; (try clear hb); (try clear hb2); (try clear hk); (try clear hi)))
            go_ret2
            exact ⟨_, by first | rfl | (simp [errW_none, errW_some] <;> rfl) | (simp [*, errW_none, errW_some] <;> rfl), by first | exact Kd.R_nil _ _ _ _ _ | exact Kd.N_nil _ _ _ _ _ | exact Kd.V_nil _ _ _ _ _ | exact Kd.Q_nil _ _ _ _ _ | exact Kd.S_nil _ _ _ _ _, by repeat (first | (with_reducible first | exact HB.out | apply wA | apply wN | apply wD) | exact HB.out)⟩
          · rw [if_neg c66] at H
            have c66b0 : decide (0 < t168) = false := decide_eq_false c66
            clear c66
            have H' := ak H
            clear H
            go_wp2_with (first | ((with_reducible refine gate_callee (f := 30) rfl ?_); refine goesL_ (some 79) rfl rfl Tryz.func30 (by kernel_rfl) rfl #[.int .i64 1000000000] rfl (by (try simp only [List.map_toArray, List.map_cons, List.map_nil]); first | done | rfl | (simp only [List.length_drop, List.length_take]; rfl)) ?_; (with_reducible refine (strconv_Itoa_30.calls 1000000000 t167 _ A64.out ⟨Wd.All.stay HT.out (by repeat (first | (with_reducible first | exact HB.out | apply wA | apply wN | apply wD) | exact HB.out | (refine below_set ?_ (by assumption)) | (refine below_set ?_ (Aside0.out (by assumption)))))⟩).mono ?_); rintro e w69 ⟨rfl, hb⟩; refine ⟨_, rfl, ?_⟩; have n0_ := ak (Kd.R_below (by (with_reducible repeat (first | apply Kd.R_alloc | apply Kd.R_drewN | apply Kd.R_drew)); exact HO_5.out) hb); have n1_ := ak (Kd.R_below (by (with_reducible repeat (first | apply Kd.R_alloc | apply Kd.R_drewN | apply Kd.R_drew)); exact HO_22.out) hb); have n2_ := ak (below_step (by repeat (first | (with_reducible first | exact HB.out | apply wA | apply wN | apply wD) | exact HB.out)) hb); clear HO_5; clear HO_22; clear HB; have HO_5 := n0_; have HO_22 := n1_; have HB := n2_; clear n0_ n1_ n2_; (try clear hb); (try clear hb2); (try clear hk); (try clear hi)) | ((with_reducible refine gate_callee (f := 35) rfl ?_); refine goesL_ (some 80) rfl rfl Tryz.func35 (by kernel_rfl) rfl #[.string x4_1, .string t167] rfl (by (try simp only [List.map_toArray, List.map_cons, List.map_nil]); first | done | rfl | (simp only [List.length_drop, List.length_take]; rfl)) ?_; (with_reducible refine (words_compare.calls x4_1 t167 t168 _ A65.out).mono ?_); rintro e w70 ⟨rfl, hb⟩; refine ⟨_, rfl, ?_⟩; have n0_ := ak (Kd.R_below (by (with_reducible repeat (first | apply Kd.R_alloc | apply Kd.R_drewN | apply Kd.R_drew)); exact HO_5.out) hb); have n1_ := ak (Kd.R_below (by (with_reducible repeat (first | apply Kd.R_alloc | apply Kd.R_drewN | apply Kd.R_drew)); exact HO_22.out) hb); have n2_ := ak (below_step (by repeat (first | (with_reducible first | exact HB.out | apply wA | apply wN | apply wD) | exact HB.out)) hb); clear HO_5; clear HO_22; clear HB; have HO_5 := n0_; have HO_22 := n1_; have HB := n2_; clear n0_ n1_ n2_; (try clear hb); (try clear hb2); (try clear hk); (try clear hi); obtain ⟨Ao71, co71, eo71⟩ := Kd.R_slice HO_5.out; subst eo71))
            go_loopg [11, 84] k1 (fun kq v11 v84 w' => ∃ (x11_2 : List Int) (x84_2 : Int), v84 = .int .i64 x84_2 ∧ Aside0 (words_ParseList.l1 kq x11_2 x5_1 (x5_1.length : Int) x84_2 = some (r1, r2)) ∧ Aside0 (kq ≤ k1) ∧ Aside0 (Kd.R (Kd.int .i64) 3 w' w.heap.size (fun _ => True) v11 x11_2) ∧ Aside0 (Kd.R k76 76 w' w.heap.size (fun _ => True) (.slice Ao71 x5_1.length co71) x5_1) ∧ Aside0 (Below w.heap.size w w'))
            case atStart => exact ⟨(([] : List Int)), (0), (by first | rfl | (simp; done) | (simp [*]; done)), H', ⟨Nat.le_refl _⟩, ⟨by first | exact Kd.R_nil _ _ _ _ _ | exact Kd.N_nil _ _ _ _ _ | exact Kd.V_nil _ _ _ _ _ | exact Kd.Q_nil _ _ _ _ _ | exact Kd.S_nil _ _ _ _ _⟩, ⟨by (with_reducible repeat (first | apply Kd.R_alloc | apply Kd.R_drewN | apply Kd.R_drew)); exact HO_5.out⟩, ⟨by repeat (first | (with_reducible first | exact HB.out | apply wA | apply wN | apply wD) | exact HB.out)⟩⟩
            case round =>
              clear H'
              try clear c1
              try clear p1
              try clear q1
              try clear hx1
              try clear qi1
              try clear c2
              try clear c2b0
              try clear c2b1
              try clear p2
              try clear c3
              try clear c4
              try clear c5
              try clear c6
              try clear c6b0
              try clear p6
              try clear c7
              try clear c7b0
              try clear c8
              try clear c8b0
              try clear c12
              try clear c14
              try clear p14
              try clear q14
              try clear hx14
              try clear c16
              try clear c17
              try clear c17b0
              try clear c17b1
              try clear p18
              try clear q18
              try clear hx18
              try clear qi18
              try clear c19
              try clear c19b0
              try clear c19b1
              try clear c22
              try clear c24
              try clear c24b0
              try clear c28
              try clear c28b0
              try clear c30
              try clear c31
              try clear c32
              try clear c33
              try clear c34
              try clear c35
              try clear c41
              try clear c46
              try clear c46b0
              try clear c48
              try clear c49
              try clear c57
              try clear p64
              try clear c66
              try clear c66b0
              try clear hx146_0
              try clear p1
              try clear p146
              try clear p18
              try clear p2
              try clear q1
              try clear q146
              try clear q18
              obtain ⟨x11_2, x84_2, rfl, HA, HK2, HO_11, HO_82, HB⟩ := hrel
              cases gk with
              | zero => exact absurd HA.out (by simp [words_ParseList.l1])
              | succ k2 =>
                have H := HA.out
                clear HA
                simp only [words_ParseList.l1] at H
                by_cases c72 : x84_2 < (x5_1.length : Int)
                · rw [if_pos c72] at H
                  have c72b0 : decide (x84_2 < (x5_1.length : Int)) = true := decide_eq_true c72
                  clear c72
                  by_cases c73 : 0 ≤ x84_2
                  · rw [if_pos c73] at H
                    have c73b0 : decide (0 ≤ x84_2) = true := decide_eq_true c73
                    clear c73
                    by_cases c74 : x84_2 < (x5_1.length : Int)
                    · rw [if_pos c74] at H
                      have c74b0 : decide (x84_2 < (x5_1.length : Int)) = true := decide_eq_true c74
                      clear c74
                      replace H := Option.bind_eq_some_iff.mp H
                      obtain ⟨⟨t171, t172⟩, A750, H⟩ := H
                      replace H : ((strconv_Atoi_37.f ((rd_T76 x5_1 x84_2).f1)).bind fun bt173 => (if (wrap64 (bt173.1 - t171)) ≥ (wrap64 (500 - (x11_2.length : Int))) then (some (([] : List Int), 3)) else (words_ParseList.l2 k2 x11_2 bt173.1 t171 x5_1 (x5_1.length : Int) x84_2))) = some (r1, r2) := H
                      have A75 := ak A750
                      clear A750
                      replace H := Option.bind_eq_some_iff.mp H
                      obtain ⟨⟨t173, t174⟩, A760, H⟩ := H
                      replace H : (if (wrap64 (t173 - t171)) ≥ (wrap64 (500 - (x11_2.length : Int))) then (some (([] : List Int), 3)) else (words_ParseList.l2 k2 x11_2 t173 t171 x5_1 (x5_1.length : Int) x84_2)) = some (r1, r2) := H
                      have A76 := ak A760
                      clear A760
                      by_cases c77 : (wrap64 (t173 - t171)) ≥ (wrap64 (500 - (x11_2.length : Int)))
                      · rw [if_pos c77] at H
                        have c77b0 : decide ((wrap64 (500 - (x11_2.length : Int))) ≤ (wrap64 (t173 - t171))) = true := decide_eq_true c77
                        clear c77
                        simp only [Option.some.injEq, Prod.mk.injEq] at H
                        obtain ⟨rfl, rfl⟩ := H
                        have p169 : 0 ≤ (x84_2 : Int) := of_decide_eq_true (by first | (with_reducible assumption) | assumption)
                        have q169 : x84_2 < (x5_1.length : Int) := of_decide_eq_true (by first | (with_reducible assumption) | assumption)
                        obtain ⟨ad169, e169, hx169_0, hx169_1⟩ := at_T76 (Kd.R_reads' HO_82.out).2.2 x84_2 p169 q169
                        cases e169
                        replace p169 := eq_true p169
                        replace q169 := eq_true q169
                        go_wp2_with (first | ((with_reducible refine gate_dst (N := 13) rfl ?_); refine box_event ?hg (N := 13) ?hd (cs := #[.string (⟨#[]⟩ : ByteArray), .string (⟨#[]⟩ : ByteArray)]) (t := 76) ?hr ?_; (case hd => rfl); (case hg => rfl); (case hr => first | (go_simp; done) | (go_simp; rfl)); intro gb170 hg w78 hbox hb; have n0_ := ak (Kd.R_below (by (with_reducible repeat (first | apply Kd.R_alloc | apply Kd.R_drewN | apply Kd.R_drew)); exact HO_11.out) hb); have n1_ := ak (Kd.R_below (Kd.R_elderB (by (with_reducible repeat (first | apply Kd.R_alloc | apply Kd.R_drewN | apply Kd.R_drew)); exact HO_82.out) gb170 (Nat.le_of_eq hg.symm)) hb); have n2_ := ak (below_step (by repeat (first | (with_reducible first | exact HB.out | apply wA | apply wN | apply wD) | exact HB.out)) hb); have n3_ := ak (hbox); have n4_ := ak ((by rw [hg]; exact (below_size (by repeat (first | (with_reducible first | exact HB.out | apply wA | apply wN | apply wD) | exact HB.out))) : w.heap.size ≤ gb170)); have n5_ := ak ((by rw [hg]; exact (below_size (by repeat (first | (with_reducible first | exact HB.out | apply wA | apply wN | apply wD) | exact HB.out))) : w.heap.size ≤ gb170)); clear HO_11; clear HO_82; clear HB; have HO_11 := n0_; have HO_82 := n1_; have HB := n2_; have BK170 := n3_; have GW170 := n4_; have GE170 := n5_; clear n0_ n1_ n2_ n3_ n4_ n5_; clear hb hbox hg; have hcz79_0 : w78.cell? ⟨gb170, 0, none⟩ = some (.string (⟨#[]⟩ : ByteArray)) := (blk_cell BK170.out 0).trans rfl; have hcz79_1 : w78.cell? ⟨gb170, 1, none⟩ = some (.string (⟨#[]⟩ : ByteArray)) := (blk_cell BK170.out 1).trans rfl; have hfz79_0 := blk_frozen BK170.out 0; have hfz79_1 := blk_frozen BK170.out 1) | ((with_reducible refine gate_callee (f := 37) rfl ?_); refine goesL_ (some 91) rfl rfl Tryz.func37 (by kernel_rfl) rfl #[.string ((rd_T76 x5_1 x84_2).f0)] rfl (by (try simp only [List.map_toArray, List.map_cons, List.map_nil]); first | done | rfl | (simp only [List.length_drop, List.length_take]; rfl)) ?_; (with_reducible refine (strconv_Atoi_37.calls ((rd_T76 x5_1 x84_2).f0) t171 t172 _ A75.out).mono ?_); rintro e w80 ⟨rfl, hb⟩; refine ⟨_, rfl, ?_⟩; have n0_ := ak (Kd.R_below (by (with_reducible repeat (first | apply Kd.R_alloc | apply Kd.R_drewN | apply Kd.R_drew)); exact (Kd.R_mono (Kd.R_far (p := ⟨gb170, 1, none⟩) (Kd.R_far (p := ⟨gb170, 0, none⟩) (Kd.R_types HO_11.out BK170.out (by decide)) (fun _ hk => hk.2) (.string ((rd_T76 x5_1 x84_2).f0))) (fun _ hk => hk.2) (.string ((rd_T76 x5_1 x84_2).f1))) (fun _ h_ => h_.1))) hb); have n1_ := ak (Kd.R_below (by (with_reducible repeat (first | apply Kd.R_alloc | apply Kd.R_drewN | apply Kd.R_drew)); exact (Kd.R_mono (Kd.R_far (p := ⟨gb170, 1, none⟩) (Kd.R_far (p := ⟨gb170, 0, none⟩) (Kd.R_mono HO_82.out (fun k_ hk => (⟨hk, by first | exact hk.2 | exact hk.2.2 | exact hk.2.1 | omega⟩ : _ ∧ k_ ≠ gb170))) (fun _ hk => hk.2) (.string ((rd_T76 x5_1 x84_2).f0))) (fun _ hk => hk.2) (.string ((rd_T76 x5_1 x84_2).f1))) (fun _ h_ => h_.1))) hb); have n2_ := ak (blk_below (g := gb170) (o := .cells #[.string ((rd_T76 x5_1 x84_2).f0), .string ((rd_T76 x5_1 x84_2).f1)] 76 (0, 0)) (by (with_reducible repeat (first | refine bN ?_ _ | refine bD ?_ | refine bA ?_ _)); refine blk_put (cs := #[.string ((rd_T76 x5_1 x84_2).f0), .string (⟨#[]⟩ : ByteArray)]) ?_ 1 _ rfl; (with_reducible repeat (first | refine bN ?_ _ | refine bD ?_ | refine bA ?_ _)); refine blk_put (cs := #[.string (⟨#[]⟩ : ByteArray), .string (⟨#[]⟩ : ByteArray)]) ?_ 0 _ rfl; (with_reducible repeat (first | refine bN ?_ _ | refine bD ?_ | refine bA ?_ _)); exact BK170.out) hb); have n3_ := ak (below_step (by repeat (first | (with_reducible first | exact HB.out | apply wA | apply wN | apply wD | refine below_set ?_ GE170.out) | exact HB.out)) hb); clear HO_11; clear HO_82; clear BK170; clear HB; have HO_11 := n0_; have HO_82 := n1_; have BK170 := n2_; have HB := n3_; clear n0_ n1_ n2_ n3_; (try clear hb); (try clear hb2); (try clear hk); (try clear hi); (try simp only [errW_none, errW_some]); have hcz81_0 : w80.cell? ⟨gb170, 0, none⟩ = some (.string ((rd_T76 x5_1 x84_2).f0)) := (blk_cell BK170.out 0).trans rfl; have hcz81_1 : w80.cell? ⟨gb170, 1, none⟩ = some (.string ((rd_T76 x5_1 x84_2).f1)) := (blk_cell BK170.out 1).trans rfl; have hfz81_0 := blk_frozen BK170.out 0; have hfz81_1 := blk_frozen BK170.out 1) | ((with_reducible refine gate_callee (f := 37) rfl ?_); refine goesL_ (some 97) rfl rfl Tryz.func37 (by kernel_rfl) rfl #[.string ((rd_T76 x5_1 x84_2).f1)] rfl (by (try simp only [List.map_toArray, List.map_cons, List.map_nil]); first | done | rfl | (simp only [List.length_drop, List.length_take]; rfl)) ?_; (with_reducible refine (strconv_Atoi_37.calls ((rd_T76 x5_1 x84_2).f1) t173 t174 _ A76.out).mono ?_); rintro e w82 ⟨rfl, hb⟩; refine ⟨_, rfl, ?_⟩; have n0_ := ak (Kd.R_below (by (with_reducible repeat (first | apply Kd.R_alloc | apply Kd.R_drewN | apply Kd.R_drew)); exact HO_11.out) hb); have n1_ := ak (Kd.R_below (by (with_reducible repeat (first | apply Kd.R_alloc | apply Kd.R_drewN | apply Kd.R_drew)); exact HO_82.out) hb); have n2_ := ak (blk_below (g := gb170) (o := .cells #[.string ((rd_T76 x5_1 x84_2).f0), .string ((rd_T76 x5_1 x84_2).f1)] 76 (0, 0)) (by (with_reducible repeat (first | refine bN ?_ _ | refine bD ?_ | refine bA ?_ _)); exact BK170.out) hb); have n3_ := ak (below_step (by repeat (first | (with_reducible first | exact HB.out | apply wA | apply wN | apply wD | refine below_set ?_ GE170.out) | exact HB.out)) hb); clear HO_11; clear HO_82; clear BK170; clear HB; have HO_11 := n0_; have HO_82 := n1_; have BK170 := n2_; have HB := n3_; clear n0_ n1_ n2_ n3_; (try clear hb); (try clear hb2); (try clear hk); (try clear hi); (try simp only [errW_none, errW_some]); obtain ⟨Ao83, co83, eo83⟩ := Kd.R_slice HO_11.out; subst eo83))
                        go_ret2
                        exact ⟨_, by first | rfl | (simp [errW_none, errW_some] <;> rfl) | (simp [*, errW_none, errW_some] <;> rfl), by first | exact Kd.R_nil _ _ _ _ _ | exact Kd.N_nil _ _ _ _ _ | exact Kd.V_nil _ _ _ _ _ | exact Kd.Q_nil _ _ _ _ _ | exact Kd.S_nil _ _ _ _ _, by repeat (first | (with_reducible first | exact HB.out | apply wA | apply wN | apply wD | refine below_set ?_ GE170.out) | exact HB.out)⟩
                      · rw [if_neg c77] at H
                        have c77b0 : decide ((wrap64 (500 - (x11_2.length : Int))) ≤ (wrap64 (t173 - t171))) = false := decide_eq_false c77
                        clear c77
                        have H' := ak H
                        clear H
                        have p169 : 0 ≤ (x84_2 : Int) := of_decide_eq_true (by first | (with_reducible assumption) | assumption)
                        have q169 : x84_2 < (x5_1.length : Int) := of_decide_eq_true (by first | (with_reducible assumption) | assumption)
                        obtain ⟨ad169, e169, hx169_0, hx169_1⟩ := at_T76 (Kd.R_reads' HO_82.out).2.2 x84_2 p169 q169
                        cases e169
                        replace p169 := eq_true p169
                        replace q169 := eq_true q169
                        go_wp2_with (first | ((with_reducible refine gate_dst (N := 13) rfl ?_); refine box_event ?hg (N := 13) ?hd (cs := #[.string (⟨#[]⟩ : ByteArray), .string (⟨#[]⟩ : ByteArray)]) (t := 76) ?hr ?_; (case hd => rfl); (case hg => rfl); (case hr => first | (go_simp; done) | (go_simp; rfl)); intro gb170 hg w84 hbox hb; have n0_ := ak (Kd.R_below (by (with_reducible repeat (first | apply Kd.R_alloc | apply Kd.R_drewN | apply Kd.R_drew)); exact HO_11.out) hb); have n1_ := ak (Kd.R_below (Kd.R_elderB (by (with_reducible repeat (first | apply Kd.R_alloc | apply Kd.R_drewN | apply Kd.R_drew)); exact HO_82.out) gb170 (Nat.le_of_eq hg.symm)) hb); have n2_ := ak (below_step (by repeat (first | (with_reducible first | exact HB.out | apply wA | apply wN | apply wD) | exact HB.out)) hb); have n3_ := ak (hbox); have n4_ := ak ((by rw [hg]; exact (below_size (by repeat (first | (with_reducible first | exact HB.out | apply wA | apply wN | apply wD) | exact HB.out))) : w.heap.size ≤ gb170)); have n5_ := ak ((by rw [hg]; exact (below_size (by repeat (first | (with_reducible first | exact HB.out | apply wA | apply wN | apply wD) | exact HB.out))) : w.heap.size ≤ gb170)); clear HO_11; clear HO_82; clear HB; have HO_11 := n0_; have HO_82 := n1_; have HB := n2_; have BK170 := n3_; have GW170 := n4_; have GE170 := n5_; clear n0_ n1_ n2_ n3_ n4_ n5_; clear hb hbox hg; have hcz85_0 : w84.cell? ⟨gb170, 0, none⟩ = some (.string (⟨#[]⟩ : ByteArray)) := (blk_cell BK170.out 0).trans rfl; have hcz85_1 : w84.cell? ⟨gb170, 1, none⟩ = some (.string (⟨#[]⟩ : ByteArray)) := (blk_cell BK170.out 1).trans rfl; have hfz85_0 := blk_frozen BK170.out 0; have hfz85_1 := blk_frozen BK170.out 1) | ((with_reducible refine gate_callee (f := 37) rfl ?_); refine goesL_ (some 91) rfl rfl Tryz.func37 (by kernel_rfl) rfl #[.string ((rd_T76 x5_1 x84_2).f0)] rfl (by (try simp only [List.map_toArray, List.map_cons, List.map_nil]); first | done | rfl | (simp only [List.length_drop, List.length_take]; rfl)) ?_; (with_reducible refine (strconv_Atoi_37.calls ((rd_T76 x5_1 x84_2).f0) t171 t172 _ A75.out).mono ?_); rintro e w86 ⟨rfl, hb⟩; refine ⟨_, rfl, ?_⟩; have n0_ := ak (Kd.R_below (by (with_reducible repeat (first | apply Kd.R_alloc | apply Kd.R_drewN | apply Kd.R_drew)); exact (Kd.R_mono (Kd.R_far (p := ⟨gb170, 1, none⟩) (Kd.R_far (p := ⟨gb170, 0, none⟩) (Kd.R_types HO_11.out BK170.out (by decide)) (fun _ hk => hk.2) (.string ((rd_T76 x5_1 x84_2).f0))) (fun _ hk => hk.2) (.string ((rd_T76 x5_1 x84_2).f1))) (fun _ h_ => h_.1))) hb); have n1_ := ak (Kd.R_below (by (with_reducible repeat (first | apply Kd.R_alloc | apply Kd.R_drewN | apply Kd.R_drew)); exact (Kd.R_mono (Kd.R_far (p := ⟨gb170, 1, none⟩) (Kd.R_far (p := ⟨gb170, 0, none⟩) (Kd.R_mono HO_82.out (fun k_ hk => (⟨hk, by first | exact hk.2 | exact hk.2.2 | exact hk.2.1 | omega⟩ : _ ∧ k_ ≠ gb170))) (fun _ hk => hk.2) (.string ((rd_T76 x5_1 x84_2).f0))) (fun _ hk => hk.2) (.string ((rd_T76 x5_1 x84_2).f1))) (fun _ h_ => h_.1))) hb); have n2_ := ak (blk_below (g := gb170) (o := .cells #[.string ((rd_T76 x5_1 x84_2).f0), .string ((rd_T76 x5_1 x84_2).f1)] 76 (0, 0)) (by (with_reducible repeat (first | refine bN ?_ _ | refine bD ?_ | refine bA ?_ _)); refine blk_put (cs := #[.string ((rd_T76 x5_1 x84_2).f0), .string (⟨#[]⟩ : ByteArray)]) ?_ 1 _ rfl; (with_reducible repeat (first | refine bN ?_ _ | refine bD ?_ | refine bA ?_ _)); refine blk_put (cs := #[.string (⟨#[]⟩ : ByteArray), .string (⟨#[]⟩ : ByteArray)]) ?_ 0 _ rfl; (with_reducible repeat (first | refine bN ?_ _ | refine bD ?_ | refine bA ?_ _)); exact BK170.out) hb); have n3_ := ak (below_step (by repeat (first | (with_reducible first | exact HB.out | apply wA | apply wN | apply wD | refine below_set ?_ GE170.out) | exact HB.out)) hb); clear HO_11; clear HO_82; clear BK170; clear HB; have HO_11 := n0_; have HO_82 := n1_; have BK170 := n2_; have HB := n3_; clear n0_ n1_ n2_ n3_; (try clear hb); (try clear hb2); (try clear hk); (try clear hi); (try simp only [errW_none, errW_some]); have hcz87_0 : w86.cell? ⟨gb170, 0, none⟩ = some (.string ((rd_T76 x5_1 x84_2).f0)) := (blk_cell BK170.out 0).trans rfl; have hcz87_1 : w86.cell? ⟨gb170, 1, none⟩ = some (.string ((rd_T76 x5_1 x84_2).f1)) := (blk_cell BK170.out 1).trans rfl; have hfz87_0 := blk_frozen BK170.out 0; have hfz87_1 := blk_frozen BK170.out 1) | ((with_reducible refine gate_callee (f := 37) rfl ?_); refine goesL_ (some 97) rfl rfl Tryz.func37 (by kernel_rfl) rfl #[.string ((rd_T76 x5_1 x84_2).f1)] rfl (by (try simp only [List.map_toArray, List.map_cons, List.map_nil]); first | done | rfl | (simp only [List.length_drop, List.length_take]; rfl)) ?_; (with_reducible refine (strconv_Atoi_37.calls ((rd_T76 x5_1 x84_2).f1) t173 t174 _ A76.out).mono ?_); rintro e w88 ⟨rfl, hb⟩; refine ⟨_, rfl, ?_⟩; have n0_ := ak (Kd.R_below (by (with_reducible repeat (first | apply Kd.R_alloc | apply Kd.R_drewN | apply Kd.R_drew)); exact HO_11.out) hb); have n1_ := ak (Kd.R_below (by (with_reducible repeat (first | apply Kd.R_alloc | apply Kd.R_drewN | apply Kd.R_drew)); exact HO_82.out) hb); have n2_ := ak (blk_below (g := gb170) (o := .cells #[.string ((rd_T76 x5_1 x84_2).f0), .string ((rd_T76 x5_1 x84_2).f1)] 76 (0, 0)) (by (with_reducible repeat (first | refine bN ?_ _ | refine bD ?_ | refine bA ?_ _)); exact BK170.out) hb); have n3_ := ak (below_step (by repeat (first | (with_reducible first | exact HB.out | apply wA | apply wN | apply wD | refine below_set ?_ GE170.out) | exact HB.out)) hb); clear HO_11; clear HO_82; clear BK170; clear HB; have HO_11 := n0_; have HO_82 := n1_; have BK170 := n2_; have HB := n3_; clear n0_ n1_ n2_ n3_; (try clear hb); (try clear hb2); (try clear hk); (try clear hi); (try simp only [errW_none, errW_some]); obtain ⟨Ao89, co89, eo89⟩ := Kd.R_slice HO_11.out; subst eo89))
                        go_loopg [11, 18] k2 (fun kq v11 v18 w' => ∃ (x11_3 : List Int) (x18_3 : Int), v18 = .int .i64 x18_3 ∧ Aside0 (words_ParseList.l2 kq x11_3 t173 x18_3 x5_1 (x5_1.length : Int) x84_2 = some (r1, r2)) ∧ Aside0 (kq ≤ k2) ∧ Aside0 (Kd.R (Kd.int .i64) 3 w' w.heap.size (fun _ => True) v11 x11_3) ∧ Aside0 (Kd.R k76 76 w' w.heap.size (fun k_ => k_ ≠ gb170) (.slice (some ad169) x5_1.length co71) x5_1) ∧ Aside0 (w'.heap[gb170]? = some (.cells #[.string ((rd_T76 x5_1 x84_2).f0), .string ((rd_T76 x5_1 x84_2).f1)] 76 (0, 0))) ∧ Aside0 (Below w.heap.size w w'))
                        case atStart => exact ⟨(x11_2), (t171), (by first | rfl | (simp; done) | (simp [*]; done)), H', ⟨Nat.le_refl _⟩, ⟨by (with_reducible repeat (first | apply Kd.R_alloc | apply Kd.R_drewN | apply Kd.R_drew)); exact HO_11.out⟩, ⟨by (with_reducible repeat (first | apply Kd.R_alloc | apply Kd.R_drewN | apply Kd.R_drew)); exact Kd.R_mono HO_82.out (fun _ hk => hk.2)⟩, ⟨by (with_reducible repeat (first | refine bN ?_ _ | refine bD ?_ | refine bA ?_ _)); exact BK170.out⟩, ⟨by repeat (first | (with_reducible first | exact HB.out | apply wA | apply wN | apply wD | refine below_set ?_ GE170.out) | exact HB.out)⟩⟩
                        case round =>
                          clear H'
                          try clear c1
                          try clear p1
                          try clear q1
                          try clear hx1
                          try clear qi1
                          try clear c2
                          try clear c2b0
                          try clear c2b1
                          try clear p2
                          try clear c3
                          try clear c4
                          try clear c5
                          try clear c6
                          try clear c6b0
                          try clear p6
                          try clear c7
                          try clear c7b0
                          try clear c8
                          try clear c8b0
                          try clear c12
                          try clear c14
                          try clear p14
                          try clear q14
                          try clear hx14
                          try clear c16
                          try clear p16
                          try clear q16
                          try clear hx16
                          try clear c17
                          try clear c17b0
                          try clear c17b1
                          try clear p18
                          try clear q18
                          try clear hx18
                          try clear qi18
                          try clear c19
                          try clear c19b0
                          try clear c19b1
                          try clear c22
                          try clear c24
                          try clear c24b0
                          try clear c28
                          try clear c28b0
                          try clear c30
                          try clear c31
                          try clear c32
                          try clear c33
                          try clear c34
                          try clear c35
                          try clear c37
                          try clear c41
                          try clear c46
                          try clear c46b0
                          try clear c48
                          try clear c49
                          try clear c57
                          try clear p64
                          try clear c66
                          try clear c66b0
                          try clear c72
                          try clear c72b0
                          try clear c73
                          try clear c73b0
                          try clear c74
                          try clear c74b0
                          try clear c77
                          try clear c77b0
                          try clear hcz79_0
                          try clear hcz79_1
                          try clear hcz81_0
                          try clear hcz81_1
                          try clear hcz85_0
                          try clear hcz85_1
                          try clear hcz87_0
                          try clear hcz87_1
                          try clear hfz79_0
                          try clear hfz79_1
                          try clear hfz81_0
                          try clear hfz81_1
                          try clear hfz85_0
                          try clear hfz85_1
                          try clear hfz87_0
                          try clear hfz87_1
                          try clear hx146_0
                          try clear hx169_0
                          try clear hx169_1
                          try clear p1
                          try clear p14
                          try clear p146
                          try clear p169
                          try clear p18
                          try clear p2
                          try clear p6
                          try clear p64
                          try clear q1
                          try clear q14
                          try clear q146
                          try clear q169
                          try clear q18
                          obtain ⟨x11_3, x18_3, rfl, HA, HK3, HO_11, HO_82, BK170, HB⟩ := hrel
                          cases gk with
                          | zero => exact absurd HA.out (by simp [words_ParseList.l2])
                          | succ k3 =>
                            have H := HA.out
                            clear HA
                            simp only [words_ParseList.l2] at H
                            by_cases c90 : x18_3 ≤ t173
                            · rw [if_pos c90] at H
                              have c90b0 : decide (x18_3 ≤ t173) = true := decide_eq_true c90
                              clear c90
                              by_cases c91 : x11_3.length < 17592186044416
                              · rw [if_pos c91] at H
                                have LMc91 := ak c91
                                clear c91
                                obtain ⟨y175, hy175⟩ : ∃ y_ : List Int, y_ = (x11_3 ++ [x18_3]) := ⟨_, rfl⟩
                                replace H : (words_ParseList.l2 k3 y175 t173 (wrap64 (x18_3 + 1)) x5_1 (x5_1.length : Int) x84_2) = some (r1, r2) := by first | (rw [hy175]; with_reducible exact H) | (have H2_ := (Option.bind_some _ _).symm.trans H; rw [hy175]; with_reducible exact H2_) | (have H2_ := (Option.bind_some _ _).symm.trans H; with_reducible exact H2_) | with_reducible exact H | (rw [hy175]; exact H) | exact H
                                have Ny175 := ak hy175
                                clear hy175
                                have H' := ak H
                                clear H
                                go_wp2_with (first | ((with_reducible refine gate_builtin (b := .append) (xs := #[.tmp 113, .tmp 115]) rfl ?_); at_builtin; refine Kd.R_append (Kd.int .i64) (w0 := w) w.heap.size rfl (.tmp 113) (.tmp 115) 23 3 (.int .i64 0) 8 rfl Tryz.underlying23 info3 rfl (by decide) (by omega) u11 x11_3 x18_3 [.int .i64 x18_3] (fun _ => True) (fun _ => False) rfl rfl ?aP (fun _ hk => hk.elim) ?aF ?aO ?aB ?aS ?aL ?_; (case aP => exact rfl); (case aB => exact (by repeat (first | (with_reducible first | exact HB.out | apply wA | apply wN | apply wD | refine below_set ?_ GE170.out) | exact HB.out))); (case aF => exact (fun _ _ => trivial)); (case aO => exact (by (with_reducible repeat (first | apply Kd.R_alloc | apply Kd.R_drewN | apply Kd.R_drew)); exact HO_11.out)); (case aS => exact (below_size (by repeat (first | (with_reducible first | exact HB.out | apply wA | apply wN | apply wD | refine below_set ?_ GE170.out) | exact HB.out)))); (case aL => have := LMc91.out; omega); intro v176 w92 ho hb hg hat; rw [← Ny175.out] at ho; have n0_ := ak (Kd.R_over' (by (with_reducible repeat (first | apply Kd.R_alloc | apply Kd.R_drewN | apply Kd.R_drew)); exact HO_82.out) (Kd.R_typed (by (with_reducible repeat (first | apply Kd.R_alloc | apply Kd.R_drewN | apply Kd.R_drew)); exact HO_11.out)) (by decide) hg); have n1_ := ak (blk_grown (g := gb170) (o := .cells #[.string ((rd_T76 x5_1 x84_2).f0), .string ((rd_T76 x5_1 x84_2).f1)] 76 (0, 0)) (by (with_reducible repeat (first | refine bN ?_ _ | refine bD ?_ | refine bA ?_ _)); exact BK170.out) hg (Kd.R_ne HO_11.out BK170.out (by decide))); have n2_ := ak (hb); have n3_ := ak (ho); clear HO_82; clear BK170; clear HB; clear HO_11; have HO_82 := n0_; have BK170 := n1_; have HB := n2_; have HO177 := n3_; clear n0_ n1_ n2_ n3_; clear ho hb hg hat))
                                go_roundg k3
                                case measure => have := HK1.out; have := HK2.out; have := HK3.out; omega
                                case rel => exact ⟨(y175), (wrap64 (x18_3 + 1)), (by first | rfl | (simp; done) | (simp [*]; done)), H', ⟨by have := HK1.out; have := HK2.out; have := HK3.out; omega⟩, ⟨by (with_reducible repeat (first | apply Kd.R_alloc | apply Kd.R_drewN | apply Kd.R_drew)); exact HO177.out⟩, ⟨by (with_reducible repeat (first | apply Kd.R_alloc | apply Kd.R_drewN | apply Kd.R_drew)); exact HO_82.out⟩, ⟨by (with_reducible repeat (first | refine bN ?_ _ | refine bD ?_ | refine bA ?_ _)); exact BK170.out⟩, ⟨by repeat (first | (with_reducible first | exact HB.out | apply wA | apply wN | apply wD | refine below_set ?_ GE170.out) | exact HB.out)⟩⟩
                              · rw [if_neg c91] at H
                                exact absurd H (by simp)
                            · rw [if_neg c90] at H
                              have c90b0 : decide (x18_3 ≤ t173) = false := decide_eq_false c90
                              clear c90
                              have H' := ak H
                              clear H
                              go_wp2
                              go_roundg k3
                              case measure => have := HK1.out; have := HK2.out; have := HK3.out; omega
                              case rel => exact ⟨(x11_3), (wrap64 (x84_2 + 1)), (by first | rfl | (simp; done) | (simp [*]; done)), H', ⟨by have := HK1.out; have := HK2.out; have := HK3.out; omega⟩, ⟨by (with_reducible repeat (first | apply Kd.R_alloc | apply Kd.R_drewN | apply Kd.R_drew)); exact HO_11.out⟩, ⟨by (with_reducible repeat (first | apply Kd.R_alloc | apply Kd.R_drewN | apply Kd.R_drew)); exact Kd.R_mono HO_82.out (fun _ hk => trivial)⟩, ⟨by repeat (first | (with_reducible first | exact HB.out | apply wA | apply wN | apply wD | refine below_set ?_ GE170.out) | exact HB.out)⟩⟩
                    · rw [if_neg c74] at H
                      exact absurd H (by simp)
                  · rw [if_neg c73] at H
                    exact absurd H (by simp)
                · rw [if_neg c72] at H
                  have c72b0 : decide (x84_2 < (x5_1.length : Int)) = false := decide_eq_false c72
                  clear c72
                  simp only [Option.some.injEq, Prod.mk.injEq] at H
                  obtain ⟨rfl, rfl⟩ := H
                  go_wp2
                  go_ret2
                  exact ⟨_, by first | rfl | (simp [errW_none, errW_some] <;> rfl) | (simp [*, errW_none, errW_some] <;> rfl), by (with_reducible repeat (first | apply Kd.R_alloc | apply Kd.R_drewN | apply Kd.R_drew)); exact HO_11.out, by repeat (first | (with_reducible first | exact HB.out | apply wA | apply wN | apply wD) | exact HB.out)⟩
end Go.Proofs.YtciaocdpojnmcaaGreatDoor.P
namespace Go.Proofs.YtciaocdpojnmcaaGreatDoor.P
open Go.RowKit Go.Proofs.YtciaocdpojnmcaaGreatDoorW.PrintWords Go.Proofs.YtciaocdpojnmcaaGreatDoorW.PrintLast Go.Proofs.YtciaocdpojnmcaaGreatDoorW.PrintMore
attribute [local go_sem] max2_int min2_int max_two min_two max_three min_three max_four min_four   -- for this text's walks alone
set_option linter.unusedVariables false
set_option linter.unusedSimpArgs false
def mummerlaw01_WordsKnown.f (k : Nat)  : Option (Bool) := (words_Int.f (⟨#[48, 48, 55]⟩ : ByteArray) 0 10).bind fun bt178 => ((words_Int.f (⟨#[45, 48]⟩ : ByteArray) 0 10).bind fun bt180 => ((words_Int.f (⟨#[49, 50]⟩ : ByteArray) 0 10).bind fun bt182 => ((words_Unquote.f k (⟨#[34, 92, 120, 52, 49, 34]⟩ : ByteArray)).bind fun bt184 => ((words_Unquote.f k (⟨#[34, 92, 120, 55, 70, 34]⟩ : ByteArray)).bind fun bt186 => ((words_Unquote.f k (⟨#[34, 97]⟩ : ByteArray)).bind fun bt188 => ((words_Split.f (⟨#[97, 32, 32, 98]⟩ : ByteArray)).bind fun bt190 => ((words_Split.f (⟨#[]⟩ : ByteArray)).bind fun bt194 => ((words_List.f ([] : List Int)).bind fun bt198 => ((words_ParseList.f k (⟨#[49, 45, 51, 44, 52]⟩ : ByteArray)).bind fun bt200 => ((words_ParseList.f k (⟨#[51, 45, 51]⟩ : ByteArray)).bind fun bt204 => ((words_ParseList.f k (⟨#[50, 44, 49]⟩ : ByteArray)).bind fun bt208 => ((words_ParseList.f k (⟨#[48, 45, 54, 48, 48]⟩ : ByteArray)).bind fun bt212 => (if bt178.2 = 6 then (if bt180.2 = 6 then (if bt182.2 = 7 then (if bt184.2 = 6 then (if bt186.2 = 6 then (if bt188.2 = 6 then (if bt190.2 = 6 then (if (bt194.1.length : Int) = 0 then (if bt194.2 = 0 then (if bt198.1.toList = ([45] : List UInt8) then (if bt198.2 = 0 then (if bt200.2 = 6 then (if bt204.2 = 6 then (if bt208.2 = 6 then (if bt212.2 = 3 then ((words_Name.f (⟨#[87, 101, 98]⟩ : ByteArray)).bind fun t216 => (if t216 = true then (some false) else ((words_Name.f (⟨#[97, 97, 97, 97, 97, 97, 97, 97, 97, 97, 97, 97, 97, 97, 97, 97, 97]⟩ : ByteArray)).bind fun t217 => (if t217 = true then (some false) else ((mummerlaw01_shown.f k).bind fun t218 => (some t218)))))) else (some false)) else (some false)) else (some false)) else (some false)) else (some false)) else (some false)) else (some false)) else (some false)) else (some false)) else (some false)) else (some false)) else (some false)) else (some false)) else (some false)) else (some false))))))))))))))
set_option maxHeartbeats 8000000 in
set_option maxRecDepth 100000 in
theorem mummerlaw01_WordsKnown.calls (k : Nat)  (r : Bool) (w : World) (hrt : Aside0 (r = true)) (h : mummerlaw01_WordsKnown.f k  = some r) (HT : Aside0 (Wd.All w)) :
    Calls Tryz.prog 5 #[] w fun e w' => e = .returned (.bool r) ∧ Below w.heap.size w w' := by
  have HB := ak (Below.refl w.heap.size w)
  have H : ((words_Int.f (⟨#[48, 48, 55]⟩ : ByteArray) 0 10).bind fun bt178 => ((words_Int.f (⟨#[45, 48]⟩ : ByteArray) 0 10).bind fun bt180 => ((words_Int.f (⟨#[49, 50]⟩ : ByteArray) 0 10).bind fun bt182 => ((words_Unquote.f k (⟨#[34, 92, 120, 52, 49, 34]⟩ : ByteArray)).bind fun bt184 => ((words_Unquote.f k (⟨#[34, 92, 120, 55, 70, 34]⟩ : ByteArray)).bind fun bt186 => ((words_Unquote.f k (⟨#[34, 97]⟩ : ByteArray)).bind fun bt188 => ((words_Split.f (⟨#[97, 32, 32, 98]⟩ : ByteArray)).bind fun bt190 => ((words_Split.f (⟨#[]⟩ : ByteArray)).bind fun bt194 => ((words_List.f ([] : List Int)).bind fun bt198 => ((words_ParseList.f k (⟨#[49, 45, 51, 44, 52]⟩ : ByteArray)).bind fun bt200 => ((words_ParseList.f k (⟨#[51, 45, 51]⟩ : ByteArray)).bind fun bt204 => ((words_ParseList.f k (⟨#[50, 44, 49]⟩ : ByteArray)).bind fun bt208 => ((words_ParseList.f k (⟨#[48, 45, 54, 48, 48]⟩ : ByteArray)).bind fun bt212 => (if bt178.2 = 6 then (if bt180.2 = 6 then (if bt182.2 = 7 then (if bt184.2 = 6 then (if bt186.2 = 6 then (if bt188.2 = 6 then (if bt190.2 = 6 then (if (bt194.1.length : Int) = 0 then (if bt194.2 = 0 then (if bt198.1.toList = ([45] : List UInt8) then (if bt198.2 = 0 then (if bt200.2 = 6 then (if bt204.2 = 6 then (if bt208.2 = 6 then (if bt212.2 = 3 then ((words_Name.f (⟨#[87, 101, 98]⟩ : ByteArray)).bind fun t216 => (if t216 = true then (some false) else ((words_Name.f (⟨#[97, 97, 97, 97, 97, 97, 97, 97, 97, 97, 97, 97, 97, 97, 97, 97, 97]⟩ : ByteArray)).bind fun t217 => (if t217 = true then (some false) else ((mummerlaw01_shown.f k).bind fun t218 => (some t218)))))) else (some false)) else (some false)) else (some false)) else (some false)) else (some false)) else (some false)) else (some false)) else (some false)) else (some false)) else (some false)) else (some false)) else (some false)) else (some false)) else (some false)) else (some false))))))))))))))) = some r := h
  clear h
  replace H := Option.bind_eq_some_iff.mp H
  obtain ⟨⟨t178, t179⟩, A10, H⟩ := H
  replace H : ((words_Int.f (⟨#[45, 48]⟩ : ByteArray) 0 10).bind fun bt180 => ((words_Int.f (⟨#[49, 50]⟩ : ByteArray) 0 10).bind fun bt182 => ((words_Unquote.f k (⟨#[34, 92, 120, 52, 49, 34]⟩ : ByteArray)).bind fun bt184 => ((words_Unquote.f k (⟨#[34, 92, 120, 55, 70, 34]⟩ : ByteArray)).bind fun bt186 => ((words_Unquote.f k (⟨#[34, 97]⟩ : ByteArray)).bind fun bt188 => ((words_Split.f (⟨#[97, 32, 32, 98]⟩ : ByteArray)).bind fun bt190 => ((words_Split.f (⟨#[]⟩ : ByteArray)).bind fun bt194 => ((words_List.f ([] : List Int)).bind fun bt198 => ((words_ParseList.f k (⟨#[49, 45, 51, 44, 52]⟩ : ByteArray)).bind fun bt200 => ((words_ParseList.f k (⟨#[51, 45, 51]⟩ : ByteArray)).bind fun bt204 => ((words_ParseList.f k (⟨#[50, 44, 49]⟩ : ByteArray)).bind fun bt208 => ((words_ParseList.f k (⟨#[48, 45, 54, 48, 48]⟩ : ByteArray)).bind fun bt212 => (if t179 = 6 then (if bt180.2 = 6 then (if bt182.2 = 7 then (if bt184.2 = 6 then (if bt186.2 = 6 then (if bt188.2 = 6 then (if bt190.2 = 6 then (if (bt194.1.length : Int) = 0 then (if bt194.2 = 0 then (if bt198.1.toList = ([45] : List UInt8) then (if bt198.2 = 0 then (if bt200.2 = 6 then (if bt204.2 = 6 then (if bt208.2 = 6 then (if bt212.2 = 3 then ((words_Name.f (⟨#[87, 101, 98]⟩ : ByteArray)).bind fun t216 => (if t216 = true then (some false) else ((words_Name.f (⟨#[97, 97, 97, 97, 97, 97, 97, 97, 97, 97, 97, 97, 97, 97, 97, 97, 97]⟩ : ByteArray)).bind fun t217 => (if t217 = true then (some false) else ((mummerlaw01_shown.f k).bind fun t218 => (some t218)))))) else (some false)) else (some false)) else (some false)) else (some false)) else (some false)) else (some false)) else (some false)) else (some false)) else (some false)) else (some false)) else (some false)) else (some false)) else (some false)) else (some false)) else (some false)))))))))))))) = some r := H
  have A1 := ak A10
  clear A10
  replace H := Option.bind_eq_some_iff.mp H
  obtain ⟨⟨t180, t181⟩, A20, H⟩ := H
  replace H : ((words_Int.f (⟨#[49, 50]⟩ : ByteArray) 0 10).bind fun bt182 => ((words_Unquote.f k (⟨#[34, 92, 120, 52, 49, 34]⟩ : ByteArray)).bind fun bt184 => ((words_Unquote.f k (⟨#[34, 92, 120, 55, 70, 34]⟩ : ByteArray)).bind fun bt186 => ((words_Unquote.f k (⟨#[34, 97]⟩ : ByteArray)).bind fun bt188 => ((words_Split.f (⟨#[97, 32, 32, 98]⟩ : ByteArray)).bind fun bt190 => ((words_Split.f (⟨#[]⟩ : ByteArray)).bind fun bt194 => ((words_List.f ([] : List Int)).bind fun bt198 => ((words_ParseList.f k (⟨#[49, 45, 51, 44, 52]⟩ : ByteArray)).bind fun bt200 => ((words_ParseList.f k (⟨#[51, 45, 51]⟩ : ByteArray)).bind fun bt204 => ((words_ParseList.f k (⟨#[50, 44, 49]⟩ : ByteArray)).bind fun bt208 => ((words_ParseList.f k (⟨#[48, 45, 54, 48, 48]⟩ : ByteArray)).bind fun bt212 => (if t179 = 6 then (if t181 = 6 then (if bt182.2 = 7 then (if bt184.2 = 6 then (if bt186.2 = 6 then (if bt188.2 = 6 then (if bt190.2 = 6 then (if (bt194.1.length : Int) = 0 then (if bt194.2 = 0 then (if bt198.1.toList = ([45] : List UInt8) then (if bt198.2 = 0 then (if bt200.2 = 6 then (if bt204.2 = 6 then (if bt208.2 = 6 then (if bt212.2 = 3 then ((words_Name.f (⟨#[87, 101, 98]⟩ : ByteArray)).bind fun t216 => (if t216 = true then (some false) else ((words_Name.f (⟨#[97, 97, 97, 97, 97, 97, 97, 97, 97, 97, 97, 97, 97, 97, 97, 97, 97]⟩ : ByteArray)).bind fun t217 => (if t217 = true then (some false) else ((mummerlaw01_shown.f k).bind fun t218 => (some t218)))))) else (some false)) else (some false)) else (some false)) else (some false)) else (some false)) else (some false)) else (some false)) else (some false)) else (some false)) else (some false)) else (some false)) else (some false)) else (some false)) else (some false)) else (some false))))))))))))) = some r := H
  have A2 := ak A20
  clear A20
  replace H := Option.bind_eq_some_iff.mp H
  obtain ⟨⟨t182, t183⟩, A30, H⟩ := H
  replace H : ((words_Unquote.f k (⟨#[34, 92, 120, 52, 49, 34]⟩ : ByteArray)).bind fun bt184 => ((words_Unquote.f k (⟨#[34, 92, 120, 55, 70, 34]⟩ : ByteArray)).bind fun bt186 => ((words_Unquote.f k (⟨#[34, 97]⟩ : ByteArray)).bind fun bt188 => ((words_Split.f (⟨#[97, 32, 32, 98]⟩ : ByteArray)).bind fun bt190 => ((words_Split.f (⟨#[]⟩ : ByteArray)).bind fun bt194 => ((words_List.f ([] : List Int)).bind fun bt198 => ((words_ParseList.f k (⟨#[49, 45, 51, 44, 52]⟩ : ByteArray)).bind fun bt200 => ((words_ParseList.f k (⟨#[51, 45, 51]⟩ : ByteArray)).bind fun bt204 => ((words_ParseList.f k (⟨#[50, 44, 49]⟩ : ByteArray)).bind fun bt208 => ((words_ParseList.f k (⟨#[48, 45, 54, 48, 48]⟩ : ByteArray)).bind fun bt212 => (if t179 = 6 then (if t181 = 6 then (if t183 = 7 then (if bt184.2 = 6 then (if bt186.2 = 6 then (if bt188.2 = 6 then (if bt190.2 = 6 then (if (bt194.1.length : Int) = 0 then (if bt194.2 = 0 then (if bt198.1.toList = ([45] : List UInt8) then (if bt198.2 = 0 then (if bt200.2 = 6 then (if bt204.2 = 6 then (if bt208.2 = 6 then (if bt212.2 = 3 then ((words_Name.f (⟨#[87, 101, 98]⟩ : ByteArray)).bind fun t216 => (if t216 = true then (some false) else ((words_Name.f (⟨#[97, 97, 97, 97, 97, 97, 97, 97, 97, 97, 97, 97, 97, 97, 97, 97, 97]⟩ : ByteArray)).bind fun t217 => (if t217 = true then (some false) else ((mummerlaw01_shown.f k).bind fun t218 => (some t218)))))) else (some false)) else (some false)) else (some false)) else (some false)) else (some false)) else (some false)) else (some false)) else (some false)) else (some false)) else (some false)) else (some false)) else (some false)) else (some false)) else (some false)) else (some false)))))))))))) = some r := H
  have A3 := ak A30
  clear A30
  replace H := Option.bind_eq_some_iff.mp H
  obtain ⟨⟨t184, t185⟩, A40, H⟩ := H
  replace H : ((words_Unquote.f k (⟨#[34, 92, 120, 55, 70, 34]⟩ : ByteArray)).bind fun bt186 => ((words_Unquote.f k (⟨#[34, 97]⟩ : ByteArray)).bind fun bt188 => ((words_Split.f (⟨#[97, 32, 32, 98]⟩ : ByteArray)).bind fun bt190 => ((words_Split.f (⟨#[]⟩ : ByteArray)).bind fun bt194 => ((words_List.f ([] : List Int)).bind fun bt198 => ((words_ParseList.f k (⟨#[49, 45, 51, 44, 52]⟩ : ByteArray)).bind fun bt200 => ((words_ParseList.f k (⟨#[51, 45, 51]⟩ : ByteArray)).bind fun bt204 => ((words_ParseList.f k (⟨#[50, 44, 49]⟩ : ByteArray)).bind fun bt208 => ((words_ParseList.f k (⟨#[48, 45, 54, 48, 48]⟩ : ByteArray)).bind fun bt212 => (if t179 = 6 then (if t181 = 6 then (if t183 = 7 then (if t185 = 6 then (if bt186.2 = 6 then (if bt188.2 = 6 then (if bt190.2 = 6 then (if (bt194.1.length : Int) = 0 then (if bt194.2 = 0 then (if bt198.1.toList = ([45] : List UInt8) then (if bt198.2 = 0 then (if bt200.2 = 6 then (if bt204.2 = 6 then (if bt208.2 = 6 then (if bt212.2 = 3 then ((words_Name.f (⟨#[87, 101, 98]⟩ : ByteArray)).bind fun t216 => (if t216 = true then (some false) else ((words_Name.f (⟨#[97, 97, 97, 97, 97, 97, 97, 97, 97, 97, 97, 97, 97, 97, 97, 97, 97]⟩ : ByteArray)).bind fun t217 => (if t217 = true then (some false) else ((mummerlaw01_shown.f k).bind fun t218 => (some t218)))))) else (some false)) else (some false)) else (some false)) else (some false)) else (some false)) else (some false)) else (some false)) else (some false)) else (some false)) else (some false)) else (some false)) else (some false)) else (some false)) else (some false)) else (some false))))))))))) = some r := H
  have A4 := ak A40
  clear A40
  replace H := Option.bind_eq_some_iff.mp H
  obtain ⟨⟨t186, t187⟩, A50, H⟩ := H
  replace H : ((words_Unquote.f k (⟨#[34, 97]⟩ : ByteArray)).bind fun bt188 => ((words_Split.f (⟨#[97, 32, 32, 98]⟩ : ByteArray)).bind fun bt190 => ((words_Split.f (⟨#[]⟩ : ByteArray)).bind fun bt194 => ((words_List.f ([] : List Int)).bind fun bt198 => ((words_ParseList.f k (⟨#[49, 45, 51, 44, 52]⟩ : ByteArray)).bind fun bt200 => ((words_ParseList.f k (⟨#[51, 45, 51]⟩ : ByteArray)).bind fun bt204 => ((words_ParseList.f k (⟨#[50, 44, 49]⟩ : ByteArray)).bind fun bt208 => ((words_ParseList.f k (⟨#[48, 45, 54, 48, 48]⟩ : ByteArray)).bind fun bt212 => (if t179 = 6 then (if t181 = 6 then (if t183 = 7 then (if t185 = 6 then (if t187 = 6 then (if bt188.2 = 6 then (if bt190.2 = 6 then (if (bt194.1.length : Int) = 0 then (if bt194.2 = 0 then (if bt198.1.toList = ([45] : List UInt8) then (if bt198.2 = 0 then (if bt200.2 = 6 then (if bt204.2 = 6 then (if bt208.2 = 6 then (if bt212.2 = 3 then ((words_Name.f (⟨#[87, 101, 98]⟩ : ByteArray)).bind fun t216 => (if t216 = true then (some false) else ((words_Name.f (⟨#[97, 97, 97, 97, 97, 97, 97, 97, 97, 97, 97, 97, 97, 97, 97, 97, 97]⟩ : ByteArray)).bind fun t217 => (if t217 = true then (some false) else ((mummerlaw01_shown.f k).bind fun t218 => (some t218)))))) else (some false)) else (some false)) else (some false)) else (some false)) else (some false)) else (some false)) else (some false)) else (some false)) else (some false)) else (some false)) else (some false)) else (some false)) else (some false)) else (some false)) else (some false)))))))))) = some r := H
  have A5 := ak A50
  clear A50
  replace H := Option.bind_eq_some_iff.mp H
  obtain ⟨⟨t188, t189⟩, A60, H⟩ := H
  replace H : ((words_Split.f (⟨#[97, 32, 32, 98]⟩ : ByteArray)).bind fun bt190 => ((words_Split.f (⟨#[]⟩ : ByteArray)).bind fun bt194 => ((words_List.f ([] : List Int)).bind fun bt198 => ((words_ParseList.f k (⟨#[49, 45, 51, 44, 52]⟩ : ByteArray)).bind fun bt200 => ((words_ParseList.f k (⟨#[51, 45, 51]⟩ : ByteArray)).bind fun bt204 => ((words_ParseList.f k (⟨#[50, 44, 49]⟩ : ByteArray)).bind fun bt208 => ((words_ParseList.f k (⟨#[48, 45, 54, 48, 48]⟩ : ByteArray)).bind fun bt212 => (if t179 = 6 then (if t181 = 6 then (if t183 = 7 then (if t185 = 6 then (if t187 = 6 then (if t189 = 6 then (if bt190.2 = 6 then (if (bt194.1.length : Int) = 0 then (if bt194.2 = 0 then (if bt198.1.toList = ([45] : List UInt8) then (if bt198.2 = 0 then (if bt200.2 = 6 then (if bt204.2 = 6 then (if bt208.2 = 6 then (if bt212.2 = 3 then ((words_Name.f (⟨#[87, 101, 98]⟩ : ByteArray)).bind fun t216 => (if t216 = true then (some false) else ((words_Name.f (⟨#[97, 97, 97, 97, 97, 97, 97, 97, 97, 97, 97, 97, 97, 97, 97, 97, 97]⟩ : ByteArray)).bind fun t217 => (if t217 = true then (some false) else ((mummerlaw01_shown.f k).bind fun t218 => (some t218)))))) else (some false)) else (some false)) else (some false)) else (some false)) else (some false)) else (some false)) else (some false)) else (some false)) else (some false)) else (some false)) else (some false)) else (some false)) else (some false)) else (some false)) else (some false))))))))) = some r := H
  have A6 := ak A60
  clear A60
  replace H := Option.bind_eq_some_iff.mp H
  obtain ⟨⟨t190, t191⟩, A70, H⟩ := H
  replace H : ((words_Split.f (⟨#[]⟩ : ByteArray)).bind fun bt194 => ((words_List.f ([] : List Int)).bind fun bt198 => ((words_ParseList.f k (⟨#[49, 45, 51, 44, 52]⟩ : ByteArray)).bind fun bt200 => ((words_ParseList.f k (⟨#[51, 45, 51]⟩ : ByteArray)).bind fun bt204 => ((words_ParseList.f k (⟨#[50, 44, 49]⟩ : ByteArray)).bind fun bt208 => ((words_ParseList.f k (⟨#[48, 45, 54, 48, 48]⟩ : ByteArray)).bind fun bt212 => (if t179 = 6 then (if t181 = 6 then (if t183 = 7 then (if t185 = 6 then (if t187 = 6 then (if t189 = 6 then (if t191 = 6 then (if (bt194.1.length : Int) = 0 then (if bt194.2 = 0 then (if bt198.1.toList = ([45] : List UInt8) then (if bt198.2 = 0 then (if bt200.2 = 6 then (if bt204.2 = 6 then (if bt208.2 = 6 then (if bt212.2 = 3 then ((words_Name.f (⟨#[87, 101, 98]⟩ : ByteArray)).bind fun t216 => (if t216 = true then (some false) else ((words_Name.f (⟨#[97, 97, 97, 97, 97, 97, 97, 97, 97, 97, 97, 97, 97, 97, 97, 97, 97]⟩ : ByteArray)).bind fun t217 => (if t217 = true then (some false) else ((mummerlaw01_shown.f k).bind fun t218 => (some t218)))))) else (some false)) else (some false)) else (some false)) else (some false)) else (some false)) else (some false)) else (some false)) else (some false)) else (some false)) else (some false)) else (some false)) else (some false)) else (some false)) else (some false)) else (some false)))))))) = some r := H
  have A7 := ak A70
  clear A70
  replace H := Option.bind_eq_some_iff.mp H
  obtain ⟨⟨t194, t195⟩, A80, H⟩ := H
  replace H : ((words_List.f ([] : List Int)).bind fun bt198 => ((words_ParseList.f k (⟨#[49, 45, 51, 44, 52]⟩ : ByteArray)).bind fun bt200 => ((words_ParseList.f k (⟨#[51, 45, 51]⟩ : ByteArray)).bind fun bt204 => ((words_ParseList.f k (⟨#[50, 44, 49]⟩ : ByteArray)).bind fun bt208 => ((words_ParseList.f k (⟨#[48, 45, 54, 48, 48]⟩ : ByteArray)).bind fun bt212 => (if t179 = 6 then (if t181 = 6 then (if t183 = 7 then (if t185 = 6 then (if t187 = 6 then (if t189 = 6 then (if t191 = 6 then (if (t194.length : Int) = 0 then (if t195 = 0 then (if bt198.1.toList = ([45] : List UInt8) then (if bt198.2 = 0 then (if bt200.2 = 6 then (if bt204.2 = 6 then (if bt208.2 = 6 then (if bt212.2 = 3 then ((words_Name.f (⟨#[87, 101, 98]⟩ : ByteArray)).bind fun t216 => (if t216 = true then (some false) else ((words_Name.f (⟨#[97, 97, 97, 97, 97, 97, 97, 97, 97, 97, 97, 97, 97, 97, 97, 97, 97]⟩ : ByteArray)).bind fun t217 => (if t217 = true then (some false) else ((mummerlaw01_shown.f k).bind fun t218 => (some t218)))))) else (some false)) else (some false)) else (some false)) else (some false)) else (some false)) else (some false)) else (some false)) else (some false)) else (some false)) else (some false)) else (some false)) else (some false)) else (some false)) else (some false)) else (some false))))))) = some r := H
  have A8 := ak A80
  clear A80
  replace H := Option.bind_eq_some_iff.mp H
  obtain ⟨⟨t198, t199⟩, A90, H⟩ := H
  replace H : ((words_ParseList.f k (⟨#[49, 45, 51, 44, 52]⟩ : ByteArray)).bind fun bt200 => ((words_ParseList.f k (⟨#[51, 45, 51]⟩ : ByteArray)).bind fun bt204 => ((words_ParseList.f k (⟨#[50, 44, 49]⟩ : ByteArray)).bind fun bt208 => ((words_ParseList.f k (⟨#[48, 45, 54, 48, 48]⟩ : ByteArray)).bind fun bt212 => (if t179 = 6 then (if t181 = 6 then (if t183 = 7 then (if t185 = 6 then (if t187 = 6 then (if t189 = 6 then (if t191 = 6 then (if (t194.length : Int) = 0 then (if t195 = 0 then (if t198.toList = ([45] : List UInt8) then (if t199 = 0 then (if bt200.2 = 6 then (if bt204.2 = 6 then (if bt208.2 = 6 then (if bt212.2 = 3 then ((words_Name.f (⟨#[87, 101, 98]⟩ : ByteArray)).bind fun t216 => (if t216 = true then (some false) else ((words_Name.f (⟨#[97, 97, 97, 97, 97, 97, 97, 97, 97, 97, 97, 97, 97, 97, 97, 97, 97]⟩ : ByteArray)).bind fun t217 => (if t217 = true then (some false) else ((mummerlaw01_shown.f k).bind fun t218 => (some t218)))))) else (some false)) else (some false)) else (some false)) else (some false)) else (some false)) else (some false)) else (some false)) else (some false)) else (some false)) else (some false)) else (some false)) else (some false)) else (some false)) else (some false)) else (some false)))))) = some r := H
  have A9 := ak A90
  clear A90
  replace H := Option.bind_eq_some_iff.mp H
  obtain ⟨⟨t200, t201⟩, A100, H⟩ := H
  replace H : ((words_ParseList.f k (⟨#[51, 45, 51]⟩ : ByteArray)).bind fun bt204 => ((words_ParseList.f k (⟨#[50, 44, 49]⟩ : ByteArray)).bind fun bt208 => ((words_ParseList.f k (⟨#[48, 45, 54, 48, 48]⟩ : ByteArray)).bind fun bt212 => (if t179 = 6 then (if t181 = 6 then (if t183 = 7 then (if t185 = 6 then (if t187 = 6 then (if t189 = 6 then (if t191 = 6 then (if (t194.length : Int) = 0 then (if t195 = 0 then (if t198.toList = ([45] : List UInt8) then (if t199 = 0 then (if t201 = 6 then (if bt204.2 = 6 then (if bt208.2 = 6 then (if bt212.2 = 3 then ((words_Name.f (⟨#[87, 101, 98]⟩ : ByteArray)).bind fun t216 => (if t216 = true then (some false) else ((words_Name.f (⟨#[97, 97, 97, 97, 97, 97, 97, 97, 97, 97, 97, 97, 97, 97, 97, 97, 97]⟩ : ByteArray)).bind fun t217 => (if t217 = true then (some false) else ((mummerlaw01_shown.f k).bind fun t218 => (some t218)))))) else (some false)) else (some false)) else (some false)) else (some false)) else (some false)) else (some false)) else (some false)) else (some false)) else (some false)) else (some false)) else (some false)) else (some false)) else (some false)) else (some false)) else (some false))))) = some r := H
  have A10 := ak A100
  clear A100
  replace H := Option.bind_eq_some_iff.mp H
  obtain ⟨⟨t204, t205⟩, A110, H⟩ := H
  replace H : ((words_ParseList.f k (⟨#[50, 44, 49]⟩ : ByteArray)).bind fun bt208 => ((words_ParseList.f k (⟨#[48, 45, 54, 48, 48]⟩ : ByteArray)).bind fun bt212 => (if t179 = 6 then (if t181 = 6 then (if t183 = 7 then (if t185 = 6 then (if t187 = 6 then (if t189 = 6 then (if t191 = 6 then (if (t194.length : Int) = 0 then (if t195 = 0 then (if t198.toList = ([45] : List UInt8) then (if t199 = 0 then (if t201 = 6 then (if t205 = 6 then (if bt208.2 = 6 then (if bt212.2 = 3 then ((words_Name.f (⟨#[87, 101, 98]⟩ : ByteArray)).bind fun t216 => (if t216 = true then (some false) else ((words_Name.f (⟨#[97, 97, 97, 97, 97, 97, 97, 97, 97, 97, 97, 97, 97, 97, 97, 97, 97]⟩ : ByteArray)).bind fun t217 => (if t217 = true then (some false) else ((mummerlaw01_shown.f k).bind fun t218 => (some t218)))))) else (some false)) else (some false)) else (some false)) else (some false)) else (some false)) else (some false)) else (some false)) else (some false)) else (some false)) else (some false)) else (some false)) else (some false)) else (some false)) else (some false)) else (some false)))) = some r := H
  have A11 := ak A110
  clear A110
  replace H := Option.bind_eq_some_iff.mp H
  obtain ⟨⟨t208, t209⟩, A120, H⟩ := H
  replace H : ((words_ParseList.f k (⟨#[48, 45, 54, 48, 48]⟩ : ByteArray)).bind fun bt212 => (if t179 = 6 then (if t181 = 6 then (if t183 = 7 then (if t185 = 6 then (if t187 = 6 then (if t189 = 6 then (if t191 = 6 then (if (t194.length : Int) = 0 then (if t195 = 0 then (if t198.toList = ([45] : List UInt8) then (if t199 = 0 then (if t201 = 6 then (if t205 = 6 then (if t209 = 6 then (if bt212.2 = 3 then ((words_Name.f (⟨#[87, 101, 98]⟩ : ByteArray)).bind fun t216 => (if t216 = true then (some false) else ((words_Name.f (⟨#[97, 97, 97, 97, 97, 97, 97, 97, 97, 97, 97, 97, 97, 97, 97, 97, 97]⟩ : ByteArray)).bind fun t217 => (if t217 = true then (some false) else ((mummerlaw01_shown.f k).bind fun t218 => (some t218)))))) else (some false)) else (some false)) else (some false)) else (some false)) else (some false)) else (some false)) else (some false)) else (some false)) else (some false)) else (some false)) else (some false)) else (some false)) else (some false)) else (some false)) else (some false))) = some r := H
  have A12 := ak A120
  clear A120
  replace H := Option.bind_eq_some_iff.mp H
  obtain ⟨⟨t212, t213⟩, A130, H⟩ := H
  replace H : (if t179 = 6 then (if t181 = 6 then (if t183 = 7 then (if t185 = 6 then (if t187 = 6 then (if t189 = 6 then (if t191 = 6 then (if (t194.length : Int) = 0 then (if t195 = 0 then (if t198.toList = ([45] : List UInt8) then (if t199 = 0 then (if t201 = 6 then (if t205 = 6 then (if t209 = 6 then (if t213 = 3 then ((words_Name.f (⟨#[87, 101, 98]⟩ : ByteArray)).bind fun t216 => (if t216 = true then (some false) else ((words_Name.f (⟨#[97, 97, 97, 97, 97, 97, 97, 97, 97, 97, 97, 97, 97, 97, 97, 97, 97]⟩ : ByteArray)).bind fun t217 => (if t217 = true then (some false) else ((mummerlaw01_shown.f k).bind fun t218 => (some t218)))))) else (some false)) else (some false)) else (some false)) else (some false)) else (some false)) else (some false)) else (some false)) else (some false)) else (some false)) else (some false)) else (some false)) else (some false)) else (some false)) else (some false)) else (some false)) = some r := H
  have A13 := ak A130
  clear A130
  by_cases c14 : t179 = 6
  · rw [if_pos c14] at H
    have c14b0 : (t179 == 6) = true := beq_iff_eq.mpr c14
    have c14b1 : (t179 != 6) = false := bne_eq_false_iff_eq.mpr c14
    clear c14
    by_cases c15 : t181 = 6
    · rw [if_pos c15] at H
      have c15b0 : (t181 == 6) = true := beq_iff_eq.mpr c15
      have c15b1 : (t181 != 6) = false := bne_eq_false_iff_eq.mpr c15
      clear c15
      by_cases c16 : t183 = 7
      · rw [if_pos c16] at H
        have c16b0 : (t183 == 7) = true := beq_iff_eq.mpr c16
        have c16b1 : (t183 != 7) = false := bne_eq_false_iff_eq.mpr c16
        clear c16
        by_cases c17 : t185 = 6
        · rw [if_pos c17] at H
          have c17b0 : (t185 == 6) = true := beq_iff_eq.mpr c17
          have c17b1 : (t185 != 6) = false := bne_eq_false_iff_eq.mpr c17
          clear c17
          by_cases c18 : t187 = 6
          · rw [if_pos c18] at H
            have c18b0 : (t187 == 6) = true := beq_iff_eq.mpr c18
            have c18b1 : (t187 != 6) = false := bne_eq_false_iff_eq.mpr c18
            clear c18
            by_cases c19 : t189 = 6
            · rw [if_pos c19] at H
              have c19b0 : (t189 == 6) = true := beq_iff_eq.mpr c19
              have c19b1 : (t189 != 6) = false := bne_eq_false_iff_eq.mpr c19
              clear c19
              by_cases c20 : t191 = 6
              · rw [if_pos c20] at H
                have c20b0 : (t191 == 6) = true := beq_iff_eq.mpr c20
                have c20b1 : (t191 != 6) = false := bne_eq_false_iff_eq.mpr c20
                clear c20
                by_cases c21 : (t194.length : Int) = 0
                · rw [if_pos c21] at H
                  have c21b0 : ((t194.length : Int) == 0) = true := beq_iff_eq.mpr c21
                  have c21b1 : ((t194.length : Int) != 0) = false := bne_eq_false_iff_eq.mpr c21
                  clear c21
                  by_cases c22 : t195 = 0
                  · rw [if_pos c22] at H
                    have c22b0 : (t195 == 0) = true := beq_iff_eq.mpr c22
                    have c22b1 : (t195 != 0) = false := bne_eq_false_iff_eq.mpr c22
                    clear c22
                    by_cases c23 : t198.toList = ([45] : List UInt8)
                    · rw [if_pos c23] at H
                      have c23b0 : (t198.toList == ([45] : List UInt8)) = true := beq_iff_eq.mpr c23
                      have c23b1 : (t198.toList != ([45] : List UInt8)) = false := bne_eq_false_iff_eq.mpr c23
                      clear c23
                      by_cases c24 : t199 = 0
                      · rw [if_pos c24] at H
                        have c24b0 : (t199 == 0) = true := beq_iff_eq.mpr c24
                        have c24b1 : (t199 != 0) = false := bne_eq_false_iff_eq.mpr c24
                        clear c24
                        by_cases c25 : t201 = 6
                        · rw [if_pos c25] at H
                          have c25b0 : (t201 == 6) = true := beq_iff_eq.mpr c25
                          have c25b1 : (t201 != 6) = false := bne_eq_false_iff_eq.mpr c25
                          clear c25
                          by_cases c26 : t205 = 6
                          · rw [if_pos c26] at H
                            have c26b0 : (t205 == 6) = true := beq_iff_eq.mpr c26
                            have c26b1 : (t205 != 6) = false := bne_eq_false_iff_eq.mpr c26
                            clear c26
                            by_cases c27 : t209 = 6
                            · rw [if_pos c27] at H
                              have c27b0 : (t209 == 6) = true := beq_iff_eq.mpr c27
                              have c27b1 : (t209 != 6) = false := bne_eq_false_iff_eq.mpr c27
                              clear c27
                              by_cases c28 : t213 = 3
                              · rw [if_pos c28] at H
                                have c28b0 : (t213 == 3) = true := beq_iff_eq.mpr c28
                                have c28b1 : (t213 != 3) = false := bne_eq_false_iff_eq.mpr c28
                                clear c28
                                replace H := Option.bind_eq_some_iff.mp H
                                obtain ⟨t216, A290, H⟩ := H
                                replace H : (if t216 = true then (some false) else ((words_Name.f (⟨#[97, 97, 97, 97, 97, 97, 97, 97, 97, 97, 97, 97, 97, 97, 97, 97, 97]⟩ : ByteArray)).bind fun t217 => (if t217 = true then (some false) else ((mummerlaw01_shown.f k).bind fun t218 => (some t218))))) = some r := H
                                have A29 := ak A290
                                clear A290
                                by_cases c30 : t216 = true
                                · subst c30
                                  have H1 : (some false) = some r := by rw [if_pos rfl] at H; exact H
                                  clear H
                                  have H := H1
                                  clear H1
                                  exact absurd ((Option.some.inj H).trans hrt.out) (by decide)
                                · replace c30 := Bool.eq_false_iff.mpr c30
                                  subst c30
                                  have H1 : ((words_Name.f (⟨#[97, 97, 97, 97, 97, 97, 97, 97, 97, 97, 97, 97, 97, 97, 97, 97, 97]⟩ : ByteArray)).bind fun t217 => (if t217 = true then (some false) else ((mummerlaw01_shown.f k).bind fun t218 => (some t218)))) = some r := by rw [if_neg (show ¬ (false = true) by decide)] at H; exact H
                                  clear H
                                  have H := H1
                                  clear H1
                                  replace H := Option.bind_eq_some_iff.mp H
                                  obtain ⟨t217, A310, H⟩ := H
                                  replace H : (if t217 = true then (some false) else ((mummerlaw01_shown.f k).bind fun t218 => (some t218))) = some r := H
                                  have A31 := ak A310
                                  clear A310
                                  by_cases c32 : t217 = true
                                  · subst c32
                                    have H1 : (some false) = some r := by rw [if_pos rfl] at H; exact H
                                    clear H
                                    have H := H1
                                    clear H1
                                    exact absurd ((Option.some.inj H).trans hrt.out) (by decide)
                                  · replace c32 := Bool.eq_false_iff.mpr c32
                                    subst c32
                                    have H1 : ((mummerlaw01_shown.f k).bind fun t218 => (some t218)) = some r := by rw [if_neg (show ¬ (false = true) by decide)] at H; exact H
                                    clear H
                                    have H := H1
                                    clear H1
                                    replace H := Option.bind_eq_some_iff.mp H
                                    obtain ⟨t218, A330, H⟩ := H
                                    replace H : (some t218) = some r := H
                                    have A33 := ak A330
                                    clear A330
                                    obtain rfl := Option.some.inj H
                                    go_enter Tryz.func5, Tryz.ntmps5
                                    go_wp2_with (first | ((with_reducible refine gate_callee (f := 16) rfl ?_); refine goesL_ (some 28) rfl rfl Tryz.func16 (by kernel_rfl) rfl #[.string (⟨#[48, 48, 55]⟩ : ByteArray), .int .i64 0, .int .i64 10] rfl (by (try simp only [List.map_toArray, List.map_cons, List.map_nil]); first | done | rfl | (simp only [List.length_drop, List.length_take]; rfl)) ?_; (with_reducible refine (words_Int.calls (⟨#[48, 48, 55]⟩ : ByteArray) 0 10 t178 t179 _ A1.out ⟨Wd.All.stay HT.out (by repeat (first | (with_reducible first | exact HB.out | apply wA | apply wN | apply wD) | exact HB.out | (refine below_set ?_ (by assumption)) | (refine below_set ?_ (Aside0.out (by assumption)))))⟩).mono ?_); rintro e w34 ⟨rfl, hb⟩; refine ⟨_, rfl, ?_⟩; have n0_ := ak (below_step (by repeat (first | (with_reducible first | exact HB.out | apply wA | apply wN | apply wD) | exact HB.out)) hb); clear HB; have HB := n0_; clear n0_; (try clear hb); (try clear hb2); (try clear hk); (try clear hi)) | ((with_reducible refine gate_callee (f := 16) rfl ?_); refine goesL_ (some 32) rfl rfl Tryz.func16 (by kernel_rfl) rfl #[.string (⟨#[45, 48]⟩ : ByteArray), .int .i64 0, .int .i64 10] rfl (by (try simp only [List.map_toArray, List.map_cons, List.map_nil]); first | done | rfl | (simp only [List.length_drop, List.length_take]; rfl)) ?_; (with_reducible refine (words_Int.calls (⟨#[45, 48]⟩ : ByteArray) 0 10 t180 t181 _ A2.out ⟨Wd.All.stay HT.out (by repeat (first | (with_reducible first | exact HB.out | apply wA | apply wN | apply wD) | exact HB.out | (refine below_set ?_ (by assumption)) | (refine below_set ?_ (Aside0.out (by assumption)))))⟩).mono ?_); rintro e w35 ⟨rfl, hb⟩; refine ⟨_, rfl, ?_⟩; have n0_ := ak (below_step (by repeat (first | (with_reducible first | exact HB.out | apply wA | apply wN | apply wD) | exact HB.out)) hb); clear HB; have HB := n0_; clear n0_; (try clear hb); (try clear hb2); (try clear hk); (try clear hi)) | ((with_reducible refine gate_callee (f := 16) rfl ?_); refine goesL_ (some 36) rfl rfl Tryz.func16 (by kernel_rfl) rfl #[.string (⟨#[49, 50]⟩ : ByteArray), .int .i64 0, .int .i64 10] rfl (by (try simp only [List.map_toArray, List.map_cons, List.map_nil]); first | done | rfl | (simp only [List.length_drop, List.length_take]; rfl)) ?_; (with_reducible refine (words_Int.calls (⟨#[49, 50]⟩ : ByteArray) 0 10 t182 t183 _ A3.out ⟨Wd.All.stay HT.out (by repeat (first | (with_reducible first | exact HB.out | apply wA | apply wN | apply wD) | exact HB.out | (refine below_set ?_ (by assumption)) | (refine below_set ?_ (Aside0.out (by assumption)))))⟩).mono ?_); rintro e w36 ⟨rfl, hb⟩; refine ⟨_, rfl, ?_⟩; have n0_ := ak (below_step (by repeat (first | (with_reducible first | exact HB.out | apply wA | apply wN | apply wD) | exact HB.out)) hb); clear HB; have HB := n0_; clear n0_; (try clear hb); (try clear hb2); (try clear hk); (try clear hi)) | ((with_reducible refine gate_callee (f := 11) rfl ?_); refine goesL_ (some 40) rfl rfl Tryz.func11 (by kernel_rfl) rfl #[.string (⟨#[34, 92, 120, 52, 49, 34]⟩ : ByteArray)] rfl (by (try simp only [List.map_toArray, List.map_cons, List.map_nil]); first | done | rfl | (simp only [List.length_drop, List.length_take]; rfl)) ?_; (with_reducible refine (words_Unquote.calls k (⟨#[34, 92, 120, 52, 49, 34]⟩ : ByteArray) t184 t185 _ A4.out ⟨Wd.All.stay HT.out (by repeat (first | (with_reducible first | exact HB.out | apply wA | apply wN | apply wD) | exact HB.out | (refine below_set ?_ (by assumption)) | (refine below_set ?_ (Aside0.out (by assumption)))))⟩).mono ?_); rintro e w37 ⟨rfl, hb⟩; refine ⟨_, rfl, ?_⟩; have n0_ := ak (below_step (by repeat (first | (with_reducible first | exact HB.out | apply wA | apply wN | apply wD) | exact HB.out)) hb); clear HB; have HB := n0_; clear n0_; (try clear hb); (try clear hb2); (try clear hk); (try clear hi)) | ((with_reducible refine gate_callee (f := 11) rfl ?_); refine goesL_ (some 44) rfl rfl Tryz.func11 (by kernel_rfl) rfl #[.string (⟨#[34, 92, 120, 55, 70, 34]⟩ : ByteArray)] rfl (by (try simp only [List.map_toArray, List.map_cons, List.map_nil]); first | done | rfl | (simp only [List.length_drop, List.length_take]; rfl)) ?_; (with_reducible refine (words_Unquote.calls k (⟨#[34, 92, 120, 55, 70, 34]⟩ : ByteArray) t186 t187 _ A5.out ⟨Wd.All.stay HT.out (by repeat (first | (with_reducible first | exact HB.out | apply wA | apply wN | apply wD) | exact HB.out | (refine below_set ?_ (by assumption)) | (refine below_set ?_ (Aside0.out (by assumption)))))⟩).mono ?_); rintro e w38 ⟨rfl, hb⟩; refine ⟨_, rfl, ?_⟩; have n0_ := ak (below_step (by repeat (first | (with_reducible first | exact HB.out | apply wA | apply wN | apply wD) | exact HB.out)) hb); clear HB; have HB := n0_; clear n0_; (try clear hb); (try clear hb2); (try clear hk); (try clear hi)) | ((with_reducible refine gate_callee (f := 11) rfl ?_); refine goesL_ (some 48) rfl rfl Tryz.func11 (by kernel_rfl) rfl #[.string (⟨#[34, 97]⟩ : ByteArray)] rfl (by (try simp only [List.map_toArray, List.map_cons, List.map_nil]); first | done | rfl | (simp only [List.length_drop, List.length_take]; rfl)) ?_; (with_reducible refine (words_Unquote.calls k (⟨#[34, 97]⟩ : ByteArray) t188 t189 _ A6.out ⟨Wd.All.stay HT.out (by repeat (first | (with_reducible first | exact HB.out | apply wA | apply wN | apply wD) | exact HB.out | (refine below_set ?_ (by assumption)) | (refine below_set ?_ (Aside0.out (by assumption)))))⟩).mono ?_); rintro e w39 ⟨rfl, hb⟩; refine ⟨_, rfl, ?_⟩; have n0_ := ak (below_step (by repeat (first | (with_reducible first | exact HB.out | apply wA | apply wN | apply wD) | exact HB.out)) hb); clear HB; have HB := n0_; clear n0_; (try clear hb); (try clear hb2); (try clear hk); (try clear hi)) | ((with_reducible refine gate_callee (f := 8) rfl ?_); refine goesL_ (some 52) rfl rfl Tryz.func8 (by kernel_rfl) rfl #[.string (⟨#[97, 32, 32, 98]⟩ : ByteArray)] rfl (by (try simp only [List.map_toArray, List.map_cons, List.map_nil]); first | done | rfl | (simp only [List.length_drop, List.length_take]; rfl)) ?_; (with_reducible refine (words_Split.calls (⟨#[97, 32, 32, 98]⟩ : ByteArray) t190 t191 _ A7.out ⟨Wd.All.stay HT.out (by repeat (first | (with_reducible first | exact HB.out | apply wA | apply wN | apply wD) | exact HB.out | (refine below_set ?_ (by assumption)) | (refine below_set ?_ (Aside0.out (by assumption)))))⟩).mono ?_); rintro e w40 ⟨v192, rfl, ho0, hb⟩; refine ⟨_, rfl, ?_⟩; have n0_ := ak (Kd.R_lower ho0 (below_size (by repeat (first | (with_reducible first | exact HB.out | apply wA | apply wN | apply wD) | exact HB.out)))); have n1_ := ak (below_step (by repeat (first | (with_reducible first | exact HB.out | apply wA | apply wN | apply wD) | exact HB.out)) hb); clear HB; have HO193 := n0_; have HB := n1_; clear n0_ n1_; (try clear hb); (try clear hb2); (try clear hk); (try clear hi); (try clear ho0)) | ((with_reducible refine gate_callee (f := 8) rfl ?_); refine goesL_ (some 56) rfl rfl Tryz.func8 (by kernel_rfl) rfl #[.string (⟨#[]⟩ : ByteArray)] rfl (by (try simp only [List.map_toArray, List.map_cons, List.map_nil]); first | done | rfl | (simp only [List.length_drop, List.length_take]; rfl)) ?_; (with_reducible refine (words_Split.calls (⟨#[]⟩ : ByteArray) t194 t195 _ A8.out ⟨Wd.All.stay HT.out (by repeat (first | (with_reducible first | exact HB.out | apply wA | apply wN | apply wD) | exact HB.out | (refine below_set ?_ (by assumption)) | (refine below_set ?_ (Aside0.out (by assumption)))))⟩).mono ?_); rintro e w41 ⟨v196, rfl, ho0, hb⟩; refine ⟨_, rfl, ?_⟩; have n0_ := ak (Kd.R_elder' (by (with_reducible repeat (first | apply Kd.R_alloc | apply Kd.R_drewN | apply Kd.R_drew)); exact HO193.out) (Kd.R_base ho0) hb); have n1_ := ak (Kd.R_lower (Kd.R_new' ho0 (Kd.R_lt (by (with_reducible repeat (first | apply Kd.R_alloc | apply Kd.R_drewN | apply Kd.R_drew)); exact HO193.out))) (below_size (by repeat (first | (with_reducible first | exact HB.out | apply wA | apply wN | apply wD) | exact HB.out)))); have n2_ := ak (below_step (by repeat (first | (with_reducible first | exact HB.out | apply wA | apply wN | apply wD) | exact HB.out)) hb); clear HO193; clear HB; have HO193 := n0_; have HO197 := n1_; have HB := n2_; clear n0_ n1_ n2_; (try clear hb); (try clear hb2); (try clear hk); (try clear hi); (try clear ho0)) | ((with_reducible refine gate_callee (f := 13) rfl ?_); refine goesL_ (some 60) rfl rfl Tryz.func13 (by kernel_rfl) rfl #[.slice none 0 0] rfl (by (try simp only [List.map_toArray, List.map_cons, List.map_nil]); first | done | rfl | (simp only [List.length_drop, List.length_take]; rfl)) ?_; (refine (words_List.calls _ _ ([] : List Int) t198 t199 _ ?side1 ?side2 A9.out ⟨Wd.All.stay HT.out (by repeat (first | (with_reducible first | exact HB.out | apply wA | apply wN | apply wD) | exact HB.out | (refine below_set ?_ (by assumption)) | (refine below_set ?_ (Aside0.out (by assumption)))))⟩).mono ?_); (case side1 => exact Kd.C_nil _ _); (case side2 => exact Nat.le_refl _); rintro e w42 ⟨rfl, hb⟩; refine ⟨_, rfl, ?_⟩; have n0_ := ak (Kd.R_below (by (with_reducible repeat (first | apply Kd.R_alloc | apply Kd.R_drewN | apply Kd.R_drew)); exact HO193.out) hb); have n1_ := ak (Kd.R_below (by (with_reducible repeat (first | apply Kd.R_alloc | apply Kd.R_drewN | apply Kd.R_drew)); exact HO197.out) hb); have n2_ := ak (below_step (by repeat (first | (with_reducible first | exact HB.out | apply wA | apply wN | apply wD) | exact HB.out)) hb); clear HO193; clear HO197; clear HB; have HO193 := n0_; have HO197 := n1_; have HB := n2_; clear n0_ n1_ n2_; (try clear hb); (try clear hb2); (try clear hk); (try clear hi)) | ((with_reducible refine gate_callee (f := 14) rfl ?_); refine goesL_ (some 64) rfl rfl Tryz.func14 (by kernel_rfl) rfl #[.string (⟨#[49, 45, 51, 44, 52]⟩ : ByteArray)] rfl (by (try simp only [List.map_toArray, List.map_cons, List.map_nil]); first | done | rfl | (simp only [List.length_drop, List.length_take]; rfl)) ?_; (with_reducible refine (words_ParseList.calls k (⟨#[49, 45, 51, 44, 52]⟩ : ByteArray) t200 t201 _ A10.out ⟨Wd.All.stay HT.out (by repeat (first | (with_reducible first | exact HB.out | apply wA | apply wN | apply wD) | exact HB.out | (refine below_set ?_ (by assumption)) | (refine below_set ?_ (Aside0.out (by assumption)))))⟩).mono ?_); rintro e w43 ⟨v202, rfl, ho0, hb⟩; refine ⟨_, rfl, ?_⟩; have n0_ := ak (Kd.R_below (by (with_reducible repeat (first | apply Kd.R_alloc | apply Kd.R_drewN | apply Kd.R_drew)); exact HO193.out) hb); have n1_ := ak (Kd.R_below (by (with_reducible repeat (first | apply Kd.R_alloc | apply Kd.R_drewN | apply Kd.R_drew)); exact HO197.out) hb); have n2_ := ak (Kd.R_lower ho0 (below_size (by repeat (first | (with_reducible first | exact HB.out | apply wA | apply wN | apply wD) | exact HB.out)))); have n3_ := ak (below_step (by repeat (first | (with_reducible first | exact HB.out | apply wA | apply wN | apply wD) | exact HB.out)) hb); clear HO193; clear HO197; clear HB; have HO193 := n0_; have HO197 := n1_; have HO203 := n2_; have HB := n3_; clear n0_ n1_ n2_ n3_; (try clear hb); (try clear hb2); (try clear hk); (try clear hi); (try clear ho0)) | ((with_reducible refine gate_callee (f := 14) rfl ?_); refine goesL_ (some 68) rfl rfl Tryz.func14 (by kernel_rfl) rfl #[.string (⟨#[51, 45, 51]⟩ : ByteArray)] rfl (by (try simp only [List.map_toArray, List.map_cons, List.map_nil]); first | done | rfl | (simp only [List.length_drop, List.length_take]; rfl)) ?_; (with_reducible refine (words_ParseList.calls k (⟨#[51, 45, 51]⟩ : ByteArray) t204 t205 _ A11.out ⟨Wd.All.stay HT.out (by repeat (first | (with_reducible first | exact HB.out | apply wA | apply wN | apply wD) | exact HB.out | (refine below_set ?_ (by assumption)) | (refine below_set ?_ (Aside0.out (by assumption)))))⟩).mono ?_); rintro e w44 ⟨v206, rfl, ho0, hb⟩; refine ⟨_, rfl, ?_⟩; have n0_ := ak (Kd.R_below (by (with_reducible repeat (first | apply Kd.R_alloc | apply Kd.R_drewN | apply Kd.R_drew)); exact HO193.out) hb); have n1_ := ak (Kd.R_below (by (with_reducible repeat (first | apply Kd.R_alloc | apply Kd.R_drewN | apply Kd.R_drew)); exact HO197.out) hb); have n2_ := ak (Kd.R_elder' (by (with_reducible repeat (first | apply Kd.R_alloc | apply Kd.R_drewN | apply Kd.R_drew)); exact HO203.out) (Kd.R_base ho0) hb); have n3_ := ak (Kd.R_lower (Kd.R_new' ho0 (Kd.R_lt (by (with_reducible repeat (first | apply Kd.R_alloc | apply Kd.R_drewN | apply Kd.R_drew)); exact HO203.out))) (below_size (by repeat (first | (with_reducible first | exact HB.out | apply wA | apply wN | apply wD) | exact HB.out)))); have n4_ := ak (below_step (by repeat (first | (with_reducible first | exact HB.out | apply wA | apply wN | apply wD) | exact HB.out)) hb); clear HO193; clear HO197; clear HO203; clear HB; have HO193 := n0_; have HO197 := n1_; have HO203 := n2_; have HO207 := n3_; have HB := n4_; clear n0_ n1_ n2_ n3_ n4_; (try clear hb); (try clear hb2); (try clear hk); (try clear hi); (try clear ho0)) | ((with_reducible refine gate_callee (f := 14) rfl ?_); refine goesL_ (some 72) rfl rfl Tryz.func14 (by kernel_rfl) rfl #[.string (⟨#[50, 44, 49]⟩ : ByteArray)] rfl (by (try simp only [List.map_toArray, List.map_cons, List.map_nil]); first | done | rfl | (simp only [List.length_drop, List.length_take]; rfl)) ?_; (with_reducible refine (words_ParseList.calls k (⟨#[50, 44, 49]⟩ : ByteArray) t208 t209 _ A12.out ⟨Wd.All.stay HT.out (by repeat (first | (with_reducible first | exact HB.out | apply wA | apply wN | apply wD) | exact HB.out | (refine below_set ?_ (by assumption)) | (refine below_set ?_ (Aside0.out (by assumption)))))⟩).mono ?_); rintro e w45 ⟨v210, rfl, ho0, hb⟩; refine ⟨_, rfl, ?_⟩; have n0_ := ak (Kd.R_below (by (with_reducible repeat (first | apply Kd.R_alloc | apply Kd.R_drewN | apply Kd.R_drew)); exact HO193.out) hb); have n1_ := ak (Kd.R_below (by (with_reducible repeat (first | apply Kd.R_alloc | apply Kd.R_drewN | apply Kd.R_drew)); exact HO197.out) hb); have n2_ := ak (Kd.R_elder' (by (with_reducible repeat (first | apply Kd.R_alloc | apply Kd.R_drewN | apply Kd.R_drew)); exact HO203.out) (Kd.R_base ho0) hb); have n3_ := ak (Kd.R_elder' (by (with_reducible repeat (first | apply Kd.R_alloc | apply Kd.R_drewN | apply Kd.R_drew)); exact HO207.out) (Kd.R_base ho0) hb); have n4_ := ak (Kd.R_lower (Kd.R_new' (Kd.R_new' ho0 (Kd.R_lt (by (with_reducible repeat (first | apply Kd.R_alloc | apply Kd.R_drewN | apply Kd.R_drew)); exact HO203.out))) (Kd.R_lt (by (with_reducible repeat (first | apply Kd.R_alloc | apply Kd.R_drewN | apply Kd.R_drew)); exact HO207.out))) (below_size (by repeat (first | (with_reducible first | exact HB.out | apply wA | apply wN | apply wD) | exact HB.out)))); have n5_ := ak (below_step (by repeat (first | (with_reducible first | exact HB.out | apply wA | apply wN | apply wD) | exact HB.out)) hb); clear HO193; clear HO197; clear HO203; clear HO207; clear HB; have HO193 := n0_; have HO197 := n1_; have HO203 := n2_; have HO207 := n3_; have HO211 := n4_; have HB := n5_; clear n0_ n1_ n2_ n3_ n4_ n5_; (try clear hb); (try clear hb2); (try clear hk); (try clear hi); (try clear ho0)) | ((with_reducible refine gate_callee (f := 14) rfl ?_); refine goesL_ (some 76) rfl rfl Tryz.func14 (by kernel_rfl) rfl #[.string (⟨#[48, 45, 54, 48, 48]⟩ : ByteArray)] rfl (by (try simp only [List.map_toArray, List.map_cons, List.map_nil]); first | done | rfl | (simp only [List.length_drop, List.length_take]; rfl)) ?_; (with_reducible refine (words_ParseList.calls k (⟨#[48, 45, 54, 48, 48]⟩ : ByteArray) t212 t213 _ A13.out ⟨Wd.All.stay HT.out (by repeat (first | (with_reducible first | exact HB.out | apply wA | apply wN | apply wD) | exact HB.out | (refine below_set ?_ (by assumption)) | (refine below_set ?_ (Aside0.out (by assumption)))))⟩).mono ?_); rintro e w46 ⟨v214, rfl, ho0, hb⟩; refine ⟨_, rfl, ?_⟩; have n0_ := ak (Kd.R_below (by (with_reducible repeat (first | apply Kd.R_alloc | apply Kd.R_drewN | apply Kd.R_drew)); exact HO193.out) hb); have n1_ := ak (Kd.R_below (by (with_reducible repeat (first | apply Kd.R_alloc | apply Kd.R_drewN | apply Kd.R_drew)); exact HO197.out) hb); have n2_ := ak (Kd.R_elder' (by (with_reducible repeat (first | apply Kd.R_alloc | apply Kd.R_drewN | apply Kd.R_drew)); exact HO203.out) (Kd.R_base ho0) hb); have n3_ := ak (Kd.R_elder' (by (with_reducible repeat (first | apply Kd.R_alloc | apply Kd.R_drewN | apply Kd.R_drew)); exact HO207.out) (Kd.R_base ho0) hb); have n4_ := ak (Kd.R_elder' (by (with_reducible repeat (first | apply Kd.R_alloc | apply Kd.R_drewN | apply Kd.R_drew)); exact HO211.out) (Kd.R_base ho0) hb); have n5_ := ak (Kd.R_lower (Kd.R_new' (Kd.R_new' (Kd.R_new' ho0 (Kd.R_lt (by (with_reducible repeat (first | apply Kd.R_alloc | apply Kd.R_drewN | apply Kd.R_drew)); exact HO203.out))) (Kd.R_lt (by (with_reducible repeat (first | apply Kd.R_alloc | apply Kd.R_drewN | apply Kd.R_drew)); exact HO207.out))) (Kd.R_lt (by (with_reducible repeat (first | apply Kd.R_alloc | apply Kd.R_drewN | apply Kd.R_drew)); exact HO211.out))) (below_size (by repeat (first | (with_reducible first | exact HB.out | apply wA | apply wN | apply wD) | exact HB.out)))); have n6_ := ak (below_step (by repeat (first | (with_reducible first | exact HB.out | apply wA | apply wN | apply wD) | exact HB.out)) hb); clear HO193; clear HO197; clear HO203; clear HO207; clear HO211; clear HB; have HO193 := n0_; have HO197 := n1_; have HO203 := n2_; have HO207 := n3_; have HO211 := n4_; have HO215 := n5_; have HB := n6_; clear n0_ n1_ n2_ n3_ n4_ n5_ n6_; (try clear hb); (try clear hb2); (try clear hk); (try clear hi); (try clear ho0); obtain ⟨Ao47, co47, eo47⟩ := Kd.R_slice HO197.out; subst eo47) | (go_at_call 20; (with_reducible refine (words_Name.calls (⟨#[87, 101, 98]⟩ : ByteArray) false _ A29.out).mono ?_); rintro e w48 ⟨rfl, hb⟩; have n0_ := ak (Kd.R_below (by (with_reducible repeat (first | apply Kd.R_alloc | apply Kd.R_drewN | apply Kd.R_drew)); exact HO193.out) hb); have n1_ := ak (Kd.R_below (by (with_reducible repeat (first | apply Kd.R_alloc | apply Kd.R_drewN | apply Kd.R_drew)); exact HO197.out) hb); have n2_ := ak (Kd.R_below (by (with_reducible repeat (first | apply Kd.R_alloc | apply Kd.R_drewN | apply Kd.R_drew)); exact HO203.out) hb); have n3_ := ak (Kd.R_below (by (with_reducible repeat (first | apply Kd.R_alloc | apply Kd.R_drewN | apply Kd.R_drew)); exact HO207.out) hb); have n4_ := ak (Kd.R_below (by (with_reducible repeat (first | apply Kd.R_alloc | apply Kd.R_drewN | apply Kd.R_drew)); exact HO211.out) hb); have n5_ := ak (Kd.R_below (by (with_reducible repeat (first | apply Kd.R_alloc | apply Kd.R_drewN | apply Kd.R_drew)); exact HO215.out) hb); have n6_ := ak (below_step (by repeat (first | (with_reducible first | exact HB.out | apply wA | apply wN | apply wD) | exact HB.out)) hb); clear HO193; clear HO197; clear HO203; clear HO207; clear HO211; clear HO215; clear HB; have HO193 := n0_; have HO197 := n1_; have HO203 := n2_; have HO207 := n3_; have HO211 := n4_; have HO215 := n5_; have HB := n6_; clear n0_ n1_ n2_ n3_ n4_ n5_ n6_; (try clear hb); (try clear hb2); (try clear hk); (try clear hi)) | (go_at_call 20; (with_reducible refine (words_Name.calls (⟨#[97, 97, 97, 97, 97, 97, 97, 97, 97, 97, 97, 97, 97, 97, 97, 97, 97]⟩ : ByteArray) false _ A31.out).mono ?_); rintro e w49 ⟨rfl, hb⟩; have n0_ := ak (Kd.R_below (by (with_reducible repeat (first | apply Kd.R_alloc | apply Kd.R_drewN | apply Kd.R_drew)); exact HO193.out) hb); have n1_ := ak (Kd.R_below (by (with_reducible repeat (first | apply Kd.R_alloc | apply Kd.R_drewN | apply Kd.R_drew)); exact HO197.out) hb); have n2_ := ak (Kd.R_below (by (with_reducible repeat (first | apply Kd.R_alloc | apply Kd.R_drewN | apply Kd.R_drew)); exact HO203.out) hb); have n3_ := ak (Kd.R_below (by (with_reducible repeat (first | apply Kd.R_alloc | apply Kd.R_drewN | apply Kd.R_drew)); exact HO207.out) hb); have n4_ := ak (Kd.R_below (by (with_reducible repeat (first | apply Kd.R_alloc | apply Kd.R_drewN | apply Kd.R_drew)); exact HO211.out) hb); have n5_ := ak (Kd.R_below (by (with_reducible repeat (first | apply Kd.R_alloc | apply Kd.R_drewN | apply Kd.R_drew)); exact HO215.out) hb); have n6_ := ak (below_step (by repeat (first | (with_reducible first | exact HB.out | apply wA | apply wN | apply wD) | exact HB.out)) hb); clear HO193; clear HO197; clear HO203; clear HO207; clear HO211; clear HO215; clear HB; have HO193 := n0_; have HO197 := n1_; have HO203 := n2_; have HO207 := n3_; have HO211 := n4_; have HO215 := n5_; have HB := n6_; clear n0_ n1_ n2_ n3_ n4_ n5_ n6_; (try clear hb); (try clear hb2); (try clear hk); (try clear hi)) | (go_at_call 7; (with_reducible refine (mummerlaw01_shown.calls k  t218 _ hrt A33.out ⟨Wd.All.stay HT.out (by repeat (first | (with_reducible first | exact HB.out | apply wA | apply wN | apply wD) | exact HB.out | (refine below_set ?_ (by assumption)) | (refine below_set ?_ (Aside0.out (by assumption)))))⟩).mono ?_); rintro e w50 ⟨rfl, hb⟩; have n0_ := ak (Kd.R_below (by (with_reducible repeat (first | apply Kd.R_alloc | apply Kd.R_drewN | apply Kd.R_drew)); exact HO193.out) hb); have n1_ := ak (Kd.R_below (by (with_reducible repeat (first | apply Kd.R_alloc | apply Kd.R_drewN | apply Kd.R_drew)); exact HO197.out) hb); have n2_ := ak (Kd.R_below (by (with_reducible repeat (first | apply Kd.R_alloc | apply Kd.R_drewN | apply Kd.R_drew)); exact HO203.out) hb); have n3_ := ak (Kd.R_below (by (with_reducible repeat (first | apply Kd.R_alloc | apply Kd.R_drewN | apply Kd.R_drew)); exact HO207.out) hb); have n4_ := ak (Kd.R_below (by (with_reducible repeat (first | apply Kd.R_alloc | apply Kd.R_drewN | apply Kd.R_drew)); exact HO211.out) hb); have n5_ := ak (Kd.R_below (by (with_reducible repeat (first | apply Kd.R_alloc | apply Kd.R_drewN | apply Kd.R_drew)); exact HO215.out) hb); have n6_ := ak (below_step (by repeat (first | (with_reducible first | exact HB.out | apply wA | apply wN | apply wD) | exact HB.out)) hb); clear HO193; clear HO197; clear HO203; clear HO207; clear HO211; clear HO215; clear HB; have HO193 := n0_; have HO197 := n1_; have HO203 := n2_; have HO207 := n3_; have HO211 := n4_; have HO215 := n5_; have HB := n6_; clear n0_ n1_ n2_ n3_ n4_ n5_ n6_; (try clear hb); (try clear hb2); (try clear hk); (try clear hi)))
                                    go_ret
                                    exact ⟨by first | rfl | (simp [errW_none, errW_some] <;> rfl) | (simp [*, errW_none, errW_some] <;> rfl), by repeat (first | (with_reducible first | exact HB.out | apply wA | apply wN | apply wD) | exact HB.out)⟩
                              · rw [if_neg c28] at H
                                have c28b0 : (t213 == 3) = false := beq_eq_false_iff_ne.mpr c28
                                have c28b1 : (t213 != 3) = true := bne_iff_ne.mpr c28
                                exact absurd ((Option.some.inj H).trans hrt.out) (by decide)
                            · rw [if_neg c27] at H
                              have c27b0 : (t209 == 6) = false := beq_eq_false_iff_ne.mpr c27
                              have c27b1 : (t209 != 6) = true := bne_iff_ne.mpr c27
                              exact absurd ((Option.some.inj H).trans hrt.out) (by decide)
                          · rw [if_neg c26] at H
                            have c26b0 : (t205 == 6) = false := beq_eq_false_iff_ne.mpr c26
                            have c26b1 : (t205 != 6) = true := bne_iff_ne.mpr c26
                            exact absurd ((Option.some.inj H).trans hrt.out) (by decide)
                        · rw [if_neg c25] at H
                          have c25b0 : (t201 == 6) = false := beq_eq_false_iff_ne.mpr c25
                          have c25b1 : (t201 != 6) = true := bne_iff_ne.mpr c25
                          exact absurd ((Option.some.inj H).trans hrt.out) (by decide)
                      · rw [if_neg c24] at H
                        have c24b0 : (t199 == 0) = false := beq_eq_false_iff_ne.mpr c24
                        have c24b1 : (t199 != 0) = true := bne_iff_ne.mpr c24
                        exact absurd ((Option.some.inj H).trans hrt.out) (by decide)
                    · rw [if_neg c23] at H
                      have c23b0 : (t198.toList == ([45] : List UInt8)) = false := beq_eq_false_iff_ne.mpr c23
                      have c23b1 : (t198.toList != ([45] : List UInt8)) = true := bne_iff_ne.mpr c23
                      exact absurd ((Option.some.inj H).trans hrt.out) (by decide)
                  · rw [if_neg c22] at H
                    have c22b0 : (t195 == 0) = false := beq_eq_false_iff_ne.mpr c22
                    have c22b1 : (t195 != 0) = true := bne_iff_ne.mpr c22
                    exact absurd ((Option.some.inj H).trans hrt.out) (by decide)
                · rw [if_neg c21] at H
                  have c21b0 : ((t194.length : Int) == 0) = false := beq_eq_false_iff_ne.mpr c21
                  have c21b1 : ((t194.length : Int) != 0) = true := bne_iff_ne.mpr c21
                  have c21b2 : ¬ (t194 = []) := fun h_ => c21 (by rw [h_]; rfl)
                  exact absurd ((Option.some.inj H).trans hrt.out) (by decide)
              · rw [if_neg c20] at H
                have c20b0 : (t191 == 6) = false := beq_eq_false_iff_ne.mpr c20
                have c20b1 : (t191 != 6) = true := bne_iff_ne.mpr c20
                exact absurd ((Option.some.inj H).trans hrt.out) (by decide)
            · rw [if_neg c19] at H
              have c19b0 : (t189 == 6) = false := beq_eq_false_iff_ne.mpr c19
              have c19b1 : (t189 != 6) = true := bne_iff_ne.mpr c19
              exact absurd ((Option.some.inj H).trans hrt.out) (by decide)
          · rw [if_neg c18] at H
            have c18b0 : (t187 == 6) = false := beq_eq_false_iff_ne.mpr c18
            have c18b1 : (t187 != 6) = true := bne_iff_ne.mpr c18
            exact absurd ((Option.some.inj H).trans hrt.out) (by decide)
        · rw [if_neg c17] at H
          have c17b0 : (t185 == 6) = false := beq_eq_false_iff_ne.mpr c17
          have c17b1 : (t185 != 6) = true := bne_iff_ne.mpr c17
          exact absurd ((Option.some.inj H).trans hrt.out) (by decide)
      · rw [if_neg c16] at H
        have c16b0 : (t183 == 7) = false := beq_eq_false_iff_ne.mpr c16
        have c16b1 : (t183 != 7) = true := bne_iff_ne.mpr c16
        exact absurd ((Option.some.inj H).trans hrt.out) (by decide)
    · rw [if_neg c15] at H
      have c15b0 : (t181 == 6) = false := beq_eq_false_iff_ne.mpr c15
      have c15b1 : (t181 != 6) = true := bne_iff_ne.mpr c15
      exact absurd ((Option.some.inj H).trans hrt.out) (by decide)
  · rw [if_neg c14] at H
    have c14b0 : (t179 == 6) = false := beq_eq_false_iff_ne.mpr c14
    have c14b1 : (t179 != 6) = true := bne_iff_ne.mpr c14
    exact absurd ((Option.some.inj H).trans hrt.out) (by decide)
end Go.Proofs.YtciaocdpojnmcaaGreatDoor.P
