import Derived.Test.YtciaocdpojnmcaaDoorKS33
namespace Go.Proofs.YtciaocdpojnmcaaDoor.P
open Go.RowKit Go.Proofs.YtciaocdpojnmcaaDoorW.PrintWords Go.Proofs.YtciaocdpojnmcaaDoorW.PrintLast Go.Proofs.YtciaocdpojnmcaaDoorW.PrintMore
attribute [local go_sem] max2_int min2_int max_two min_two max_three min_three max_four min_four   -- for this text's walks alone
set_option linter.unusedVariables false
set_option linter.unusedSimpArgs false
mutual
def mummerref01_Split.l0 : Nat → ByteArray → List (S43) → Bool → Int → Option ((List (S43)) × Int)
  | 0, _, _, _, _ => none
  | k + 1, x0, x4, x5, x6 => if 0 ≤ x6 then (if x6 ≤ (x0.size : Int) then ((mummerref01_quoted.f k (x0.extract (x6 : Int).toNat x0.size)).bind fun bt149 => (if bt149.2 = 0 then (mummerref01_Split.l1 k x0 x4 x5 x6 bt149.2) else (mummerref01_Split.j2 k x0 x4 x5 x6 bt149.2 bt149.1 true))) else (none)) else (none)
def mummerref01_Split.j2 : Nat → ByteArray → List (S43) → Bool → Int → Int → ByteArray → Bool → Option ((List (S43)) × Int)
  | 0, _, _, _, _, _, _, _ => none
  | k + 1, x0, x4, x5, x6, x8, x152000, x152001 => if x4.length < 5864062014805 then ((some (x4 ++ [(⟨x152000, x152001⟩ : S43)] : List (S43))).bind fun y154 => (if x5 = true then (mummerref01_Split.j3 k x0 y154 true x6 x8) else (mummerref01_Split.j3 k x0 y154 (decide ((x152000.size : Int) > 2000)) x6 x8))) else (none)
def mummerref01_Split.j3 : Nat → ByteArray → List (S43) → Bool → Int → Int → Option ((List (S43)) × Int)
  | 0, _, _, _, _, _ => none
  | k + 1, x0, x4, x5, x6, x8 => if (wrap64 (x6 + x8)) = (x0.size : Int) then (if x5 = true then (some (([] : List (S43)), 3)) else (if (x4.length : Int) > 64 then (some (([] : List (S43)), 3)) else (some (x4, 0)))) else (if 0 ≤ (wrap64 (x6 + x8)) then (if (wrap64 (x6 + x8)) < (x0.size : Int) then (if (bt x0 (wrap64 (x6 + x8))) = 32 then (mummerref01_Split.l0 k x0 x4 x5 (wrap64 ((wrap64 (x6 + x8)) + 1))) else (some (([] : List (S43)), 6))) else (none)) else (none))
def mummerref01_Split.l1 : Nat → ByteArray → List (S43) → Bool → Int → Int → Option ((List (S43)) × Int)
  | 0, _, _, _, _, _ => none
  | k + 1, x0, x4, x5, x6, x8 => if (wrap64 (x6 + x8)) < (x0.size : Int) then (if 0 ≤ (wrap64 (x6 + x8)) then (if (bt x0 (wrap64 (x6 + x8))) = 32 then (if 0 ≤ x6 then (if x6 ≤ (wrap64 (x6 + x8)) then (if (wrap64 (x6 + x8)) ≤ (x0.size : Int) then ((mummerref01_bare.f k (x0.extract (x6 : Int).toNat ((wrap64 (x6 + x8)) : Int).toNat)).bind fun t152 => (if t152 = true then (mummerref01_Split.j2 k x0 x4 x5 x6 x8 (x0.extract (x6 : Int).toNat ((wrap64 (x6 + x8)) : Int).toNat) false) else (some (([] : List (S43)), 6)))) else (none)) else (none)) else (none)) else (mummerref01_Split.l1 k x0 x4 x5 x6 (wrap64 (x8 + 1)))) else (none)) else (if 0 ≤ x6 then (if x6 ≤ (wrap64 (x6 + x8)) then (if (wrap64 (x6 + x8)) ≤ (x0.size : Int) then ((mummerref01_bare.f k (x0.extract (x6 : Int).toNat ((wrap64 (x6 + x8)) : Int).toNat)).bind fun t153 => (if t153 = true then (mummerref01_Split.j2 k x0 x4 x5 x6 x8 (x0.extract (x6 : Int).toNat ((wrap64 (x6 + x8)) : Int).toNat) false) else (some (([] : List (S43)), 6)))) else (none)) else (none)) else (none))
end
def mummerref01_Split.f (k : Nat) (a0 : ByteArray) : Option ((List (S43)) × Int) := if (a0.size : Int) > 8192 then (some (([] : List (S43)), 3)) else (if a0.toList = ([] : List UInt8) then (some (([] : List (S43)), 0)) else (mummerref01_Split.l0 k a0 ([] : List (S43)) false 0))
set_option maxHeartbeats 8000000 in
set_option maxRecDepth 100000 in
theorem mummerref01_Split.calls (k : Nat) (a0 : ByteArray) (r1 : List (S43)) (r2 : Int) (w : World) (h : mummerref01_Split.f k a0 = some (r1, r2)) :
    Calls Tryd.prog 11 #[.string a0] w fun e w' => ∃ v0_ : Value, e = .returned (.tuple #[v0_, .int .i64 r2]) ∧ Kd.R k43 43 w' w.heap.size (fun _ => True) v0_ r1 ∧ Below w.heap.size w w' := by
  have hu43 := Tryd.underlying43
  have HB := ak (Below.refl w.heap.size w)
  have H : (if (a0.size : Int) > 8192 then (some (([] : List (S43)), 3)) else (if a0.toList = ([] : List UInt8) then (some (([] : List (S43)), 0)) else (mummerref01_Split.l0 k a0 ([] : List (S43)) false 0))) = some (r1, r2) := h
  clear h
  by_cases c2 : (a0.size : Int) > 8192
  · rw [if_pos c2] at H
    have c2b0 : decide (8192 < (a0.size : Int)) = true := decide_eq_true c2
    have c2b1 : decide (8192 < a0.size) = true := decide_eq_true (by omega)
    clear c2
    simp only [Option.some.injEq, Prod.mk.injEq] at H
    obtain ⟨rfl, rfl⟩ := H
    go_enter Tryd.func11, Tryd.ntmps11
    go_wp2
    go_ret2
    exact ⟨_, by first | rfl | (simp [errW_none, errW_some] <;> rfl) | (simp [*, errW_none, errW_some] <;> rfl), by first | exact Kd.R_nil _ _ _ _ _ | exact Kd.N_nil _ _ _ _ _ | exact Kd.V_nil _ _ _ _ _ | exact Kd.Q_nil _ _ _ _ _ | exact Kd.S_nil _ _ _ _ _, by repeat (first | (with_reducible first | exact HB.out | apply wA | apply wN | apply wD) | exact HB.out)⟩
  · rw [if_neg c2] at H
    have c2b0 : decide (8192 < (a0.size : Int)) = false := decide_eq_false c2
    have c2b1 : decide (8192 < a0.size) = false := decide_eq_false (by omega)
    clear c2
    by_cases c3 : a0.toList = ([] : List UInt8)
    · rw [if_pos c3] at H
      have c3b0 : (a0.toList == ([] : List UInt8)) = true := beq_iff_eq.mpr c3
      have c3b1 : (a0.toList != ([] : List UInt8)) = false := bne_eq_false_iff_eq.mpr c3
      clear c3
      simp only [Option.some.injEq, Prod.mk.injEq] at H
      obtain ⟨rfl, rfl⟩ := H
      go_enter Tryd.func11, Tryd.ntmps11
      go_wp2
      go_ret2
      exact ⟨_, by first | rfl | (simp [errW_none, errW_some] <;> rfl) | (simp [*, errW_none, errW_some] <;> rfl), by first | exact Kd.R_nil _ _ _ _ _ | exact Kd.N_nil _ _ _ _ _ | exact Kd.V_nil _ _ _ _ _ | exact Kd.Q_nil _ _ _ _ _ | exact Kd.S_nil _ _ _ _ _, by repeat (first | (with_reducible first | exact HB.out | apply wA | apply wN | apply wD) | exact HB.out)⟩
    · rw [if_neg c3] at H
      have c3b0 : (a0.toList == ([] : List UInt8)) = false := beq_eq_false_iff_ne.mpr c3
      have c3b1 : (a0.toList != ([] : List UInt8)) = true := bne_iff_ne.mpr c3
      have H' := ak H
      clear H
      go_enter Tryd.func11, Tryd.ntmps11
      go_wp2
      go_loopg [4, 5, 6] k (fun kq v4 v5 v6 w' => ∃ (x4_1 : List (S43)) (x5_1 : Bool) (x6_1 : Int), v5 = .bool x5_1 ∧ v6 = .int .i64 x6_1 ∧ Aside0 (mummerref01_Split.l0 kq a0 x4_1 x5_1 x6_1 = some (r1, r2)) ∧ Aside0 (kq ≤ k) ∧ Aside0 (Kd.R k43 43 w' w.heap.size (fun _ => True) v4 x4_1) ∧ Aside0 (Below w.heap.size w w'))
      case atStart => exact ⟨(([] : List (S43))), (false), (0), (by first | rfl | (simp; done) | (simp [*]; done)), (by first | rfl | (simp; done) | (simp [*]; done)), H', ⟨Nat.le_refl _⟩, ⟨by first | exact Kd.R_nil _ _ _ _ _ | exact Kd.N_nil _ _ _ _ _ | exact Kd.V_nil _ _ _ _ _ | exact Kd.Q_nil _ _ _ _ _ | exact Kd.S_nil _ _ _ _ _⟩, ⟨by repeat (first | (with_reducible first | exact HB.out | apply wA | apply wN | apply wD) | exact HB.out)⟩⟩
      case round =>
        clear H'
        try clear c1
        try clear c2
        try clear c2b0
        try clear c2b1
        try clear p2
        try clear c3
        try clear c3b0
        try clear c3b1
        obtain ⟨x4_1, x5_1, x6_1, rfl, rfl, HA, HK1, HO_4, HB⟩ := hrel
        cases gk with
        | zero => exact absurd HA.out (by simp [mummerref01_Split.l0])
        | succ k1 =>
          have H := HA.out
          clear HA
          simp only [mummerref01_Split.l0] at H
          by_cases c4 : 0 ≤ x6_1
          · rw [if_pos c4] at H
            have c4b0 := eq_true c4
            have c4b1 : decide (0 ≤ x6_1) = true := decide_eq_true c4
            clear c4
            by_cases c5 : x6_1 ≤ (a0.size : Int)
            · rw [if_pos c5] at H
              have c5b0 := eq_true c5
              have c5b1 : decide (x6_1 ≤ (a0.size : Int)) = true := decide_eq_true c5
              clear c5
              replace H := Option.bind_eq_some_iff.mp H
              obtain ⟨⟨t149, t150⟩, A60, H⟩ := H
              replace H : (if t150 = 0 then (mummerref01_Split.l1 k1 a0 x4_1 x5_1 x6_1 t150) else (mummerref01_Split.j2 k1 a0 x4_1 x5_1 x6_1 t150 t149 true)) = some (r1, r2) := H
              have A6 := ak A60
              clear A60
              have HC7 := ak H
              clear H
              go_upto_if 25 with (first | ((with_reducible refine gate_callee (f := 29) rfl ?_); refine goesL_ (some 19) rfl rfl Tryd.func29 (by kernel_rfl) rfl #[.string (a0.extract (x6_1 : Int).toNat a0.size)] rfl (by (try simp only [List.map_toArray, List.map_cons, List.map_nil]); first | done | rfl | (simp only [List.length_drop, List.length_take]; rfl)) ?_; (with_reducible refine (mummerref01_quoted.calls k1 (a0.extract (x6_1 : Int).toNat a0.size) t149 t150 _ A6.out).mono ?_); rintro e w8 ⟨rfl, hb⟩; refine ⟨_, rfl, ?_⟩; have n0_ := ak (Kd.R_below (by (with_reducible repeat (first | apply Kd.R_alloc | apply Kd.R_drewN | apply Kd.R_drew)); exact HO_4.out) hb); have n1_ := ak (below_step (by repeat (first | (with_reducible first | exact HB.out | apply wA | apply wN | apply wD) | exact HB.out)) hb); clear HO_4; clear HB; have HO_4 := n0_; have HB := n1_; clear n0_ n1_; (try clear hb); (try clear hb2); (try clear hk); (try clear hi)) | ((with_reducible refine gate_dst (N := 9) rfl ?_); (try (refine gate_guard (by rfl) ?_; dsimp only)); refine box_event ?hg (N := 9) ?hd (cs := #[.string (⟨#[]⟩ : ByteArray), .bool false]) (t := 43) ?hr ?_; (case hd => rfl); (case hg => rfl); (case hr => first | (go_simp; done) | (go_simp; rfl)); intro gb151 hg w9 hbox hb; have n0_ := ak (Kd.R_below (Kd.R_elderB (by (with_reducible repeat (first | apply Kd.R_alloc | apply Kd.R_drewN | apply Kd.R_drew)); exact HO_4.out) gb151 (Nat.le_of_eq hg.symm)) hb); have n1_ := ak (below_step (by repeat (first | (with_reducible first | exact HB.out | apply wA | apply wN | apply wD) | exact HB.out)) hb); have n2_ := ak (hbox); have n3_ := ak ((by rw [hg]; exact (below_size (by repeat (first | (with_reducible first | exact HB.out | apply wA | apply wN | apply wD) | exact HB.out))) : w.heap.size ≤ gb151)); have n4_ := ak ((by rw [hg]; exact (below_size (by repeat (first | (with_reducible first | exact HB.out | apply wA | apply wN | apply wD) | exact HB.out))) : w.heap.size ≤ gb151)); clear HO_4; clear HB; have HO_4 := n0_; have HB := n1_; have BK151 := n2_; have GW151 := n3_; have GE151 := n4_; clear n0_ n1_ n2_ n3_ n4_; clear hb hbox hg; have hcz10_0 : w9.cell? ⟨gb151, 0, none⟩ = some (.string (⟨#[]⟩ : ByteArray)) := (blk_cell BK151.out 0).trans rfl; have hcz10_1 : w9.cell? ⟨gb151, 1, none⟩ = some (.bool false) := (blk_cell BK151.out 1).trans rfl; have hfz10_0 := blk_frozen BK151.out 0; have hfz10_1 := blk_frozen BK151.out 1))
              (try simp only [Act.put, List.setIfInBounds_toArray, List.set_cons_zero, List.set_cons_succ])
              go_cut [8, 25] (fun v8 v25 wc => ∃ (kq : Nat) (x8_6 : Int) (x152000_6 : ByteArray) (x152001_6 : Bool), v8 = .int .i64 x8_6 ∧ Aside0 (mummerref01_Split.j2 kq a0 x4_1 x5_1 x6_1 x8_6 x152000_6 x152001_6 = some (r1, r2)) ∧ Aside0 (kq ≤ k1) ∧ Aside0 (Kd.R k43 43 wc w.heap.size (fun k_ => k_ ≠ gb151) u4 x4_1) ∧ Aside0 (wc.heap[gb151]? = some (.cells #[.string x152000_6, .bool x152001_6] 43 (0, 0))) ∧ Aside0 (Below w.heap.size w wc))
              case first =>
                have H := HC7.out
                clear HC7
                by_cases c11 : t150 = 0
                · rw [if_pos c11] at H
                  have c11b0 : (t150 == 0) = true := beq_iff_eq.mpr c11
                  have c11b1 : (t150 != 0) = false := bne_eq_false_iff_eq.mpr c11
                  clear c11
                  (first | rw [c11b0] | (simp only [i64_w, i32_w]; rw [c11b0]) | skip)
                  have H' := ak H
                  clear H
                  go_wp2
                  go_loopg [8] k1 (fun kq v8 w' => ∃ (x8_2 : Int), v8 = .int .i64 x8_2 ∧ Aside0 (mummerref01_Split.l1 kq a0 x4_1 x5_1 x6_1 x8_2 = some (r1, r2)) ∧ Aside0 (kq ≤ k1) ∧ Aside0 (Kd.R k43 43 w' w.heap.size (fun k_ => k_ ≠ gb151) u4 x4_1) ∧ Aside0 (w'.heap[gb151]? = some (.cells #[.string t149, .bool true] 43 (0, 0))) ∧ Aside0 (Below w.heap.size w w'))
                  case atStart => exact ⟨(t150), (by first | rfl | (simp; done) | (simp [*]; done)), H', ⟨Nat.le_refl _⟩, ⟨by (with_reducible repeat (first | apply Kd.R_alloc | apply Kd.R_drewN | apply Kd.R_drew)); exact Kd.R_mono (Kd.R_far (p := ⟨gb151, 1, none⟩) (Kd.R_far (p := ⟨gb151, 0, none⟩) (Kd.R_mono HO_4.out (fun k_ hk => (⟨hk, by first | exact hk.2 | exact hk.2.2 | exact hk.2.1 | omega⟩ : _ ∧ k_ ≠ gb151))) (fun _ hk => hk.2) (.string t149)) (fun _ hk => hk.2) (.bool true)) (fun _ hk => hk.1.2)⟩, ⟨by (with_reducible repeat (first | refine bN ?_ _ | refine bD ?_ | refine bA ?_ _)); refine blk_put (cs := #[.string t149, .bool false]) ?_ 1 _ rfl; (with_reducible repeat (first | refine bN ?_ _ | refine bD ?_ | refine bA ?_ _)); refine blk_put (cs := #[.string (⟨#[]⟩ : ByteArray), .bool false]) ?_ 0 _ rfl; (with_reducible repeat (first | refine bN ?_ _ | refine bD ?_ | refine bA ?_ _)); exact BK151.out⟩, ⟨by repeat (first | (with_reducible first | exact HB.out | apply wA | apply wN | apply wD | refine below_set ?_ GE151.out) | exact HB.out)⟩⟩
                  case round =>
                    clear H'
                    try clear c1
                    try clear c2
                    try clear c2b0
                    try clear c2b1
                    try clear p2
                    try clear c3
                    try clear c3b0
                    try clear c3b1
                    try clear c4
                    try clear c4b0
                    try clear c4b1
                    try clear c5
                    try clear c5b0
                    try clear c5b1
                    try clear c11
                    try clear c11b0
                    try clear c11b1
                    try clear hcz10_0
                    try clear hcz10_1
                    try clear hfz10_0
                    try clear hfz10_1
                    try clear p2
                    obtain ⟨x8_2, rfl, HA, HK2, HO_4, BK151, HB⟩ := hrel
                    cases gk with
                    | zero => exact absurd HA.out (by simp [mummerref01_Split.l1])
                    | succ k2 =>
                      have H := HA.out
                      clear HA
                      simp only [mummerref01_Split.l1] at H
                      by_cases c12 : (wrap64 (x6_1 + x8_2)) < (a0.size : Int)
                      · rw [if_pos c12] at H
                        have c12b0 : decide ((wrap64 (x6_1 + x8_2)) < (a0.size : Int)) = true := decide_eq_true c12
                        clear c12
                        obtain ⟨ji13, hji13⟩ : ∃ j_ : Int, (wrap64 (x6_1 + x8_2)) = j_ := ⟨_, rfl⟩
                        replace H : (if 0 ≤ (ji13) then (if (bt a0 (ji13)) = 32 then (if 0 ≤ x6_1 then (if x6_1 ≤ (ji13) then (if (ji13) ≤ (a0.size : Int) then ((mummerref01_bare.f k2 (a0.extract (x6_1 : Int).toNat ((ji13) : Int).toNat)).bind fun t152 => (if t152 = true then (mummerref01_Split.j2 k2 a0 x4_1 x5_1 x6_1 x8_2 (a0.extract (x6_1 : Int).toNat ((ji13) : Int).toNat) false) else (some (([] : List (S43)), 6)))) else (none)) else (none)) else (none)) else (mummerref01_Split.l1 k2 a0 x4_1 x5_1 x6_1 (wrap64 (x8_2 + 1)))) else (none)) = some (r1, r2) := by first | (rw [hji13] at H; exact H) | (simp only [hji13] at H ⊢; exact H)
                        (try rw [hji13] at c12b0)
                        have hji13w : (IntKind.i64.wrap (x6_1 + x8_2)) = ji13 := (i64_w _).trans hji13
                        by_cases c14 : 0 ≤ (ji13)
                        · rw [if_pos c14] at H
                          have c14b0 : decide (0 ≤ (ji13)) = true := decide_eq_true c14
                          clear c14
                          by_cases c16 : (bt a0 (ji13)) = 32
                          · rw [if_pos c16] at H
                            have c16b0 : ((bt a0 (ji13)) == 32) = true := beq_iff_eq.mpr c16
                            have c16b1 : ((bt a0 (ji13)) != 32) = false := bne_eq_false_iff_eq.mpr c16
                            clear c16
                            by_cases c17 : 0 ≤ x6_1
                            · rw [if_pos c17] at H
                              have c17b0 := eq_true c17
                              have c17b1 : decide (0 ≤ x6_1) = true := decide_eq_true c17
                              clear c17
                              by_cases c18 : x6_1 ≤ (ji13)
                              · rw [if_pos c18] at H
                                have c18b0 := eq_true c18
                                have c18b1 : decide (x6_1 ≤ (ji13)) = true := decide_eq_true c18
                                clear c18
                                by_cases c19 : (ji13) ≤ (a0.size : Int)
                                · rw [if_pos c19] at H
                                  have c19b0 := eq_true c19
                                  have c19b1 : decide ((ji13) ≤ (a0.size : Int)) = true := decide_eq_true c19
                                  clear c19
                                  replace H := Option.bind_eq_some_iff.mp H
                                  obtain ⟨t152, A200, H⟩ := H
                                  replace H : (if t152 = true then (mummerref01_Split.j2 k2 a0 x4_1 x5_1 x6_1 x8_2 (a0.extract (x6_1 : Int).toNat ((ji13) : Int).toNat) false) else (some (([] : List (S43)), 6))) = some (r1, r2) := H
                                  have A20 := ak A200
                                  clear A200
                                  by_cases c21 : t152 = true
                                  · subst c21
                                    have H1 : (mummerref01_Split.j2 k2 a0 x4_1 x5_1 x6_1 x8_2 (a0.extract (x6_1 : Int).toNat ((ji13) : Int).toNat) false) = some (r1, r2) := by rw [if_pos rfl] at H; exact H
                                    clear H
                                    have H := H1
                                    clear H1
                                    have H' := ak H
                                    clear H
                                    have p15 : 0 ≤ ((ji13) : Int) := of_decide_eq_true (by first | (with_reducible assumption) | assumption)
                                    have q15 : (ji13) < (a0.size : Int) := of_decide_eq_true (by first | (with_reducible assumption) | assumption)
                                    have hx15 := bt_at a0 (ji13)
                                    replace p15 := eq_true p15
                                    replace q15 := eq_true q15
                                    have hcz22_0 : wr.cell? ⟨gb151, 0, none⟩ = some (.string t149) := (blk_cell BK151.out 0).trans rfl
                                    have hcz22_1 : wr.cell? ⟨gb151, 1, none⟩ = some (.bool true) := (blk_cell BK151.out 1).trans rfl
                                    have hfz22_0 := blk_frozen BK151.out 0
                                    have hfz22_1 := blk_frozen BK151.out 1
                                    go_wp2_with (first | ((with_reducible refine gate_callee (f := 30) rfl ?_); refine goesL_ (some 51) rfl rfl Tryd.func30 (by kernel_rfl) rfl #[.string (a0.extract (x6_1 : Int).toNat ((ji13) : Int).toNat)] rfl (by (try simp only [List.map_toArray, List.map_cons, List.map_nil]); first | done | (simp only [hji13]; rfl) | rfl | (simp only [List.length_drop, List.length_take]; rfl)) ?_; (with_reducible refine (mummerref01_bare.calls k2 (a0.extract (x6_1 : Int).toNat ((ji13) : Int).toNat) true _ A20.out).mono ?_); rintro e w' ⟨rfl, ⟨nd, rfl⟩⟩; refine ⟨_, rfl, ?_⟩))
                                    go_meet
                                    case rel => exact ⟨_, (x8_2), (a0.extract (x6_1 : Int).toNat ((ji13) : Int).toNat), (false), (by first | rfl | (simp; done) | (simp [*]; done)), H', ⟨by have := HK1.out; have := HK2.out; first | omega | exact Nat.le_refl _⟩, ⟨by (with_reducible repeat (first | apply Kd.R_alloc | apply Kd.R_drewN | apply Kd.R_drew)); exact Kd.R_mono (Kd.R_far (p := ⟨gb151, 1, none⟩) (Kd.R_far (p := ⟨gb151, 0, none⟩) (Kd.R_mono HO_4.out (fun k_ hk => (⟨hk, by first | exact hk | exact hk.2.2 | exact hk.2.1 | omega⟩ : _ ∧ k_ ≠ gb151))) (fun _ hk => hk.2) (.string (a0.extract (x6_1 : Int).toNat ((ji13) : Int).toNat))) (fun _ hk => hk.2) (.bool false)) (fun _ hk => by first | exact hk.1 | exact hk)⟩, ⟨by (with_reducible repeat (first | refine bN ?_ _ | refine bD ?_ | refine bA ?_ _)); refine blk_put (cs := #[.string (a0.extract (x6_1 : Int).toNat ((ji13) : Int).toNat), .bool true]) ?_ 1 _ rfl; (with_reducible repeat (first | refine bN ?_ _ | refine bD ?_ | refine bA ?_ _)); refine blk_put (cs := #[.string t149, .bool true]) ?_ 0 _ rfl; (with_reducible repeat (first | refine bN ?_ _ | refine bD ?_ | refine bA ?_ _)); exact BK151.out⟩, ⟨by repeat (first | (with_reducible first | exact HB.out | apply wA | apply wN | apply wD | refine below_set ?_ GE151.out) | exact HB.out)⟩⟩
                                  · replace c21 := Bool.eq_false_iff.mpr c21
                                    subst c21
                                    have H1 : (some (([] : List (S43)), 6)) = some (r1, r2) := by rw [if_neg (show ¬ (false = true) by decide)] at H; exact H
                                    clear H
                                    have H := H1
                                    clear H1
                                    simp only [Option.some.injEq, Prod.mk.injEq] at H
                                    obtain ⟨rfl, rfl⟩ := H
                                    have p15 : 0 ≤ ((ji13) : Int) := of_decide_eq_true (by first | (with_reducible assumption) | assumption)
                                    have q15 : (ji13) < (a0.size : Int) := of_decide_eq_true (by first | (with_reducible assumption) | assumption)
                                    have hx15 := bt_at a0 (ji13)
                                    replace p15 := eq_true p15
                                    replace q15 := eq_true q15
                                    have hcz23_0 : wr.cell? ⟨gb151, 0, none⟩ = some (.string t149) := (blk_cell BK151.out 0).trans rfl
                                    have hcz23_1 : wr.cell? ⟨gb151, 1, none⟩ = some (.bool true) := (blk_cell BK151.out 1).trans rfl
                                    have hfz23_0 := blk_frozen BK151.out 0
                                    have hfz23_1 := blk_frozen BK151.out 1
                                    go_wp2_with (first | ((with_reducible refine gate_callee (f := 30) rfl ?_); refine goesL_ (some 51) rfl rfl Tryd.func30 (by kernel_rfl) rfl #[.string (a0.extract (x6_1 : Int).toNat ((ji13) : Int).toNat)] rfl (by (try simp only [List.map_toArray, List.map_cons, List.map_nil]); first | done | (simp only [hji13]; rfl) | rfl | (simp only [List.length_drop, List.length_take]; rfl)) ?_; (with_reducible refine (mummerref01_bare.calls k2 (a0.extract (x6_1 : Int).toNat ((ji13) : Int).toNat) false _ A20.out).mono ?_); rintro e w' ⟨rfl, ⟨nd, rfl⟩⟩; refine ⟨_, rfl, ?_⟩))
                                    go_ret2
                                    exact ⟨_, by first | rfl | (simp [errW_none, errW_some] <;> rfl) | (simp only [← hji13]; first | rfl | (simp [errW_none, errW_some] <;> rfl)) | (simp [*, errW_none, errW_some] <;> rfl), by first | exact Kd.R_nil _ _ _ _ _ | exact Kd.N_nil _ _ _ _ _ | exact Kd.V_nil _ _ _ _ _ | exact Kd.Q_nil _ _ _ _ _ | exact Kd.S_nil _ _ _ _ _, by repeat (first | (with_reducible first | exact HB.out | apply wA | apply wN | apply wD | refine below_set ?_ GE151.out) | exact HB.out)⟩
                                · rw [if_neg c19] at H
                                  exact absurd H (by simp)
                              · rw [if_neg c18] at H
                                exact absurd H (by simp)
                            · rw [if_neg c17] at H
                              exact absurd H (by simp)
                          · rw [if_neg c16] at H
                            have c16b0 : ((bt a0 (ji13)) == 32) = false := beq_eq_false_iff_ne.mpr c16
                            have c16b1 : ((bt a0 (ji13)) != 32) = true := bne_iff_ne.mpr c16
                            have H' := ak H
                            clear H
                            have p15 : 0 ≤ ((ji13) : Int) := of_decide_eq_true (by first | (with_reducible assumption) | assumption)
                            have q15 : (ji13) < (a0.size : Int) := of_decide_eq_true (by first | (with_reducible assumption) | assumption)
                            have hx15 := bt_at a0 (ji13)
                            replace p15 := eq_true p15
                            replace q15 := eq_true q15
                            go_wp2
                            go_roundg k2
                            case measure => have := HK1.out; have := HK2.out; omega
                            case rel => exact ⟨(wrap64 (x8_2 + 1)), (by first | rfl | (simp; done) | (simp [*]; done)), H', ⟨by have := HK1.out; have := HK2.out; omega⟩, ⟨by (with_reducible repeat (first | apply Kd.R_alloc | apply Kd.R_drewN | apply Kd.R_drew)); exact HO_4.out⟩, ⟨by (with_reducible repeat (first | refine bN ?_ _ | refine bD ?_ | refine bA ?_ _)); exact BK151.out⟩, ⟨by repeat (first | (with_reducible first | exact HB.out | apply wA | apply wN | apply wD | refine below_set ?_ GE151.out) | exact HB.out)⟩⟩
                        · rw [if_neg c14] at H
                          exact absurd H (by simp)
                      · rw [if_neg c12] at H
                        have c12b0 : decide ((wrap64 (x6_1 + x8_2)) < (a0.size : Int)) = false := decide_eq_false c12
                        clear c12
                        by_cases c24 : 0 ≤ x6_1
                        · rw [if_pos c24] at H
                          have c24b0 := eq_true c24
                          have c24b1 : decide (0 ≤ x6_1) = true := decide_eq_true c24
                          clear c24
                          by_cases c25 : x6_1 ≤ (wrap64 (x6_1 + x8_2))
                          · rw [if_pos c25] at H
                            have c25b0 := eq_true c25
                            have c25b1 : decide (x6_1 ≤ (wrap64 (x6_1 + x8_2))) = true := decide_eq_true c25
                            by_cases c26 : (wrap64 (x6_1 + x8_2)) ≤ (a0.size : Int)
                            · rw [if_pos c26] at H
                              have c26b0 := eq_true c26
                              have c26b1 : decide ((wrap64 (x6_1 + x8_2)) ≤ (a0.size : Int)) = true := decide_eq_true c26
                              replace H := Option.bind_eq_some_iff.mp H
                              obtain ⟨t153, A270, H⟩ := H
                              replace H : (if t153 = true then (mummerref01_Split.j2 k2 a0 x4_1 x5_1 x6_1 x8_2 (a0.extract (x6_1 : Int).toNat ((wrap64 (x6_1 + x8_2)) : Int).toNat) false) else (some (([] : List (S43)), 6))) = some (r1, r2) := H
                              have A27 := ak A270
                              clear A270
                              by_cases c28 : t153 = true
                              · subst c28
                                have H1 : (mummerref01_Split.j2 k2 a0 x4_1 x5_1 x6_1 x8_2 (a0.extract (x6_1 : Int).toNat ((wrap64 (x6_1 + x8_2)) : Int).toNat) false) = some (r1, r2) := by rw [if_pos rfl] at H; exact H
                                clear H
                                have H := H1
                                clear H1
                                have H' := ak H
                                clear H
                                have hcz29_0 : wr.cell? ⟨gb151, 0, none⟩ = some (.string t149) := (blk_cell BK151.out 0).trans rfl
                                have hcz29_1 : wr.cell? ⟨gb151, 1, none⟩ = some (.bool true) := (blk_cell BK151.out 1).trans rfl
                                have hfz29_0 := blk_frozen BK151.out 0
                                have hfz29_1 := blk_frozen BK151.out 1
                                go_wp2_with (first | ((with_reducible refine gate_callee (f := 30) rfl ?_); refine goesL_ (some 51) rfl rfl Tryd.func30 (by kernel_rfl) rfl #[.string (a0.extract (x6_1 : Int).toNat ((wrap64 (x6_1 + x8_2)) : Int).toNat)] rfl (by (try simp only [List.map_toArray, List.map_cons, List.map_nil]); first | done | rfl | (simp only [List.length_drop, List.length_take]; rfl)) ?_; (with_reducible refine (mummerref01_bare.calls k2 (a0.extract (x6_1 : Int).toNat ((wrap64 (x6_1 + x8_2)) : Int).toNat) true _ A27.out).mono ?_); rintro e w' ⟨rfl, ⟨nd, rfl⟩⟩; refine ⟨_, rfl, ?_⟩))
                                go_meet
                                case rel => exact ⟨_, (x8_2), (a0.extract (x6_1 : Int).toNat ((wrap64 (x6_1 + x8_2)) : Int).toNat), (false), (by first | rfl | (simp; done) | (simp [*]; done)), H', ⟨by have := HK1.out; have := HK2.out; first | omega | exact Nat.le_refl _⟩, ⟨by (with_reducible repeat (first | apply Kd.R_alloc | apply Kd.R_drewN | apply Kd.R_drew)); exact Kd.R_mono (Kd.R_far (p := ⟨gb151, 1, none⟩) (Kd.R_far (p := ⟨gb151, 0, none⟩) (Kd.R_mono HO_4.out (fun k_ hk => (⟨hk, by first | exact hk | exact hk.2.2 | exact hk.2.1 | omega⟩ : _ ∧ k_ ≠ gb151))) (fun _ hk => hk.2) (.string (a0.extract (x6_1 : Int).toNat ((wrap64 (x6_1 + x8_2)) : Int).toNat))) (fun _ hk => hk.2) (.bool false)) (fun _ hk => by first | exact hk.1 | exact hk)⟩, ⟨by (with_reducible repeat (first | refine bN ?_ _ | refine bD ?_ | refine bA ?_ _)); refine blk_put (cs := #[.string (a0.extract (x6_1 : Int).toNat ((wrap64 (x6_1 + x8_2)) : Int).toNat), .bool true]) ?_ 1 _ rfl; (with_reducible repeat (first | refine bN ?_ _ | refine bD ?_ | refine bA ?_ _)); refine blk_put (cs := #[.string t149, .bool true]) ?_ 0 _ rfl; (with_reducible repeat (first | refine bN ?_ _ | refine bD ?_ | refine bA ?_ _)); exact BK151.out⟩, ⟨by repeat (first | (with_reducible first | exact HB.out | apply wA | apply wN | apply wD | refine below_set ?_ GE151.out) | exact HB.out)⟩⟩
                              · replace c28 := Bool.eq_false_iff.mpr c28
                                subst c28
                                have H1 : (some (([] : List (S43)), 6)) = some (r1, r2) := by rw [if_neg (show ¬ (false = true) by decide)] at H; exact H
                                clear H
                                have H := H1
                                clear H1
                                simp only [Option.some.injEq, Prod.mk.injEq] at H
                                obtain ⟨rfl, rfl⟩ := H
                                have hcz30_0 : wr.cell? ⟨gb151, 0, none⟩ = some (.string t149) := (blk_cell BK151.out 0).trans rfl
                                have hcz30_1 : wr.cell? ⟨gb151, 1, none⟩ = some (.bool true) := (blk_cell BK151.out 1).trans rfl
                                have hfz30_0 := blk_frozen BK151.out 0
                                have hfz30_1 := blk_frozen BK151.out 1
                                go_wp2_with (first | ((with_reducible refine gate_callee (f := 30) rfl ?_); refine goesL_ (some 51) rfl rfl Tryd.func30 (by kernel_rfl) rfl #[.string (a0.extract (x6_1 : Int).toNat ((wrap64 (x6_1 + x8_2)) : Int).toNat)] rfl (by (try simp only [List.map_toArray, List.map_cons, List.map_nil]); first | done | rfl | (simp only [List.length_drop, List.length_take]; rfl)) ?_; (with_reducible refine (mummerref01_bare.calls k2 (a0.extract (x6_1 : Int).toNat ((wrap64 (x6_1 + x8_2)) : Int).toNat) false _ A27.out).mono ?_); rintro e w' ⟨rfl, ⟨nd, rfl⟩⟩; refine ⟨_, rfl, ?_⟩))
                                go_ret2
                                exact ⟨_, by first | rfl | (simp [errW_none, errW_some] <;> rfl) | (simp [*, errW_none, errW_some] <;> rfl), by first | exact Kd.R_nil _ _ _ _ _ | exact Kd.N_nil _ _ _ _ _ | exact Kd.V_nil _ _ _ _ _ | exact Kd.Q_nil _ _ _ _ _ | exact Kd.S_nil _ _ _ _ _, by repeat (first | (with_reducible first | exact HB.out | apply wA | apply wN | apply wD | refine below_set ?_ GE151.out) | exact HB.out)⟩
                            · rw [if_neg c26] at H
                              exact absurd H (by simp)
                          · rw [if_neg c25] at H
                            exact absurd H (by simp)
                        · rw [if_neg c24] at H
                          exact absurd H (by simp)
                · rw [if_neg c11] at H
                  have c11b0 : (t150 == 0) = false := beq_eq_false_iff_ne.mpr c11
                  have c11b1 : (t150 != 0) = true := bne_iff_ne.mpr c11
                  (first | rw [c11b0] | (simp only [i64_w, i32_w]; rw [c11b0]) | skip)
                  have H' := ak H
                  clear H
                  go_wp2
                  go_meet
                  case rel => exact ⟨_, (t150), (t149), (true), (by first | rfl | (simp; done) | (simp [*]; done)), H', ⟨by have := HK1.out; first | omega | exact Nat.le_refl _⟩, ⟨by (with_reducible repeat (first | apply Kd.R_alloc | apply Kd.R_drewN | apply Kd.R_drew)); exact Kd.R_mono (Kd.R_far (p := ⟨gb151, 1, none⟩) (Kd.R_far (p := ⟨gb151, 0, none⟩) (Kd.R_mono HO_4.out (fun k_ hk => (⟨hk, by first | exact hk.2 | exact hk.2.2 | exact hk.2.1 | omega⟩ : _ ∧ k_ ≠ gb151))) (fun _ hk => hk.2) (.string t149)) (fun _ hk => hk.2) (.bool true)) (fun _ hk => hk.1.2)⟩, ⟨by (with_reducible repeat (first | refine bN ?_ _ | refine bD ?_ | refine bA ?_ _)); refine blk_put (cs := #[.string t149, .bool false]) ?_ 1 _ rfl; (with_reducible repeat (first | refine bN ?_ _ | refine bD ?_ | refine bA ?_ _)); refine blk_put (cs := #[.string (⟨#[]⟩ : ByteArray), .bool false]) ?_ 0 _ rfl; (with_reducible repeat (first | refine bN ?_ _ | refine bD ?_ | refine bA ?_ _)); exact BK151.out⟩, ⟨by repeat (first | (with_reducible first | exact HB.out | apply wA | apply wN | apply wD | refine below_set ?_ GE151.out) | exact HB.out)⟩⟩
              case rest =>
                clear HC7
                try clear c1
                try clear p1
                try clear q1
                try clear hx1
                try clear c2
                try clear c2b0
                try clear c2b1
                try clear p2
                try clear c3
                try clear c3b0
                try clear c3b1
                try clear c4
                try clear c4b0
                try clear c4b1
                try clear c5
                try clear c5b0
                try clear c5b1
                try clear p6
                try clear c11
                try clear c11b0
                try clear c11b1
                try clear c12
                try clear c12b0
                try clear c14
                try clear c14b0
                try clear p15
                try clear q15
                try clear hx15
                try clear c16
                try clear c16b0
                try clear c16b1
                try clear c17
                try clear c17b0
                try clear c17b1
                try clear c18
                try clear c18b0
                try clear c18b1
                try clear c19
                try clear c19b0
                try clear c19b1
                try clear c21
                try clear c24
                try clear c24b0
                try clear c24b1
                try clear c25
                try clear c25b0
                try clear c25b1
                try clear c26
                try clear c26b0
                try clear c26b1
                try clear c28
                try clear c29
                try clear c30
                try clear hcz10_0
                try clear hcz10_1
                try clear hcz22_0
                try clear hcz22_1
                try clear hcz23_0
                try clear hcz23_1
                try clear hcz29_0
                try clear hcz29_1
                try clear hcz30_0
                try clear hcz30_1
                try clear hfz10_0
                try clear hfz10_1
                try clear hfz22_0
                try clear hfz22_1
                try clear hfz23_0
                try clear hfz23_1
                try clear hfz29_0
                try clear hfz29_1
                try clear hfz30_0
                try clear hfz30_1
                try clear p15
                try clear p2
                try clear q15
                obtain ⟨kq, x8_6, x152000_6, x152001_6, rfl, HA, HJ6, HO_4, BK151, HB⟩ := hcut
                cases kq with
                | zero => exact absurd HA.out (by simp [mummerref01_Split.j2])
                | succ kj6 =>
                  have H := HA.out
                  clear HA
                  simp only [mummerref01_Split.j2] at H
                  by_cases c31 : x4_1.length < 5864062014805
                  · rw [if_pos c31] at H
                    have LMc31 := ak c31
                    clear c31
                    obtain ⟨y154, hy154⟩ : ∃ y_ : List (S43), y_ = (x4_1 ++ [(⟨x152000_6, x152001_6⟩ : S43)]) := ⟨_, rfl⟩
                    replace H : (if x5_1 = true then (mummerref01_Split.j3 kj6 a0 y154 true x6_1 x8_6) else (mummerref01_Split.j3 kj6 a0 y154 (decide ((x152000_6.size : Int) > 2000)) x6_1 x8_6)) = some (r1, r2) := by first | (rw [hy154]; with_reducible exact H) | (have H2_ := (Option.bind_some _ _).symm.trans H; rw [hy154]; with_reducible exact H2_) | (have H2_ := (Option.bind_some _ _).symm.trans H; with_reducible exact H2_) | with_reducible exact H | (rw [hy154]; exact H) | exact H
                    have Ny154 := ak hy154
                    clear hy154
                    have HC32 := ak H
                    clear H
                    have hcz33_0 : wc.cell? ⟨gb151, 0, none⟩ = some (.string x152000_6) := (blk_cell BK151.out 0).trans rfl
                    have hcz33_1 : wc.cell? ⟨gb151, 1, none⟩ = some (.bool x152001_6) := (blk_cell BK151.out 1).trans rfl
                    have hfz33_0 := blk_frozen BK151.out 0
                    have hfz33_1 := blk_frozen BK151.out 1
                    go_upto_region 17 with (first | ((with_reducible refine gate_builtin (b := .append) (xs := #[.tmp 53, .tmp 55]) rfl ?_); (try (refine gate_guard (by rfl) ?_; dsimp only)); at_builtin; refine Kd.R_append k43 (w0 := w) w.heap.size rfl (.tmp 53) (.tmp 55) 23 43 (.agg #[(.string ⟨#[]⟩), (.bool false)]) 24 rfl Tryd.underlying23 info43 rfl (by decide) (by omega) u4 x4_1 (⟨x152000_6, x152001_6⟩ : S43) [.string x152000_6, .bool x152001_6] (fun k_ => k_ ≠ gb151) (fun _ => False) rfl rfl ?aP (fun _ hk => hk.elim) ?aF ?aO ?aB ?aS ?aL ?_; (case aP => exact k43_mkM _ _ _ (⟨x152000_6, x152001_6⟩ : S43)); (case aB => exact (by repeat (first | (with_reducible first | exact HB.out | apply wA | apply wN | apply wD | refine below_set ?_ GE151.out) | exact HB.out))); (case aF => exact (fun k_ hk => Kd.freshB (g := gb151) (o := .cells #[.string x152000_6, .bool x152001_6] 43 (0, 0)) (by (with_reducible repeat (first | refine bN ?_ _ | refine bD ?_ | refine bA ?_ _)); exact BK151.out) k_ hk)); (case aO => exact (by (with_reducible repeat (first | apply Kd.R_alloc | apply Kd.R_drewN | apply Kd.R_drew)); exact HO_4.out)); (case aS => exact (below_size (by repeat (first | (with_reducible first | exact HB.out | apply wA | apply wN | apply wD | refine below_set ?_ GE151.out) | exact HB.out)))); (case aL => have := LMc31.out; omega); intro v155 w34 ho hb hg hat; rw [← Ny154.out] at ho; have n0_ := ak (blk_grown (g := gb151) (o := .cells #[.string x152000_6, .bool x152001_6] 43 (0, 0)) (by (with_reducible repeat (first | refine bN ?_ _ | refine bD ?_ | refine bA ?_ _)); exact BK151.out) hg (Kd.R_away HO_4.out (fun _ hk => hk))); have n1_ := ak (hb); have n2_ := ak (ho); clear BK151; clear HB; clear HO_4; have BK151 := n0_; have HB := n1_; have HO156 := n2_; clear n0_ n1_ n2_; clear ho hb hg hat))
                    (try simp only [Act.put, List.setIfInBounds_toArray, List.set_cons_zero, List.set_cons_succ])
                    go_cut [5] (fun v5 wc => ∃ (kq : Nat) (x5_31 : Bool), v5 = .bool x5_31 ∧ Aside0 (mummerref01_Split.j3 kq a0 y154 x5_31 x6_1 x8_6 = some (r1, r2)) ∧ Aside0 (kq ≤ kj6) ∧ Aside0 (Kd.R k43 43 wc w.heap.size (fun k_ => k_ ≠ gb151) v155 y154) ∧ Aside0 (wc.heap[gb151]? = some (.cells #[.string x152000_6, .bool x152001_6] 43 (0, 0))) ∧ Aside0 (Below w.heap.size w wc))
                    case first =>
                      have H := HC32.out
                      clear HC32
                      by_cases c35 : x5_1 = true
                      · subst c35
                        have H1 : (mummerref01_Split.j3 kj6 a0 y154 true x6_1 x8_6) = some (r1, r2) := by rw [if_pos rfl] at H; exact H
                        clear H
                        have H := H1
                        clear H1
                        have H' := ak H
                        clear H
                        go_wp2
                        go_meet
                        case rel => exact ⟨_, (true), (by first | rfl | (simp; done) | (simp [*]; done)), H', ⟨by have := HK1.out; have := HJ6.out; first | omega | exact Nat.le_refl _⟩, ⟨by (with_reducible repeat (first | apply Kd.R_alloc | apply Kd.R_drewN | apply Kd.R_drew)); exact HO156.out⟩, ⟨by (with_reducible repeat (first | refine bN ?_ _ | refine bD ?_ | refine bA ?_ _)); exact BK151.out⟩, ⟨by repeat (first | (with_reducible first | exact HB.out | apply wA | apply wN | apply wD | refine below_set ?_ GE151.out) | exact HB.out)⟩⟩
                      · replace c35 := Bool.eq_false_iff.mpr c35
                        subst c35
                        have H1 : (mummerref01_Split.j3 kj6 a0 y154 (decide ((x152000_6.size : Int) > 2000)) x6_1 x8_6) = some (r1, r2) := by rw [if_neg (show ¬ (false = true) by decide)] at H; exact H
                        clear H
                        have H := H1
                        clear H1
                        have H' := ak H
                        clear H
                        have hcz36_0 : w34.cell? ⟨gb151, 0, none⟩ = some (.string x152000_6) := (blk_cell BK151.out 0).trans rfl
                        have hcz36_1 : w34.cell? ⟨gb151, 1, none⟩ = some (.bool x152001_6) := (blk_cell BK151.out 1).trans rfl
                        have hfz36_0 := blk_frozen BK151.out 0
                        have hfz36_1 := blk_frozen BK151.out 1
                        go_wp2
                        go_meet
                        case rel => exact ⟨_, (decide ((x152000_6.size : Int) > 2000)), (by first | rfl | (simp; done) | (simp [*]; done)), H', ⟨by have := HK1.out; have := HJ6.out; first | omega | exact Nat.le_refl _⟩, ⟨by (with_reducible repeat (first | apply Kd.R_alloc | apply Kd.R_drewN | apply Kd.R_drew)); exact HO156.out⟩, ⟨by (with_reducible repeat (first | refine bN ?_ _ | refine bD ?_ | refine bA ?_ _)); exact BK151.out⟩, ⟨by repeat (first | (with_reducible first | exact HB.out | apply wA | apply wN | apply wD | refine below_set ?_ GE151.out) | exact HB.out)⟩⟩
                    case rest =>
                      clear HC32
                      try clear c1
                      try clear p1
                      try clear q1
                      try clear hx1
                      try clear c2
                      try clear c2b0
                      try clear c2b1
                      try clear p2
                      try clear c3
                      try clear c3b0
                      try clear c3b1
                      try clear c4
                      try clear c4b0
                      try clear c4b1
                      try clear c5
                      try clear c5b0
                      try clear c5b1
                      try clear p6
                      try clear c11
                      try clear c11b0
                      try clear c11b1
                      try clear c12
                      try clear c12b0
                      try clear c14
                      try clear c14b0
                      try clear p15
                      try clear q15
                      try clear hx15
                      try clear c16
                      try clear c16b0
                      try clear c16b1
                      try clear c17
                      try clear c17b0
                      try clear c17b1
                      try clear c18
                      try clear c18b0
                      try clear c18b1
                      try clear c19
                      try clear c19b0
                      try clear c19b1
                      try clear c21
                      try clear c24
                      try clear c24b0
                      try clear c24b1
                      try clear c25
                      try clear c25b0
                      try clear c25b1
                      try clear c26
                      try clear c26b0
                      try clear c26b1
                      try clear c28
                      try clear c29
                      try clear c30
                      try clear c31
                      try clear c35
                      try clear hcz10_0
                      try clear hcz10_1
                      try clear hcz22_0
                      try clear hcz22_1
                      try clear hcz23_0
                      try clear hcz23_1
                      try clear hcz29_0
                      try clear hcz29_1
                      try clear hcz30_0
                      try clear hcz30_1
                      try clear hcz33_0
                      try clear hcz33_1
                      try clear hcz36_0
                      try clear hcz36_1
                      try clear hfz10_0
                      try clear hfz10_1
                      try clear hfz22_0
                      try clear hfz22_1
                      try clear hfz23_0
                      try clear hfz23_1
                      try clear hfz29_0
                      try clear hfz29_1
                      try clear hfz30_0
                      try clear hfz30_1
                      try clear hfz33_0
                      try clear hfz33_1
                      try clear hfz36_0
                      try clear hfz36_1
                      try clear p1
                      try clear p15
                      try clear p2
                      try clear p6
                      try clear q1
                      try clear q15
                      obtain ⟨kq, x5_31, rfl, HA, HJ31, HO_4, BK151, HB⟩ := hcut
                      cases kq with
                      | zero => exact absurd HA.out (by simp [mummerref01_Split.j3])
                      | succ kj31 =>
                        have H := HA.out
                        clear HA
                        simp only [mummerref01_Split.j3] at H
                        by_cases c37 : (wrap64 (x6_1 + x8_6)) = (a0.size : Int)
                        · rw [if_pos c37] at H
                          have c37b0 : ((wrap64 (x6_1 + x8_6)) == (a0.size : Int)) = true := beq_iff_eq.mpr c37
                          have c37b1 : ((wrap64 (x6_1 + x8_6)) != (a0.size : Int)) = false := bne_eq_false_iff_eq.mpr c37
                          clear c37
                          by_cases c38 : x5_31 = true
                          · subst c38
                            have H1 : (some (([] : List (S43)), 3)) = some (r1, r2) := by rw [if_pos rfl] at H; exact H
                            clear H
                            have H := H1
                            clear H1
                            simp only [Option.some.injEq, Prod.mk.injEq] at H
                            obtain ⟨rfl, rfl⟩ := H
                            go_wp2
                            go_ret2
                            exact ⟨_, by first | rfl | (simp [errW_none, errW_some] <;> rfl) | (simp [*, errW_none, errW_some] <;> rfl), by first | exact Kd.R_nil _ _ _ _ _ | exact Kd.N_nil _ _ _ _ _ | exact Kd.V_nil _ _ _ _ _ | exact Kd.Q_nil _ _ _ _ _ | exact Kd.S_nil _ _ _ _ _, by repeat (first | (with_reducible first | exact HB.out | apply wA | apply wN | apply wD | refine below_set ?_ GE151.out) | exact HB.out)⟩
                          · replace c38 := Bool.eq_false_iff.mpr c38
                            subst c38
                            have H1 : (if (y154.length : Int) > 64 then (some (([] : List (S43)), 3)) else (some (y154, 0))) = some (r1, r2) := by rw [if_neg (show ¬ (false = true) by decide)] at H; exact H
                            clear H
                            have H := H1
                            clear H1
                            by_cases c39 : (y154.length : Int) > 64
                            · rw [if_pos c39] at H
                              have c39b0 : decide (64 < (y154.length : Int)) = true := decide_eq_true c39
                              have c39b1 : decide (64 < y154.length) = true := decide_eq_true (by omega)
                              clear c39
                              simp only [Option.some.injEq, Prod.mk.injEq] at H
                              obtain ⟨rfl, rfl⟩ := H
                              obtain ⟨Ao40, co40, eo40⟩ := Kd.R_slice HO_4.out
                              subst eo40
                              go_wp2
                              go_ret2
                              exact ⟨_, by first | rfl | (simp [errW_none, errW_some] <;> rfl) | (simp [*, errW_none, errW_some] <;> rfl), by first | exact Kd.R_nil _ _ _ _ _ | exact Kd.N_nil _ _ _ _ _ | exact Kd.V_nil _ _ _ _ _ | exact Kd.Q_nil _ _ _ _ _ | exact Kd.S_nil _ _ _ _ _, by repeat (first | (with_reducible first | exact HB.out | apply wA | apply wN | apply wD | refine below_set ?_ GE151.out) | exact HB.out)⟩
                            · rw [if_neg c39] at H
                              have c39b0 : decide (64 < (y154.length : Int)) = false := decide_eq_false c39
                              have c39b1 : decide (64 < y154.length) = false := decide_eq_false (by omega)
                              clear c39
                              simp only [Option.some.injEq, Prod.mk.injEq] at H
                              obtain ⟨rfl, rfl⟩ := H
                              obtain ⟨Ao41, co41, eo41⟩ := Kd.R_slice HO_4.out
                              subst eo41
                              go_wp2
                              go_ret2
                              exact ⟨_, by first | rfl | (simp [errW_none, errW_some] <;> rfl) | (simp [*, errW_none, errW_some] <;> rfl), by (with_reducible repeat (first | apply Kd.R_alloc | apply Kd.R_drewN | apply Kd.R_drew)); exact Kd.R_mono HO_4.out (fun _ hk => trivial), by repeat (first | (with_reducible first | exact HB.out | apply wA | apply wN | apply wD | refine below_set ?_ GE151.out) | exact HB.out)⟩
                        · rw [if_neg c37] at H
                          have c37b0 : ((wrap64 (x6_1 + x8_6)) == (a0.size : Int)) = false := beq_eq_false_iff_ne.mpr c37
                          have c37b1 : ((wrap64 (x6_1 + x8_6)) != (a0.size : Int)) = true := bne_iff_ne.mpr c37
                          obtain ⟨ji42, hji42⟩ : ∃ j_ : Int, (wrap64 (x6_1 + x8_6)) = j_ := ⟨_, rfl⟩
                          replace H : (if 0 ≤ (ji42) then (if (ji42) < (a0.size : Int) then (if (bt a0 (ji42)) = 32 then (mummerref01_Split.l0 kj31 a0 y154 x5_31 (wrap64 ((ji42) + 1))) else (some (([] : List (S43)), 6))) else (none)) else (none)) = some (r1, r2) := by first | (rw [hji42] at H; exact H) | (simp only [hji42] at H ⊢; exact H)
                          (try rw [hji42] at c37b0)
                          (try rw [hji42] at c37b1)
                          have hji42w : (IntKind.i64.wrap (x6_1 + x8_6)) = ji42 := (i64_w _).trans hji42
                          by_cases c43 : 0 ≤ (ji42)
                          · rw [if_pos c43] at H
                            have c43b0 : decide (0 ≤ (ji42)) = true := decide_eq_true c43
                            clear c43
                            by_cases c44 : (ji42) < (a0.size : Int)
                            · rw [if_pos c44] at H
                              have c44b0 : decide ((ji42) < (a0.size : Int)) = true := decide_eq_true c44
                              clear c44
                              by_cases c46 : (bt a0 (ji42)) = 32
                              · rw [if_pos c46] at H
                                have c46b0 : ((bt a0 (ji42)) == 32) = true := beq_iff_eq.mpr c46
                                have c46b1 : ((bt a0 (ji42)) != 32) = false := bne_eq_false_iff_eq.mpr c46
                                clear c46
                                have H' := ak H
                                clear H
                                have p45 : 0 ≤ ((ji42) : Int) := of_decide_eq_true (by first | (with_reducible assumption) | assumption)
                                have q45 : (ji42) < (a0.size : Int) := of_decide_eq_true (by first | (with_reducible assumption) | assumption)
                                have hx45 := bt_at a0 (ji42)
                                replace p45 := eq_true p45
                                replace q45 := eq_true q45
                                go_wp2
                                go_roundg kj31
                                case measure => have := HK1.out; have := HJ6.out; have := HJ31.out; omega
                                case rel => exact ⟨(y154), (x5_31), (wrap64 ((ji42) + 1)), (by first | rfl | (simp; done) | (simp [*]; done)), (by first | rfl | (simp; done) | (simp only [← hji42] <;> (first | rfl | simp)) | (simp [*]; done)), H', ⟨by have := HK1.out; have := HJ6.out; have := HJ31.out; omega⟩, ⟨by (with_reducible repeat (first | apply Kd.R_alloc | apply Kd.R_drewN | apply Kd.R_drew)); exact Kd.R_mono HO_4.out (fun _ hk => trivial)⟩, ⟨by repeat (first | (with_reducible first | exact HB.out | apply wA | apply wN | apply wD | refine below_set ?_ GE151.out) | exact HB.out)⟩⟩
                              · rw [if_neg c46] at H
                                have c46b0 : ((bt a0 (ji42)) == 32) = false := beq_eq_false_iff_ne.mpr c46
                                have c46b1 : ((bt a0 (ji42)) != 32) = true := bne_iff_ne.mpr c46
                                simp only [Option.some.injEq, Prod.mk.injEq] at H
                                obtain ⟨rfl, rfl⟩ := H
                                have p45 : 0 ≤ ((ji42) : Int) := of_decide_eq_true (by first | (with_reducible assumption) | assumption)
                                have q45 : (ji42) < (a0.size : Int) := of_decide_eq_true (by first | (with_reducible assumption) | assumption)
                                have hx45 := bt_at a0 (ji42)
                                replace p45 := eq_true p45
                                replace q45 := eq_true q45
                                go_wp2
                                go_ret2
                                exact ⟨_, by first | rfl | (simp [errW_none, errW_some] <;> rfl) | (simp only [← hji42]; first | rfl | (simp [errW_none, errW_some] <;> rfl)) | (simp [*, errW_none, errW_some] <;> rfl), by first | exact Kd.R_nil _ _ _ _ _ | exact Kd.N_nil _ _ _ _ _ | exact Kd.V_nil _ _ _ _ _ | exact Kd.Q_nil _ _ _ _ _ | exact Kd.S_nil _ _ _ _ _, by repeat (first | (with_reducible first | exact HB.out | apply wA | apply wN | apply wD | refine below_set ?_ GE151.out) | exact HB.out)⟩
                            · rw [if_neg c44] at H
                              exact absurd H (by simp)
                          · rw [if_neg c43] at H
                            exact absurd H (by simp)
                  · rw [if_neg c31] at H
                    exact absurd H (by simp)
            · rw [if_neg c5] at H
              exact absurd H (by simp)
          · rw [if_neg c4] at H
            exact absurd H (by simp)
end Go.Proofs.YtciaocdpojnmcaaDoor.P
namespace Go.Proofs.YtciaocdpojnmcaaDoor.P
open Go.RowKit Go.Proofs.YtciaocdpojnmcaaDoorW.PrintWords Go.Proofs.YtciaocdpojnmcaaDoorW.PrintLast Go.Proofs.YtciaocdpojnmcaaDoorW.PrintMore
attribute [local go_sem] max2_int min2_int max_two min_two max_three min_three max_four min_four   -- for this text's walks alone
set_option linter.unusedVariables false
set_option linter.unusedSimpArgs false
def mummerlaw01_WordsSplits.j0 : Nat → ByteArray → Bool → Option (Bool)
  | 0, _, _ => none
  | k + 1, x0, x19 => if x19 = true then ((mummerlaw01_shown.f k).bind fun t157 => (some t157)) else ((words_Split.f x0).bind fun bt158 => ((mummerref01_Split.f k x0).bind fun bt162 => ((mummerref01_Same.f k bt158.1 bt162.1).bind fun t166 => (if t166 = true then (if bt158.2 = bt162.2 then ((mummerlaw01_shown.f k).bind fun t167 => (some t167)) else (some false)) else (some false)))))
def mummerlaw01_WordsSplits.f (k : Nat) (a0 : ByteArray) : Option (Bool) := if (a0.size : Int) > 3000 then (if (a0.size : Int) ≤ 8192 then (mummerlaw01_WordsSplits.j0 k a0 true) else (mummerlaw01_WordsSplits.j0 k a0 (decide ((a0.size : Int) > 9000)))) else (mummerlaw01_WordsSplits.j0 k a0 (decide ((a0.size : Int) > 9000)))
set_option maxHeartbeats 8000000 in
set_option maxRecDepth 100000 in
theorem mummerlaw01_WordsSplits.calls (k : Nat) (a0 : ByteArray) (r : Bool) (w : World) (hrt : Aside0 (r = true)) (h : mummerlaw01_WordsSplits.f k a0 = some r) (HT : Aside0 (Wd.All w)) :
    Calls Tryd.prog 3 #[.string a0] w fun e w' => e = .returned (.bool r) ∧ Below w.heap.size w w' := by
  have HB := ak (Below.refl w.heap.size w)
  have H : (if (a0.size : Int) > 3000 then (if (a0.size : Int) ≤ 8192 then (mummerlaw01_WordsSplits.j0 k a0 true) else (mummerlaw01_WordsSplits.j0 k a0 (decide ((a0.size : Int) > 9000)))) else (mummerlaw01_WordsSplits.j0 k a0 (decide ((a0.size : Int) > 9000)))) = some r := h
  clear h
  have HC2 := ak H
  clear H
  go_enter Tryd.func3, Tryd.ntmps3
  go_upto_region 1 with (fail)
  go_cut [19] (fun v19 wc => ∃ (kq : Nat) (x19_1 : Bool), v19 = .bool x19_1 ∧ Aside0 (mummerlaw01_WordsSplits.j0 kq a0 x19_1 = some r) ∧ Aside0 (kq ≤ k) ∧ Aside0 (Below w.heap.size w wc))
  case first =>
    have H := HC2.out
    clear HC2
    by_cases c3 : (a0.size : Int) > 3000
    · rw [if_pos c3] at H
      have c3b0 : decide (3000 < (a0.size : Int)) = true := decide_eq_true c3
      have c3b1 : decide (3000 < a0.size) = true := decide_eq_true (by omega)
      clear c3
      (first | rw [c3b0] | (simp only [i64_w, i32_w]; rw [c3b0]) | skip)
      by_cases c4 : (a0.size : Int) ≤ 8192
      · rw [if_pos c4] at H
        have c4b0 : decide ((a0.size : Int) ≤ 8192) = true := decide_eq_true c4
        have c4b1 : decide (a0.size ≤ 8192) = true := decide_eq_true (by omega)
        clear c4
        have H' := ak H
        clear H
        go_wp2
        go_meet
        case rel => exact ⟨_, (true), (by first | rfl | (simp; done) | (simp [*]; done)), H', ⟨by first | omega | exact Nat.le_refl _⟩, ⟨by repeat (first | (with_reducible first | exact HB.out | apply wA | apply wN | apply wD) | exact HB.out)⟩⟩
      · rw [if_neg c4] at H
        have c4b0 : decide ((a0.size : Int) ≤ 8192) = false := decide_eq_false c4
        have c4b1 : decide (a0.size ≤ 8192) = false := decide_eq_false (by omega)
        clear c4
        have H' := ak H
        clear H
        go_wp2
        go_meet
        case rel => exact ⟨_, (decide ((a0.size : Int) > 9000)), (by first | rfl | (simp; done) | (simp [*]; done)), H', ⟨by first | omega | exact Nat.le_refl _⟩, ⟨by repeat (first | (with_reducible first | exact HB.out | apply wA | apply wN | apply wD) | exact HB.out)⟩⟩
    · rw [if_neg c3] at H
      have c3b0 : decide (3000 < (a0.size : Int)) = false := decide_eq_false c3
      have c3b1 : decide (3000 < a0.size) = false := decide_eq_false (by omega)
      clear c3
      (first | rw [c3b0] | (simp only [i64_w, i32_w]; rw [c3b0]) | skip)
      have H' := ak H
      clear H
      go_wp2
      go_meet
      case rel => exact ⟨_, (decide ((a0.size : Int) > 9000)), (by first | rfl | (simp; done) | (simp [*]; done)), H', ⟨by first | omega | exact Nat.le_refl _⟩, ⟨by repeat (first | (with_reducible first | exact HB.out | apply wA | apply wN | apply wD) | exact HB.out)⟩⟩
  case rest =>
    clear HC2
    try clear p2
    try clear c3
    try clear c3b0
    try clear c3b1
    try clear c4
    try clear c4b0
    try clear c4b1
    obtain ⟨kq, x19_1, rfl, HA, HJ1, HB⟩ := hcut
    cases kq with
    | zero => exact absurd HA.out (by simp [mummerlaw01_WordsSplits.j0])
    | succ kj1 =>
      have H := HA.out
      clear HA
      simp only [mummerlaw01_WordsSplits.j0] at H
      by_cases c5 : x19_1 = true
      · subst c5
        have H1 : ((mummerlaw01_shown.f kj1).bind fun t157 => (some t157)) = some r := by rw [if_pos rfl] at H; exact H
        clear H
        have H := H1
        clear H1
        replace H := Option.bind_eq_some_iff.mp H
        obtain ⟨t157, A60, H⟩ := H
        replace H : (some t157) = some r := H
        have A6 := ak A60
        clear A60
        obtain rfl := Option.some.inj H
        go_wp2_with (first | ((with_reducible refine gate_callee (f := 9) rfl ?_); refine goesL_ (some 20) rfl rfl Tryd.func9 (by kernel_rfl) rfl #[] rfl (by (try simp only [List.map_toArray, List.map_cons, List.map_nil]); first | done | rfl | (simp only [List.length_drop, List.length_take]; rfl)) ?_; (with_reducible refine (mummerlaw01_shown.calls kj1  t157 _ hrt A6.out ⟨Wd.All.stay HT.out (by repeat (first | (with_reducible first | exact HB.out | apply wA | apply wN | apply wD) | exact HB.out | (refine below_set ?_ (by assumption)) | (refine below_set ?_ (Aside0.out (by assumption)))))⟩).mono ?_); rintro e w7 ⟨rfl, hb⟩; refine ⟨_, rfl, ?_⟩; have n0_ := ak (below_step (by repeat (first | (with_reducible first | exact HB.out | apply wA | apply wN | apply wD) | exact HB.out)) hb); clear HB; have HB := n0_; clear n0_; (try clear hb); (try clear hb2); (try clear hk); (try clear hi)))
        go_ret
        exact ⟨by first | rfl | (simp [errW_none, errW_some] <;> rfl) | (simp [*, errW_none, errW_some] <;> rfl), by repeat (first | (with_reducible first | exact HB.out | apply wA | apply wN | apply wD) | exact HB.out)⟩
      · replace c5 := Bool.eq_false_iff.mpr c5
        subst c5
        have H1 : ((words_Split.f a0).bind fun bt158 => ((mummerref01_Split.f kj1 a0).bind fun bt162 => ((mummerref01_Same.f kj1 bt158.1 bt162.1).bind fun t166 => (if t166 = true then (if bt158.2 = bt162.2 then ((mummerlaw01_shown.f kj1).bind fun t167 => (some t167)) else (some false)) else (some false))))) = some r := by rw [if_neg (show ¬ (false = true) by decide)] at H; exact H
        clear H
        have H := H1
        clear H1
        replace H := Option.bind_eq_some_iff.mp H
        obtain ⟨⟨t158, t159⟩, A80, H⟩ := H
        replace H : ((mummerref01_Split.f kj1 a0).bind fun bt162 => ((mummerref01_Same.f kj1 t158 bt162.1).bind fun t166 => (if t166 = true then (if t159 = bt162.2 then ((mummerlaw01_shown.f kj1).bind fun t167 => (some t167)) else (some false)) else (some false)))) = some r := H
        have A8 := ak A80
        clear A80
        replace H := Option.bind_eq_some_iff.mp H
        obtain ⟨⟨t162, t163⟩, A90, H⟩ := H
        replace H : ((mummerref01_Same.f kj1 t158 t162).bind fun t166 => (if t166 = true then (if t159 = t163 then ((mummerlaw01_shown.f kj1).bind fun t167 => (some t167)) else (some false)) else (some false))) = some r := H
        have A9 := ak A90
        clear A90
        replace H := Option.bind_eq_some_iff.mp H
        obtain ⟨t166, A100, H⟩ := H
        replace H : (if t166 = true then (if t159 = t163 then ((mummerlaw01_shown.f kj1).bind fun t167 => (some t167)) else (some false)) else (some false)) = some r := H
        have A10 := ak A100
        clear A100
        by_cases c11 : t166 = true
        · subst c11
          have H1 : (if t159 = t163 then ((mummerlaw01_shown.f kj1).bind fun t167 => (some t167)) else (some false)) = some r := by rw [if_pos rfl] at H; exact H
          clear H
          have H := H1
          clear H1
          by_cases c12 : t159 = t163
          · rw [if_pos c12] at H
            have c12b0 : (t159 == t163) = true := beq_iff_eq.mpr c12
            have c12b1 : (t159 != t163) = false := bne_eq_false_iff_eq.mpr c12
            clear c12
            replace H := Option.bind_eq_some_iff.mp H
            obtain ⟨t167, A130, H⟩ := H
            replace H : (some t167) = some r := H
            have A13 := ak A130
            clear A130
            obtain rfl := Option.some.inj H
            go_wp2_with (first | ((with_reducible refine gate_callee (f := 10) rfl ?_); refine goesL_ (some 23) rfl rfl Tryd.func10 (by kernel_rfl) rfl #[.string a0] rfl (by (try simp only [List.map_toArray, List.map_cons, List.map_nil]); first | done | rfl | (simp only [List.length_drop, List.length_take]; rfl)) ?_; (with_reducible refine (words_Split.calls a0 t158 t159 _ A8.out ⟨Wd.All.stay HT.out (by repeat (first | (with_reducible first | exact HB.out | apply wA | apply wN | apply wD) | exact HB.out | (refine below_set ?_ (by assumption)) | (refine below_set ?_ (Aside0.out (by assumption)))))⟩).mono ?_); rintro e w14 ⟨v160, rfl, ho0, hb⟩; refine ⟨_, rfl, ?_⟩; have n0_ := ak (Kd.R_lower ho0 (below_size (by repeat (first | (with_reducible first | exact HB.out | apply wA | apply wN | apply wD) | exact HB.out)))); have n1_ := ak (below_step (by repeat (first | (with_reducible first | exact HB.out | apply wA | apply wN | apply wD) | exact HB.out)) hb); clear HB; have HO161 := n0_; have HB := n1_; clear n0_ n1_; (try clear hb); (try clear hb2); (try clear hk); (try clear hi); (try clear ho0)) | ((with_reducible refine gate_callee (f := 11) rfl ?_); refine goesL_ (some 28) rfl rfl Tryd.func11 (by kernel_rfl) rfl #[.string a0] rfl (by (try simp only [List.map_toArray, List.map_cons, List.map_nil]); first | done | rfl | (simp only [List.length_drop, List.length_take]; rfl)) ?_; (with_reducible refine (mummerref01_Split.calls kj1 a0 t162 t163 _ A9.out).mono ?_); rintro e w15 ⟨v164, rfl, ho0, hb⟩; refine ⟨_, rfl, ?_⟩; have n0_ := ak (Kd.R_elder' (by (with_reducible repeat (first | apply Kd.R_alloc | apply Kd.R_drewN | apply Kd.R_drew)); exact HO161.out) (Kd.R_base ho0) hb); have n1_ := ak (Kd.R_lower (Kd.R_new' ho0 (Kd.R_lt (by (with_reducible repeat (first | apply Kd.R_alloc | apply Kd.R_drewN | apply Kd.R_drew)); exact HO161.out))) (below_size (by repeat (first | (with_reducible first | exact HB.out | apply wA | apply wN | apply wD) | exact HB.out)))); have n2_ := ak (below_step (by repeat (first | (with_reducible first | exact HB.out | apply wA | apply wN | apply wD) | exact HB.out)) hb); clear HO161; clear HB; have HO161 := n0_; have HO165 := n1_; have HB := n2_; clear n0_ n1_ n2_; (try clear hb); (try clear hb2); (try clear hk); (try clear hi); (try clear ho0); obtain ⟨Ao16, co16, eo16⟩ := Kd.R_slice HO161.out; subst eo16; obtain ⟨Ao17, co17, eo17⟩ := Kd.R_slice HO165.out; subst eo17) | ((with_reducible refine gate_callee (f := 12) rfl ?_); refine goesL_ (some 33) rfl rfl Tryd.func12 (by kernel_rfl) rfl #[.slice Ao16 t158.length co16, .slice Ao17 t162.length co17] rfl (by (try simp only [List.map_toArray, List.map_cons, List.map_nil]); first | done | rfl | (simp only [List.length_drop, List.length_take]; rfl)) ?_; (with_reducible refine (mummerref01_Same.calls kj1 _ _ t158 _ _ t162 true _ ?side1 ?side2 ?side3 ?side4 A10.out).mono ?_); (case side1 => repeat (first | exact (Kd.R_reads' HO161.out).2.2 | (with_reducible refine Kd.C_alloc ?_ _) | (with_reducible refine Kd.C_drewN ?_ _) | (with_reducible refine Kd.C_drew ?_))); (case side2 => exact (Kd.R_reads' HO161.out).2.1); (case side3 => repeat (first | exact (Kd.R_reads' HO165.out).2.2 | (with_reducible refine Kd.C_alloc ?_ _) | (with_reducible refine Kd.C_drewN ?_ _) | (with_reducible refine Kd.C_drew ?_))); (case side4 => exact (Kd.R_reads' HO165.out).2.1); rintro e w' ⟨rfl, ⟨nd, rfl⟩⟩; refine ⟨_, rfl, ?_⟩) | (go_at_call 9; (with_reducible refine (mummerlaw01_shown.calls kj1  t167 _ hrt A13.out ⟨Wd.All.stay HT.out (by repeat (first | (with_reducible first | exact HB.out | apply wA | apply wN | apply wD) | exact HB.out | (refine below_set ?_ (by assumption)) | (refine below_set ?_ (Aside0.out (by assumption)))))⟩).mono ?_); rintro e w18 ⟨rfl, hb⟩; have n0_ := ak (Kd.R_below (by (with_reducible repeat (first | apply Kd.R_alloc | apply Kd.R_drewN | apply Kd.R_drew)); exact HO161.out) hb); have n1_ := ak (Kd.R_below (by (with_reducible repeat (first | apply Kd.R_alloc | apply Kd.R_drewN | apply Kd.R_drew)); exact HO165.out) hb); have n2_ := ak (below_step (by repeat (first | (with_reducible first | exact HB.out | apply wA | apply wN | apply wD) | exact HB.out)) hb); clear HO161; clear HO165; clear HB; have HO161 := n0_; have HO165 := n1_; have HB := n2_; clear n0_ n1_ n2_; (try clear hb); (try clear hb2); (try clear hk); (try clear hi)))
            go_ret
            exact ⟨by first | rfl | (simp [errW_none, errW_some] <;> rfl) | (simp [*, errW_none, errW_some] <;> rfl), by repeat (first | (with_reducible first | exact HB.out | apply wA | apply wN | apply wD) | exact HB.out)⟩
          · rw [if_neg c12] at H
            have c12b0 : (t159 == t163) = false := beq_eq_false_iff_ne.mpr c12
            have c12b1 : (t159 != t163) = true := bne_iff_ne.mpr c12
            exact absurd ((Option.some.inj H).trans hrt.out) (by decide)
        · replace c11 := Bool.eq_false_iff.mpr c11
          subst c11
          have H1 : (some false) = some r := by rw [if_neg (show ¬ (false = true) by decide)] at H; exact H
          clear H
          have H := H1
          clear H1
          exact absurd ((Option.some.inj H).trans hrt.out) (by decide)
end Go.Proofs.YtciaocdpojnmcaaDoor.P
