import Derived.Test.YtpjcahjpjeiicaaKS23
import Derived.Test.YtpjcahjpjeiicaaKS25
import Derived.Test.YtpjcahjpjeiicaaKS24
namespace Go.Proofs.Ytpjcahjpjeiicaa.P
open Go.RowKit Go.Proofs.YtpjcahjpjeiicaaW.PrintWords Go.Proofs.YtpjcahjpjeiicaaW.PrintLast Go.Proofs.YtpjcahjpjeiicaaW.PrintMore
attribute [local go_sem] max2_int min2_int max_two min_two max_three min_three max_four min_four   -- for this text's walks alone
set_option linter.unusedVariables false
set_option linter.unusedSimpArgs false
def mummerref11_Of.l0 : Nat → List (S24) → Int → Int → List Int → Int → Option (List Int × Int)
  | 0, _, _, _, _, _ => none
  | k + 1, x0, x1, x2, x10, x11 => if x11 < (x0.length : Int) then (if 0 ≤ x11 then (if ((rd_T24 x0 x11).f2) = x1 then (if ((rd_T24 x0 x11).f3) = x2 then (if x10.length < 17592186044416 then (mummerref11_Of.l0 k x0 x1 x2 (x10 ++ [x11]) (wrap64 (x11 + 1))) else (none)) else (mummerref11_Of.l0 k x0 x1 x2 x10 (wrap64 (x11 + 1)))) else (mummerref11_Of.l0 k x0 x1 x2 x10 (wrap64 (x11 + 1)))) else (none)) else (some (x10, 0))
def mummerref11_Of.f (k : Nat) (l0 : List (S24)) (a1 : Int) (a2 : Int) : Option (List Int × Int) := (mummerref11_Check.f k l0).bind fun bt509 => (if bt509.2 = 0 then (mummerref11_Of.l0 k l0 a1 a2 ([] : List Int) 0) else (some (([] : List Int), bt509.2)))
set_option maxHeartbeats 8000000 in
set_option maxRecDepth 100000 in
theorem mummerref11_Of.calls (k : Nat) (A0 : Option Addr) (c0 : Nat) (l0 : List (S24)) (a1 : Int) (a2 : Int) (r1 : List Int) (r2 : Int) (w : World) (hr0 : Kd.C k24 w A0 l0.length l0) (hc0 : l0.length ≤ c0) (h : mummerref11_Of.f k l0 a1 a2 = some (r1, r2)) :
    Calls Try.prog 28 #[.slice A0 l0.length c0, .int .i64 a1, .int .i64 a2] w fun e w' => ∃ v0_ : Value, e = .returned (.tuple #[v0_, .int .i64 r2]) ∧ Kd.R (Kd.int .i64) 3 w' w.heap.size (fun _ => True) v0_ r1 ∧ Below w.heap.size w w' := by
  have HR0 := ak hr0
  have HC0 := ak hc0
  clear hr0 hc0
  have HB := ak (Below.refl w.heap.size w)
  have H : ((mummerref11_Check.f k l0).bind fun bt509 => (if bt509.2 = 0 then (mummerref11_Of.l0 k l0 a1 a2 ([] : List Int) 0) else (some (([] : List Int), bt509.2)))) = some (r1, r2) := h
  clear h
  replace H := Option.bind_eq_some_iff.mp H
  obtain ⟨⟨t509, t510⟩, A40, H⟩ := H
  replace H : (if t510 = 0 then (mummerref11_Of.l0 k l0 a1 a2 ([] : List Int) 0) else (some (([] : List Int), t510))) = some (r1, r2) := H
  have A4 := ak A40
  clear A40
  by_cases c5 : t510 = 0
  · rw [if_pos c5] at H
    have c5b0 : (t510 == 0) = true := beq_iff_eq.mpr c5
    have c5b1 : (t510 != 0) = false := bne_eq_false_iff_eq.mpr c5
    clear c5
    have H' := ak H
    clear H
    go_enter Try.func28, Try.ntmps28
    go_wp2_with (first | ((with_reducible refine gate_callee (f := 13) rfl ?_); refine goesL_ (some 14) rfl rfl Try.func13 (by kernel_rfl) rfl #[.slice A0 l0.length c0] rfl (by (try simp only [List.map_toArray, List.map_cons, List.map_nil]); first | done | rfl | (simp only [List.length_drop, List.length_take]; rfl)) ?_; (with_reducible refine (mummerref11_Check.calls k _ _ l0 t509 t510 _ ?side1 ?side2 A4.out).mono ?_); (case side1 => repeat (first | exact HR0.out | (with_reducible refine Kd.C_alloc ?_ _) | (with_reducible refine Kd.C_drewN ?_ _) | (with_reducible refine Kd.C_drew ?_))); (case side2 => exact HC0.out); rintro e w6 ⟨rfl, hb⟩; refine ⟨_, rfl, ?_⟩; have n0_ := ak (below_step (by repeat (first | (with_reducible first | exact HB.out | apply wA | apply wN | apply wD) | exact HB.out)) hb); clear HB; have HB := n0_; clear n0_; (try clear hb); (try clear hb2); (try clear hk); (try clear hi)))
    go_loopg [10, 11] k (fun kq v10 v11 w' => ∃ (x10_1 : List Int) (x11_1 : Int), v11 = .int .i64 x11_1 ∧ Aside0 (mummerref11_Of.l0 kq l0 a1 a2 x10_1 x11_1 = some (r1, r2)) ∧ Aside0 (kq ≤ k) ∧ Aside0 (Kd.R (Kd.int .i64) 3 w' w.heap.size (fun _ => True) v10 x10_1) ∧ Aside0 (Below w.heap.size w w'))
    case atStart => exact ⟨(([] : List Int)), (0), (by first | rfl | (simp; done) | (simp [*]; done)), H', ⟨Nat.le_refl _⟩, ⟨by first | exact Kd.R_nil _ _ _ _ _ | exact Kd.N_nil _ _ _ _ _ | exact Kd.V_nil _ _ _ _ _ | exact Kd.Q_nil _ _ _ _ _ | exact Kd.S_nil _ _ _ _ _⟩, ⟨by repeat (first | (with_reducible first | exact HB.out | apply wA | apply wN | apply wD) | exact HB.out)⟩⟩
    case round =>
      clear H'
      try clear c1
      try clear c2
      try clear p2
      try clear c5
      try clear c5b0
      try clear c5b1
      obtain ⟨x10_1, x11_1, rfl, HA, HK1, HO_10, HB⟩ := hrel
      cases gk with
      | zero => exact absurd HA.out (by simp [mummerref11_Of.l0])
      | succ k1 =>
        have H := HA.out
        clear HA
        simp only [mummerref11_Of.l0] at H
        by_cases c7 : x11_1 < (l0.length : Int)
        · rw [if_pos c7] at H
          have c7b0 : decide (x11_1 < (l0.length : Int)) = true := decide_eq_true c7
          clear c7
          by_cases c8 : 0 ≤ x11_1
          · rw [if_pos c8] at H
            have c8b0 : decide (0 ≤ x11_1) = true := decide_eq_true c8
            clear c8
            by_cases c9 : ((rd_T24 l0 x11_1).f2) = a1
            · rw [if_pos c9] at H
              have c9b0 : (((rd_T24 l0 x11_1).f2) == a1) = true := beq_iff_eq.mpr c9
              have c9b1 : (((rd_T24 l0 x11_1).f2) != a1) = false := bne_eq_false_iff_eq.mpr c9
              clear c9
              by_cases c10 : ((rd_T24 l0 x11_1).f3) = a2
              · rw [if_pos c10] at H
                have c10b0 : (((rd_T24 l0 x11_1).f3) == a2) = true := beq_iff_eq.mpr c10
                have c10b1 : (((rd_T24 l0 x11_1).f3) != a2) = false := bne_eq_false_iff_eq.mpr c10
                clear c10
                by_cases c11 : x10_1.length < 17592186044416
                · rw [if_pos c11] at H
                  have LMc11 := ak c11
                  clear c11
                  obtain ⟨y513, hy513⟩ : ∃ y_ : List Int, y_ = (x10_1 ++ [x11_1]) := ⟨_, rfl⟩
                  replace H : (mummerref11_Of.l0 k1 l0 a1 a2 y513 (wrap64 (x11_1 + 1))) = some (r1, r2) := by first | (rw [hy513]; with_reducible exact H) | (have H2_ := (Option.bind_some _ _).symm.trans H; rw [hy513]; with_reducible exact H2_) | (have H2_ := (Option.bind_some _ _).symm.trans H; with_reducible exact H2_) | with_reducible exact H | (rw [hy513]; exact H) | exact H
                  have Ny513 := ak hy513
                  clear hy513
                  have H' := ak H
                  clear H
                  have p511 : 0 ≤ (x11_1 : Int) := of_decide_eq_true (by first | (with_reducible assumption) | assumption)
                  have q511 : x11_1 < (l0.length : Int) := of_decide_eq_true (by first | (with_reducible assumption) | assumption)
                  obtain ⟨ad511, e511, hx511_0, hx511_1, hx511_2, hx511_3⟩ := at_T24 HR0.out x11_1 p511 q511
                  cases e511
                  replace hx511_0 := (HB.out.cell (World.block_lt_of_cell? w _ hx511_0)).trans hx511_0
                  replace hx511_1 := (HB.out.cell (World.block_lt_of_cell? w _ hx511_1)).trans hx511_1
                  replace hx511_2 := (HB.out.cell (World.block_lt_of_cell? w _ hx511_2)).trans hx511_2
                  replace hx511_3 := (HB.out.cell (World.block_lt_of_cell? w _ hx511_3)).trans hx511_3
                  replace p511 := eq_true p511
                  replace q511 := eq_true q511
                  have p512 : 0 ≤ (x11_1 : Int) := of_decide_eq_true (by first | (with_reducible assumption) | assumption)
                  have q512 : x11_1 < (l0.length : Int) := of_decide_eq_true (by first | (with_reducible assumption) | assumption)
                  obtain ⟨ad512, e512, hx512_0, hx512_1, hx512_2, hx512_3⟩ := at_T24 HR0.out x11_1 p512 q512
                  obtain rfl : ad511 = ad512 := (by injection e512)
                  replace hx512_0 := (HB.out.cell (World.block_lt_of_cell? w _ hx512_0)).trans hx512_0
                  replace hx512_1 := (HB.out.cell (World.block_lt_of_cell? w _ hx512_1)).trans hx512_1
                  replace hx512_2 := (HB.out.cell (World.block_lt_of_cell? w _ hx512_2)).trans hx512_2
                  replace hx512_3 := (HB.out.cell (World.block_lt_of_cell? w _ hx512_3)).trans hx512_3
                  replace p512 := eq_true p512
                  replace q512 := eq_true q512
                  go_wp2_with (first | ((with_reducible refine gate_builtin (b := .append) (xs := #[.tmp 42, .tmp 44]) rfl ?_); at_builtin; refine Kd.R_append (Kd.int .i64) (w0 := w) w.heap.size rfl (.tmp 42) (.tmp 44) 34 3 (.int .i64 0) 8 rfl Try.underlying34 info3 rfl (by decide) (by omega) u10 x10_1 x11_1 [.int .i64 x11_1] (fun _ => True) (fun _ => False) rfl rfl ?aP (fun _ hk => hk.elim) ?aF ?aO ?aB ?aS ?aL ?_; (case aP => exact rfl); (case aB => exact (by repeat (first | (with_reducible first | exact HB.out | apply wA | apply wN | apply wD) | exact HB.out))); (case aF => exact (fun _ _ => trivial)); (case aO => exact (by (with_reducible repeat (first | apply Kd.R_alloc | apply Kd.R_drewN | apply Kd.R_drew)); exact HO_10.out)); (case aS => exact (below_size (by repeat (first | (with_reducible first | exact HB.out | apply wA | apply wN | apply wD) | exact HB.out)))); (case aL => have := LMc11.out; omega); intro v514 w12 ho hb hg hat; rw [← Ny513.out] at ho; have n0_ := ak (hb); have n1_ := ak (ho); clear HB; clear HO_10; have HB := n0_; have HO515 := n1_; clear n0_ n1_; clear ho hb hg hat))
                  go_roundg k1
                  case measure => have := HK1.out; omega
                  case rel => exact ⟨(y513), (wrap64 (x11_1 + 1)), (by first | rfl | (simp; done) | (simp [*]; done)), H', ⟨by have := HK1.out; omega⟩, ⟨by (with_reducible repeat (first | apply Kd.R_alloc | apply Kd.R_drewN | apply Kd.R_drew)); exact HO515.out⟩, ⟨by repeat (first | (with_reducible first | exact HB.out | apply wA | apply wN | apply wD) | exact HB.out)⟩⟩
                · rw [if_neg c11] at H
                  exact absurd H (by simp)
              · rw [if_neg c10] at H
                have c10b0 : (((rd_T24 l0 x11_1).f3) == a2) = false := beq_eq_false_iff_ne.mpr c10
                have c10b1 : (((rd_T24 l0 x11_1).f3) != a2) = true := bne_iff_ne.mpr c10
                have H' := ak H
                clear H
                have p511 : 0 ≤ (x11_1 : Int) := of_decide_eq_true (by first | (with_reducible assumption) | assumption)
                have q511 : x11_1 < (l0.length : Int) := of_decide_eq_true (by first | (with_reducible assumption) | assumption)
                obtain ⟨ad511, e511, hx511_0, hx511_1, hx511_2, hx511_3⟩ := at_T24 HR0.out x11_1 p511 q511
                cases e511
                replace hx511_0 := (HB.out.cell (World.block_lt_of_cell? w _ hx511_0)).trans hx511_0
                replace hx511_1 := (HB.out.cell (World.block_lt_of_cell? w _ hx511_1)).trans hx511_1
                replace hx511_2 := (HB.out.cell (World.block_lt_of_cell? w _ hx511_2)).trans hx511_2
                replace hx511_3 := (HB.out.cell (World.block_lt_of_cell? w _ hx511_3)).trans hx511_3
                replace p511 := eq_true p511
                replace q511 := eq_true q511
                have p512 : 0 ≤ (x11_1 : Int) := of_decide_eq_true (by first | (with_reducible assumption) | assumption)
                have q512 : x11_1 < (l0.length : Int) := of_decide_eq_true (by first | (with_reducible assumption) | assumption)
                obtain ⟨ad512, e512, hx512_0, hx512_1, hx512_2, hx512_3⟩ := at_T24 HR0.out x11_1 p512 q512
                obtain rfl : ad511 = ad512 := (by injection e512)
                replace hx512_0 := (HB.out.cell (World.block_lt_of_cell? w _ hx512_0)).trans hx512_0
                replace hx512_1 := (HB.out.cell (World.block_lt_of_cell? w _ hx512_1)).trans hx512_1
                replace hx512_2 := (HB.out.cell (World.block_lt_of_cell? w _ hx512_2)).trans hx512_2
                replace hx512_3 := (HB.out.cell (World.block_lt_of_cell? w _ hx512_3)).trans hx512_3
                replace p512 := eq_true p512
                replace q512 := eq_true q512
                go_wp2
                go_roundg k1
                case measure => have := HK1.out; omega
                case rel => exact ⟨(x10_1), (wrap64 (x11_1 + 1)), (by first | rfl | (simp; done) | (simp [*]; done)), H', ⟨by have := HK1.out; omega⟩, ⟨by (with_reducible repeat (first | apply Kd.R_alloc | apply Kd.R_drewN | apply Kd.R_drew)); exact HO_10.out⟩, ⟨by repeat (first | (with_reducible first | exact HB.out | apply wA | apply wN | apply wD) | exact HB.out)⟩⟩
            · rw [if_neg c9] at H
              have c9b0 : (((rd_T24 l0 x11_1).f2) == a1) = false := beq_eq_false_iff_ne.mpr c9
              have c9b1 : (((rd_T24 l0 x11_1).f2) != a1) = true := bne_iff_ne.mpr c9
              have H' := ak H
              clear H
              have p511 : 0 ≤ (x11_1 : Int) := of_decide_eq_true (by first | (with_reducible assumption) | assumption)
              have q511 : x11_1 < (l0.length : Int) := of_decide_eq_true (by first | (with_reducible assumption) | assumption)
              obtain ⟨ad511, e511, hx511_0, hx511_1, hx511_2, hx511_3⟩ := at_T24 HR0.out x11_1 p511 q511
              cases e511
              replace hx511_0 := (HB.out.cell (World.block_lt_of_cell? w _ hx511_0)).trans hx511_0
              replace hx511_1 := (HB.out.cell (World.block_lt_of_cell? w _ hx511_1)).trans hx511_1
              replace hx511_2 := (HB.out.cell (World.block_lt_of_cell? w _ hx511_2)).trans hx511_2
              replace hx511_3 := (HB.out.cell (World.block_lt_of_cell? w _ hx511_3)).trans hx511_3
              replace p511 := eq_true p511
              replace q511 := eq_true q511
              go_wp2
              go_roundg k1
              case measure => have := HK1.out; omega
              case rel => exact ⟨(x10_1), (wrap64 (x11_1 + 1)), (by first | rfl | (simp; done) | (simp [*]; done)), H', ⟨by have := HK1.out; omega⟩, ⟨by (with_reducible repeat (first | apply Kd.R_alloc | apply Kd.R_drewN | apply Kd.R_drew)); exact HO_10.out⟩, ⟨by repeat (first | (with_reducible first | exact HB.out | apply wA | apply wN | apply wD) | exact HB.out)⟩⟩
          · rw [if_neg c8] at H
            exact absurd H (by simp)
        · rw [if_neg c7] at H
          have c7b0 : decide (x11_1 < (l0.length : Int)) = false := decide_eq_false c7
          clear c7
          simp only [Option.some.injEq, Prod.mk.injEq] at H
          obtain ⟨rfl, rfl⟩ := H
          go_wp2
          go_ret2
          exact ⟨_, by first | rfl | (simp [errW_none, errW_some] <;> rfl) | (simp [*, errW_none, errW_some] <;> rfl), by (with_reducible repeat (first | apply Kd.R_alloc | apply Kd.R_drewN | apply Kd.R_drew)); exact HO_10.out, by repeat (first | (with_reducible first | exact HB.out | apply wA | apply wN | apply wD) | exact HB.out)⟩
  · rw [if_neg c5] at H
    have c5b0 : (t510 == 0) = false := beq_eq_false_iff_ne.mpr c5
    have c5b1 : (t510 != 0) = true := bne_iff_ne.mpr c5
    simp only [Option.some.injEq, Prod.mk.injEq] at H
    obtain ⟨rfl, rfl⟩ := H
    go_enter Try.func28, Try.ntmps28
    go_wp2_with (first | ((with_reducible refine gate_callee (f := 13) rfl ?_); refine goesL_ (some 14) rfl rfl Try.func13 (by kernel_rfl) rfl #[.slice A0 l0.length c0] rfl (by (try simp only [List.map_toArray, List.map_cons, List.map_nil]); first | done | rfl | (simp only [List.length_drop, List.length_take]; rfl)) ?_; (with_reducible refine (mummerref11_Check.calls k _ _ l0 t509 t510 _ ?side1 ?side2 A4.out).mono ?_); (case side1 => repeat (first | exact HR0.out | (with_reducible refine Kd.C_alloc ?_ _) | (with_reducible refine Kd.C_drewN ?_ _) | (with_reducible refine Kd.C_drew ?_))); (case side2 => exact HC0.out); rintro e w13 ⟨rfl, hb⟩; refine ⟨_, rfl, ?_⟩; have n0_ := ak (below_step (by repeat (first | (with_reducible first | exact HB.out | apply wA | apply wN | apply wD) | exact HB.out)) hb); clear HB; have HB := n0_; clear n0_; (try clear hb); (try clear hb2); (try clear hk); (try clear hi)))
    go_ret2
    exact ⟨_, by first | rfl | (simp [errW_none, errW_some] <;> rfl) | (simp [*, errW_none, errW_some] <;> rfl), by first | exact Kd.R_nil _ _ _ _ _ | exact Kd.N_nil _ _ _ _ _ | exact Kd.V_nil _ _ _ _ _ | exact Kd.Q_nil _ _ _ _ _ | exact Kd.S_nil _ _ _ _ _, by repeat (first | (with_reducible first | exact HB.out | apply wA | apply wN | apply wD) | exact HB.out)⟩
end Go.Proofs.Ytpjcahjpjeiicaa.P
namespace Go.Proofs.Ytpjcahjpjeiicaa.P
open Go.RowKit Go.Proofs.YtpjcahjpjeiicaaW.PrintWords Go.Proofs.YtpjcahjpjeiicaaW.PrintLast Go.Proofs.YtpjcahjpjeiicaaW.PrintMore
attribute [local go_sem] max2_int min2_int max_two min_two max_three min_three max_four min_four   -- for this text's walks alone
set_option linter.unusedVariables false
set_option linter.unusedSimpArgs false
def mummerlaw11_BindsSame.f (k : Nat) (l0 : List (S24)) (a1_0 : ByteArray) (a1_1 : ByteArray) (a1_2 : Int) (a1_3 : Int) (a2_0 : ByteArray) (a2_1 : ByteArray) (a2_2 : Int) (a2_3 : Int) : Option (Bool) := (mummerlaw11_far.f k l0 (([a1_0, a1_1, a2_0, a2_1] : List ByteArray))).bind fun t521 => (if t521 = true then ((mummerlaw11_awake.f k).bind fun t522 => (some t522)) else ((binds_Same.f k l0 a1_0 a1_1 a1_2 a1_3 a2_0 a2_1 a2_2 a2_3).bind fun bt523 => ((mummerref11_Same.f k l0 a1_0 a1_1 a1_2 a1_3 a2_0 a2_1 a2_2 a2_3).bind fun bt525 => ((binds_Of.f k l0 a1_2 a1_3).bind fun bt527 => ((mummerref11_Of.f k l0 a1_2 a1_3).bind fun bt531 => (if (bt523.1 == bt525.1) = true then (if bt523.2 = bt525.2 then ((mummerref11_Ints.f k bt527.1 bt531.1).bind fun t535 => (if t535 = true then (if bt527.2 = bt531.2 then ((mummerlaw11_awake.f k).bind fun t536 => (some t536)) else (some false)) else (some false))) else (some false)) else (some false)))))))
set_option maxHeartbeats 8000000 in
set_option maxRecDepth 100000 in
theorem mummerlaw11_BindsSame.calls (k : Nat) (A0 : Option Addr) (c0 : Nat) (l0 : List (S24)) (a1_0 : ByteArray) (a1_1 : ByteArray) (a1_2 : Int) (a1_3 : Int) (a2_0 : ByteArray) (a2_1 : ByteArray) (a2_2 : Int) (a2_3 : Int) (r : Bool) (w : World) (hr0 : Kd.C k24 w A0 l0.length l0) (hc0 : l0.length ≤ c0) (hrt : Aside0 (r = true)) (h : mummerlaw11_BindsSame.f k l0 a1_0 a1_1 a1_2 a1_3 a2_0 a2_1 a2_2 a2_3 = some r) :
    Calls Try.prog 9 #[.slice A0 l0.length c0, .agg #[.string a1_0, .string a1_1, .int .i64 a1_2, .int .i64 a1_3], .agg #[.string a2_0, .string a2_1, .int .i64 a2_2, .int .i64 a2_3]] w fun e w' => e = .returned (.bool r) ∧ Below w.heap.size w w' := by
  have hu24 := Try.underlying24
  have HR0 := ak hr0
  have HC0 := ak hc0
  clear hr0 hc0
  have HB := ak (Below.refl w.heap.size w)
  have H : ((mummerlaw11_far.f k l0 (([a1_0, a1_1, a2_0, a2_1] : List ByteArray))).bind fun t521 => (if t521 = true then ((mummerlaw11_awake.f k).bind fun t522 => (some t522)) else ((binds_Same.f k l0 a1_0 a1_1 a1_2 a1_3 a2_0 a2_1 a2_2 a2_3).bind fun bt523 => ((mummerref11_Same.f k l0 a1_0 a1_1 a1_2 a1_3 a2_0 a2_1 a2_2 a2_3).bind fun bt525 => ((binds_Of.f k l0 a1_2 a1_3).bind fun bt527 => ((mummerref11_Of.f k l0 a1_2 a1_3).bind fun bt531 => (if (bt523.1 == bt525.1) = true then (if bt523.2 = bt525.2 then ((mummerref11_Ints.f k bt527.1 bt531.1).bind fun t535 => (if t535 = true then (if bt527.2 = bt531.2 then ((mummerlaw11_awake.f k).bind fun t536 => (some t536)) else (some false)) else (some false))) else (some false)) else (some false)))))))) = some r := h
  clear h
  obtain ⟨y518, hy518⟩ : ∃ y_ : List ByteArray, y_ = (([a1_0, a1_1, a2_0, a2_1] : List ByteArray)) := ⟨_, rfl⟩
  replace H : ((mummerlaw11_far.f k l0 y518).bind fun t521 => (if t521 = true then ((mummerlaw11_awake.f k).bind fun t522 => (some t522)) else ((binds_Same.f k l0 a1_0 a1_1 a1_2 a1_3 a2_0 a2_1 a2_2 a2_3).bind fun bt523 => ((mummerref11_Same.f k l0 a1_0 a1_1 a1_2 a1_3 a2_0 a2_1 a2_2 a2_3).bind fun bt525 => ((binds_Of.f k l0 a1_2 a1_3).bind fun bt527 => ((mummerref11_Of.f k l0 a1_2 a1_3).bind fun bt531 => (if (bt523.1 == bt525.1) = true then (if bt523.2 = bt525.2 then ((mummerref11_Ints.f k bt527.1 bt531.1).bind fun t535 => (if t535 = true then (if bt527.2 = bt531.2 then ((mummerlaw11_awake.f k).bind fun t536 => (some t536)) else (some false)) else (some false))) else (some false)) else (some false)))))))) = some r := by first | (rw [hy518]; with_reducible exact H) | (have H2_ := (Option.bind_some _ _).symm.trans H; rw [hy518]; with_reducible exact H2_) | (have H2_ := (Option.bind_some _ _).symm.trans H; with_reducible exact H2_) | with_reducible exact H | (rw [hy518]; exact H) | exact H
  have Ny518 := ak hy518
  clear hy518
  replace H := Option.bind_eq_some_iff.mp H
  obtain ⟨t521, A40, H⟩ := H
  replace H : (if t521 = true then ((mummerlaw11_awake.f k).bind fun t522 => (some t522)) else ((binds_Same.f k l0 a1_0 a1_1 a1_2 a1_3 a2_0 a2_1 a2_2 a2_3).bind fun bt523 => ((mummerref11_Same.f k l0 a1_0 a1_1 a1_2 a1_3 a2_0 a2_1 a2_2 a2_3).bind fun bt525 => ((binds_Of.f k l0 a1_2 a1_3).bind fun bt527 => ((mummerref11_Of.f k l0 a1_2 a1_3).bind fun bt531 => (if (bt523.1 == bt525.1) = true then (if bt523.2 = bt525.2 then ((mummerref11_Ints.f k bt527.1 bt531.1).bind fun t535 => (if t535 = true then (if bt527.2 = bt531.2 then ((mummerlaw11_awake.f k).bind fun t536 => (some t536)) else (some false)) else (some false))) else (some false)) else (some false))))))) = some r := H
  have A4 := ak A40
  clear A40
  by_cases c5 : t521 = true
  · subst c5
    have H1 : ((mummerlaw11_awake.f k).bind fun t522 => (some t522)) = some r := by rw [if_pos rfl] at H; exact H
    clear H
    have H := H1
    clear H1
    replace H := Option.bind_eq_some_iff.mp H
    obtain ⟨t522, A60, H⟩ := H
    replace H : (some t522) = some r := H
    have A6 := ak A60
    clear A60
    obtain rfl := Option.some.inj H
    go_enter Try.func9, Try.ntmps9
    go_wp2_with (first | ((with_reducible refine gate_dst (N := 4) rfl ?_); refine box_event ?hg (N := 4) ?hd (cs := #[.string a1_0, .string a1_1, .int .i64 a1_2, .int .i64 a1_3]) (t := 24) ?hr ?_; (case hd => rfl); (case hg => rfl); (case hr => first | (go_simp; done) | (go_simp; rfl)); intro gb516 hg w7 hbox hb; have n0_ := ak (below_step (by repeat (first | (with_reducible first | exact HB.out | apply wA | apply wN | apply wD) | exact HB.out)) hb); have n1_ := ak (hbox); have n2_ := ak ((by rw [hg]; exact (below_size (by repeat (first | (with_reducible first | exact HB.out | apply wA | apply wN | apply wD) | exact HB.out))) : w.heap.size ≤ gb516)); have n3_ := ak ((by rw [hg]; exact (below_size (by repeat (first | (with_reducible first | exact HB.out | apply wA | apply wN | apply wD) | exact HB.out))) : w.heap.size ≤ gb516)); clear HB; have HB := n0_; have BK516 := n1_; have GW516 := n2_; have GE516 := n3_; clear n0_ n1_ n2_ n3_; clear hb hbox hg) | ((with_reducible refine gate_dst (N := 5) rfl ?_); refine box_event ?hg (N := 5) ?hd (cs := #[.string a2_0, .string a2_1, .int .i64 a2_2, .int .i64 a2_3]) (t := 24) ?hr ?_; (case hd => rfl); (case hg => rfl); (case hr => first | (go_simp; done) | (go_simp; rfl)); intro gb517 hg w8 hbox hb; have n0_ := ak (blk_below (g := gb516) (o := .cells #[.string a1_0, .string a1_1, .int .i64 a1_2, .int .i64 a1_3] 24 (0, 0)) (by (with_reducible repeat (first | refine bN ?_ _ | refine bD ?_ | refine bA ?_ _)); exact BK516.out) hb); have n1_ := ak (below_step (by repeat (first | (with_reducible first | exact HB.out | apply wA | apply wN | apply wD | refine below_set ?_ GE516.out) | exact HB.out)) hb); have n2_ := ak (hbox); have n3_ := ak ((by rw [hg]; exact (below_size (by repeat (first | (with_reducible first | exact HB.out | apply wA | apply wN | apply wD | refine below_set ?_ GE516.out) | exact HB.out))) : w.heap.size ≤ gb517)); have n4_ := ak ((by rw [hg]; exact (below_size (by repeat (first | (with_reducible first | exact HB.out | apply wA | apply wN | apply wD | refine below_set ?_ GE516.out) | exact HB.out))) : w.heap.size ≤ gb517)); have n5_ := ak ((by rw [hg]; exact Nat.ne_of_lt (blk_lt (g := gb516) (o := .cells #[.string a1_0, .string a1_1, .int .i64 a1_2, .int .i64 a1_3] 24 (0, 0)) (by (with_reducible repeat (first | refine bN ?_ _ | refine bD ?_ | refine bA ?_ _)); exact BK516.out)) : gb516 ≠ gb517)); have n6_ := ak ((by rw [hg]; exact Nat.ne_of_gt (blk_lt (g := gb516) (o := .cells #[.string a1_0, .string a1_1, .int .i64 a1_2, .int .i64 a1_3] 24 (0, 0)) (by (with_reducible repeat (first | refine bN ?_ _ | refine bD ?_ | refine bA ?_ _)); exact BK516.out)) : gb517 ≠ gb516)); clear BK516; clear HB; have BK516 := n0_; have HB := n1_; have BK517 := n2_; have GW517 := n3_; have GE517 := n4_; have NB516_517 := n5_; have NB517_516 := n6_; clear n0_ n1_ n2_ n3_ n4_ n5_ n6_; clear hb hbox hg; have hnb9 := NB516_517.out; have hnc9 := NB517_516.out; have hcz10_0 : w8.cell? ⟨gb516, 0, none⟩ = some (.string a1_0) := (blk_cell BK516.out 0).trans rfl; have hcz10_1 : w8.cell? ⟨gb516, 1, none⟩ = some (.string a1_1) := (blk_cell BK516.out 1).trans rfl; have hcz10_2 : w8.cell? ⟨gb516, 2, none⟩ = some (.int .i64 a1_2) := (blk_cell BK516.out 2).trans rfl; have hcz10_3 : w8.cell? ⟨gb516, 3, none⟩ = some (.int .i64 a1_3) := (blk_cell BK516.out 3).trans rfl; have hfz10_0 := blk_frozen BK516.out 0; have hfz10_1 := blk_frozen BK516.out 1; have hfz10_2 := blk_frozen BK516.out 2; have hfz10_3 := blk_frozen BK516.out 3; have hcz11_0 : w8.cell? ⟨gb517, 0, none⟩ = some (.string a2_0) := (blk_cell BK517.out 0).trans rfl; have hcz11_1 : w8.cell? ⟨gb517, 1, none⟩ = some (.string a2_1) := (blk_cell BK517.out 1).trans rfl; have hcz11_2 : w8.cell? ⟨gb517, 2, none⟩ = some (.int .i64 a2_2) := (blk_cell BK517.out 2).trans rfl; have hcz11_3 : w8.cell? ⟨gb517, 3, none⟩ = some (.int .i64 a2_3) := (blk_cell BK517.out 3).trans rfl; have hfz11_0 := blk_frozen BK517.out 0; have hfz11_1 := blk_frozen BK517.out 1; have hfz11_2 := blk_frozen BK517.out 2; have hfz11_3 := blk_frozen BK517.out 3) | ((with_reducible refine gate_dst (N := 24) rfl ?_); refine Kd.R_lit Kd.string _ 9 ?hg (N := 24) ?hd (xs := ([a1_0, a1_1, a2_0, a2_1] : List ByteArray)) (inner := [.string a1_0, .string a1_1, .string a2_0, .string a2_1]) (ok := fun _ => True) (okp := fun _ => True) ?hr ?hp (fun _ hk => hk) trivial (Below.refl _ _) (Nat.le_refl _) (by simp) ?_; (case hd => rfl); (case hg => rfl); (case hr => first | (go_simp; done) | (go_simp; rfl)); (case hp => exact (Reps.one (show Kd.M Kd.string _ _ _ a1_0 [.string a1_0] from rfl) (Reps.one (show Kd.M Kd.string _ _ _ a1_1 [.string a1_1] from rfl) (Reps.one (show Kd.M Kd.string _ _ _ a2_0 [.string a2_0] from rfl) (Reps.one (show Kd.M Kd.string _ _ _ a2_1 [.string a2_1] from rfl) (Reps.none _ _)))))); intro v519 w12 ho13 hb hg_ hnew_; clear hg_ hnew_; (first | rw [← Ny518.out] at ho13 | (simp only [Int.reduceToNat] at ho13; rw [← Ny518.out] at ho13)); have n0_ := ak (Kd.R_lower ho13 (below_size (by repeat (first | (with_reducible first | exact HB.out | apply wA | apply wN | apply wD | refine below_set ?_ GE516.out | refine below_set ?_ GE517.out) | exact HB.out)))); have n1_ := ak (blk_below (g := gb516) (o := .cells #[.string a1_0, .string a1_1, .int .i64 a1_2, .int .i64 a1_3] 24 (0, 0)) (by (with_reducible repeat (first | refine bN ?_ _ | refine bD ?_ | refine bA ?_ _)); exact BK516.out) hb); have n2_ := ak (blk_below (g := gb517) (o := .cells #[.string a2_0, .string a2_1, .int .i64 a2_2, .int .i64 a2_3] 24 (0, 0)) (by (with_reducible repeat (first | refine bN ?_ _ | refine bD ?_ | refine bA ?_ _)); exact BK517.out) hb); have n3_ := ak (below_step (by repeat (first | (with_reducible first | exact HB.out | apply wA | apply wN | apply wD | refine below_set ?_ GE516.out | refine below_set ?_ GE517.out) | exact HB.out)) hb); clear BK516; clear BK517; clear HB; have HO520 := n0_; have BK516 := n1_; have BK517 := n2_; have HB := n3_; clear n0_ n1_ n2_ n3_; clear hb ho13; obtain ⟨Ao14, co14, eo14⟩ := Kd.R_slice HO520.out; subst eo14) | ((with_reducible refine gate_callee (f := 10) rfl ?_); refine goesL_ (some 25) rfl rfl Try.func10 (by kernel_rfl) rfl #[.slice A0 l0.length c0, .slice Ao14 y518.length co14] rfl (by (try simp only [List.map_toArray, List.map_cons, List.map_nil]); first | done | rfl | (simp only [List.length_drop, List.length_take]; rfl)) ?_; (with_reducible refine (mummerlaw11_far.calls k _ _ l0 _ _ y518 true _ ?side1 ?side2 ?side3 ?side4 A4.out).mono ?_); (case side1 => repeat (first | exact (Kd.C_below HR0.out HB.out) | (with_reducible refine Kd.C_alloc ?_ _) | (with_reducible refine Kd.C_drewN ?_ _) | (with_reducible refine Kd.C_drew ?_))); (case side2 => exact HC0.out); (case side3 => repeat (first | exact (Kd.R_reads' HO520.out).2.2 | (with_reducible refine Kd.C_alloc ?_ _) | (with_reducible refine Kd.C_drewN ?_ _) | (with_reducible refine Kd.C_drew ?_))); (case side4 => exact (Kd.R_reads' HO520.out).2.1); rintro e w' ⟨rfl, ⟨nd, rfl⟩⟩; refine ⟨_, rfl, ?_⟩) | ((with_reducible refine gate_callee (f := 11) rfl ?_); refine goesL_ (some 26) rfl rfl Try.func11 (by kernel_rfl) rfl #[] rfl (by (try simp only [List.map_toArray, List.map_cons, List.map_nil]); first | done | rfl | (simp only [List.length_drop, List.length_take]; rfl)) ?_; (with_reducible refine (mummerlaw11_awake.calls k  t522 _ hrt A6.out).mono ?_); rintro e w15 ⟨rfl, hb⟩; refine ⟨_, rfl, ?_⟩; have n0_ := ak (Kd.R_below (by (with_reducible repeat (first | apply Kd.R_alloc | apply Kd.R_drewN | apply Kd.R_drew)); exact HO520.out) hb); have n1_ := ak (blk_below (g := gb516) (o := .cells #[.string a1_0, .string a1_1, .int .i64 a1_2, .int .i64 a1_3] 24 (0, 0)) (by (with_reducible repeat (first | refine bN ?_ _ | refine bD ?_ | refine bA ?_ _)); exact BK516.out) hb); have n2_ := ak (blk_below (g := gb517) (o := .cells #[.string a2_0, .string a2_1, .int .i64 a2_2, .int .i64 a2_3] 24 (0, 0)) (by (with_reducible repeat (first | refine bN ?_ _ | refine bD ?_ | refine bA ?_ _)); exact BK517.out) hb); have n3_ := ak (below_step (by repeat (first | (with_reducible first | exact HB.out | apply wA | apply wN | apply wD | refine below_set ?_ GE516.out | refine below_set ?_ GE517.out) | exact HB.out)) hb); clear HO520; clear BK516; clear BK517; clear HB; have HO520 := n0_; have BK516 := n1_; have BK517 := n2_; have HB := n3_; clear n0_ n1_ n2_ n3_; (try clear hb); (try clear hb2); (try clear hk); (try clear hi)))
    go_ret
    exact ⟨by first | rfl | (simp [errW_none, errW_some] <;> rfl) | (simp [*, errW_none, errW_some] <;> rfl), by repeat (first | (with_reducible first | exact HB.out | apply wA | apply wN | apply wD | refine below_set ?_ GE516.out | refine below_set ?_ GE517.out) | exact HB.out)⟩
  · replace c5 := Bool.eq_false_iff.mpr c5
    subst c5
    have H1 : ((binds_Same.f k l0 a1_0 a1_1 a1_2 a1_3 a2_0 a2_1 a2_2 a2_3).bind fun bt523 => ((mummerref11_Same.f k l0 a1_0 a1_1 a1_2 a1_3 a2_0 a2_1 a2_2 a2_3).bind fun bt525 => ((binds_Of.f k l0 a1_2 a1_3).bind fun bt527 => ((mummerref11_Of.f k l0 a1_2 a1_3).bind fun bt531 => (if (bt523.1 == bt525.1) = true then (if bt523.2 = bt525.2 then ((mummerref11_Ints.f k bt527.1 bt531.1).bind fun t535 => (if t535 = true then (if bt527.2 = bt531.2 then ((mummerlaw11_awake.f k).bind fun t536 => (some t536)) else (some false)) else (some false))) else (some false)) else (some false)))))) = some r := by rw [if_neg (show ¬ (false = true) by decide)] at H; exact H
    clear H
    have H := H1
    clear H1
    replace H := Option.bind_eq_some_iff.mp H
    obtain ⟨⟨t523, t524⟩, A160, H⟩ := H
    replace H : ((mummerref11_Same.f k l0 a1_0 a1_1 a1_2 a1_3 a2_0 a2_1 a2_2 a2_3).bind fun bt525 => ((binds_Of.f k l0 a1_2 a1_3).bind fun bt527 => ((mummerref11_Of.f k l0 a1_2 a1_3).bind fun bt531 => (if (t523 == bt525.1) = true then (if t524 = bt525.2 then ((mummerref11_Ints.f k bt527.1 bt531.1).bind fun t535 => (if t535 = true then (if bt527.2 = bt531.2 then ((mummerlaw11_awake.f k).bind fun t536 => (some t536)) else (some false)) else (some false))) else (some false)) else (some false))))) = some r := H
    have A16 := ak A160
    clear A160
    replace H := Option.bind_eq_some_iff.mp H
    obtain ⟨⟨t525, t526⟩, A170, H⟩ := H
    replace H : ((binds_Of.f k l0 a1_2 a1_3).bind fun bt527 => ((mummerref11_Of.f k l0 a1_2 a1_3).bind fun bt531 => (if (t523 == t525) = true then (if t524 = t526 then ((mummerref11_Ints.f k bt527.1 bt531.1).bind fun t535 => (if t535 = true then (if bt527.2 = bt531.2 then ((mummerlaw11_awake.f k).bind fun t536 => (some t536)) else (some false)) else (some false))) else (some false)) else (some false)))) = some r := H
    have A17 := ak A170
    clear A170
    replace H := Option.bind_eq_some_iff.mp H
    obtain ⟨⟨t527, t528⟩, A180, H⟩ := H
    replace H : ((mummerref11_Of.f k l0 a1_2 a1_3).bind fun bt531 => (if (t523 == t525) = true then (if t524 = t526 then ((mummerref11_Ints.f k t527 bt531.1).bind fun t535 => (if t535 = true then (if t528 = bt531.2 then ((mummerlaw11_awake.f k).bind fun t536 => (some t536)) else (some false)) else (some false))) else (some false)) else (some false))) = some r := H
    have A18 := ak A180
    clear A180
    replace H := Option.bind_eq_some_iff.mp H
    obtain ⟨⟨t531, t532⟩, A190, H⟩ := H
    replace H : (if (t523 == t525) = true then (if t524 = t526 then ((mummerref11_Ints.f k t527 t531).bind fun t535 => (if t535 = true then (if t528 = t532 then ((mummerlaw11_awake.f k).bind fun t536 => (some t536)) else (some false)) else (some false))) else (some false)) else (some false)) = some r := H
    have A19 := ak A190
    clear A190
    by_cases c20 : (t523 == t525) = true
    · rw [if_pos c20] at H
      have c20b0 : (t523 == t525) = true := c20
      (try (have c20b1 : decide (t523 = t525) = true := by simpa using c20))
      (try (have c20b2 : (t523 == t525) = true := by simpa using c20))
      clear c20
      by_cases c21 : t524 = t526
      · rw [if_pos c21] at H
        have c21b0 : (t524 == t526) = true := beq_iff_eq.mpr c21
        have c21b1 : (t524 != t526) = false := bne_eq_false_iff_eq.mpr c21
        clear c21
        replace H := Option.bind_eq_some_iff.mp H
        obtain ⟨t535, A220, H⟩ := H
        replace H : (if t535 = true then (if t528 = t532 then ((mummerlaw11_awake.f k).bind fun t536 => (some t536)) else (some false)) else (some false)) = some r := H
        have A22 := ak A220
        clear A220
        by_cases c23 : t535 = true
        · subst c23
          have H1 : (if t528 = t532 then ((mummerlaw11_awake.f k).bind fun t536 => (some t536)) else (some false)) = some r := by rw [if_pos rfl] at H; exact H
          clear H
          have H := H1
          clear H1
          by_cases c24 : t528 = t532
          · rw [if_pos c24] at H
            have c24b0 : (t528 == t532) = true := beq_iff_eq.mpr c24
            have c24b1 : (t528 != t532) = false := bne_eq_false_iff_eq.mpr c24
            clear c24
            replace H := Option.bind_eq_some_iff.mp H
            obtain ⟨t536, A250, H⟩ := H
            replace H : (some t536) = some r := H
            have A25 := ak A250
            clear A250
            obtain rfl := Option.some.inj H
            go_enter Try.func9, Try.ntmps9
            go_wp2_with (first | ((with_reducible refine gate_dst (N := 4) rfl ?_); refine box_event ?hg (N := 4) ?hd (cs := #[.string a1_0, .string a1_1, .int .i64 a1_2, .int .i64 a1_3]) (t := 24) ?hr ?_; (case hd => rfl); (case hg => rfl); (case hr => first | (go_simp; done) | (go_simp; rfl)); intro gb516 hg w26 hbox hb; have n0_ := ak (below_step (by repeat (first | (with_reducible first | exact HB.out | apply wA | apply wN | apply wD) | exact HB.out)) hb); have n1_ := ak (hbox); have n2_ := ak ((by rw [hg]; exact (below_size (by repeat (first | (with_reducible first | exact HB.out | apply wA | apply wN | apply wD) | exact HB.out))) : w.heap.size ≤ gb516)); have n3_ := ak ((by rw [hg]; exact (below_size (by repeat (first | (with_reducible first | exact HB.out | apply wA | apply wN | apply wD) | exact HB.out))) : w.heap.size ≤ gb516)); clear HB; have HB := n0_; have BK516 := n1_; have GW516 := n2_; have GE516 := n3_; clear n0_ n1_ n2_ n3_; clear hb hbox hg) | ((with_reducible refine gate_dst (N := 5) rfl ?_); refine box_event ?hg (N := 5) ?hd (cs := #[.string a2_0, .string a2_1, .int .i64 a2_2, .int .i64 a2_3]) (t := 24) ?hr ?_; (case hd => rfl); (case hg => rfl); (case hr => first | (go_simp; done) | (go_simp; rfl)); intro gb517 hg w27 hbox hb; have n0_ := ak (blk_below (g := gb516) (o := .cells #[.string a1_0, .string a1_1, .int .i64 a1_2, .int .i64 a1_3] 24 (0, 0)) (by (with_reducible repeat (first | refine bN ?_ _ | refine bD ?_ | refine bA ?_ _)); exact BK516.out) hb); have n1_ := ak (below_step (by repeat (first | (with_reducible first | exact HB.out | apply wA | apply wN | apply wD | refine below_set ?_ GE516.out) | exact HB.out)) hb); have n2_ := ak (hbox); have n3_ := ak ((by rw [hg]; exact (below_size (by repeat (first | (with_reducible first | exact HB.out | apply wA | apply wN | apply wD | refine below_set ?_ GE516.out) | exact HB.out))) : w.heap.size ≤ gb517)); have n4_ := ak ((by rw [hg]; exact (below_size (by repeat (first | (with_reducible first | exact HB.out | apply wA | apply wN | apply wD | refine below_set ?_ GE516.out) | exact HB.out))) : w.heap.size ≤ gb517)); have n5_ := ak ((by rw [hg]; exact Nat.ne_of_lt (blk_lt (g := gb516) (o := .cells #[.string a1_0, .string a1_1, .int .i64 a1_2, .int .i64 a1_3] 24 (0, 0)) (by (with_reducible repeat (first | refine bN ?_ _ | refine bD ?_ | refine bA ?_ _)); exact BK516.out)) : gb516 ≠ gb517)); have n6_ := ak ((by rw [hg]; exact Nat.ne_of_gt (blk_lt (g := gb516) (o := .cells #[.string a1_0, .string a1_1, .int .i64 a1_2, .int .i64 a1_3] 24 (0, 0)) (by (with_reducible repeat (first | refine bN ?_ _ | refine bD ?_ | refine bA ?_ _)); exact BK516.out)) : gb517 ≠ gb516)); clear BK516; clear HB; have BK516 := n0_; have HB := n1_; have BK517 := n2_; have GW517 := n3_; have GE517 := n4_; have NB516_517 := n5_; have NB517_516 := n6_; clear n0_ n1_ n2_ n3_ n4_ n5_ n6_; clear hb hbox hg; have hnb28 := NB516_517.out; have hnc28 := NB517_516.out; have hcz29_0 : w27.cell? ⟨gb516, 0, none⟩ = some (.string a1_0) := (blk_cell BK516.out 0).trans rfl; have hcz29_1 : w27.cell? ⟨gb516, 1, none⟩ = some (.string a1_1) := (blk_cell BK516.out 1).trans rfl; have hcz29_2 : w27.cell? ⟨gb516, 2, none⟩ = some (.int .i64 a1_2) := (blk_cell BK516.out 2).trans rfl; have hcz29_3 : w27.cell? ⟨gb516, 3, none⟩ = some (.int .i64 a1_3) := (blk_cell BK516.out 3).trans rfl; have hfz29_0 := blk_frozen BK516.out 0; have hfz29_1 := blk_frozen BK516.out 1; have hfz29_2 := blk_frozen BK516.out 2; have hfz29_3 := blk_frozen BK516.out 3; have hcz30_0 : w27.cell? ⟨gb517, 0, none⟩ = some (.string a2_0) := (blk_cell BK517.out 0).trans rfl; have hcz30_1 : w27.cell? ⟨gb517, 1, none⟩ = some (.string a2_1) := (blk_cell BK517.out 1).trans rfl; have hcz30_2 : w27.cell? ⟨gb517, 2, none⟩ = some (.int .i64 a2_2) := (blk_cell BK517.out 2).trans rfl; have hcz30_3 : w27.cell? ⟨gb517, 3, none⟩ = some (.int .i64 a2_3) := (blk_cell BK517.out 3).trans rfl; have hfz30_0 := blk_frozen BK517.out 0; have hfz30_1 := blk_frozen BK517.out 1; have hfz30_2 := blk_frozen BK517.out 2; have hfz30_3 := blk_frozen BK517.out 3) | ((with_reducible refine gate_dst (N := 24) rfl ?_); refine Kd.R_lit Kd.string _ 9 ?hg (N := 24) ?hd (xs := ([a1_0, a1_1, a2_0, a2_1] : List ByteArray)) (inner := [.string a1_0, .string a1_1, .string a2_0, .string a2_1]) (ok := fun _ => True) (okp := fun _ => True) ?hr ?hp (fun _ hk => hk) trivial (Below.refl _ _) (Nat.le_refl _) (by simp) ?_; (case hd => rfl); (case hg => rfl); (case hr => first | (go_simp; done) | (go_simp; rfl)); (case hp => exact (Reps.one (show Kd.M Kd.string _ _ _ a1_0 [.string a1_0] from rfl) (Reps.one (show Kd.M Kd.string _ _ _ a1_1 [.string a1_1] from rfl) (Reps.one (show Kd.M Kd.string _ _ _ a2_0 [.string a2_0] from rfl) (Reps.one (show Kd.M Kd.string _ _ _ a2_1 [.string a2_1] from rfl) (Reps.none _ _)))))); intro v519 w31 ho32 hb hg_ hnew_; clear hg_ hnew_; (first | rw [← Ny518.out] at ho32 | (simp only [Int.reduceToNat] at ho32; rw [← Ny518.out] at ho32)); have n0_ := ak (Kd.R_lower ho32 (below_size (by repeat (first | (with_reducible first | exact HB.out | apply wA | apply wN | apply wD | refine below_set ?_ GE516.out | refine below_set ?_ GE517.out) | exact HB.out)))); have n1_ := ak (blk_below (g := gb516) (o := .cells #[.string a1_0, .string a1_1, .int .i64 a1_2, .int .i64 a1_3] 24 (0, 0)) (by (with_reducible repeat (first | refine bN ?_ _ | refine bD ?_ | refine bA ?_ _)); exact BK516.out) hb); have n2_ := ak (blk_below (g := gb517) (o := .cells #[.string a2_0, .string a2_1, .int .i64 a2_2, .int .i64 a2_3] 24 (0, 0)) (by (with_reducible repeat (first | refine bN ?_ _ | refine bD ?_ | refine bA ?_ _)); exact BK517.out) hb); have n3_ := ak (below_step (by repeat (first | (with_reducible first | exact HB.out | apply wA | apply wN | apply wD | refine below_set ?_ GE516.out | refine below_set ?_ GE517.out) | exact HB.out)) hb); clear BK516; clear BK517; clear HB; have HO520 := n0_; have BK516 := n1_; have BK517 := n2_; have HB := n3_; clear n0_ n1_ n2_ n3_; clear hb ho32; obtain ⟨Ao33, co33, eo33⟩ := Kd.R_slice HO520.out; subst eo33) | ((with_reducible refine gate_callee (f := 10) rfl ?_); refine goesL_ (some 25) rfl rfl Try.func10 (by kernel_rfl) rfl #[.slice A0 l0.length c0, .slice Ao33 y518.length co33] rfl (by (try simp only [List.map_toArray, List.map_cons, List.map_nil]); first | done | rfl | (simp only [List.length_drop, List.length_take]; rfl)) ?_; (with_reducible refine (mummerlaw11_far.calls k _ _ l0 _ _ y518 false _ ?side1 ?side2 ?side3 ?side4 A4.out).mono ?_); (case side1 => repeat (first | exact (Kd.C_below HR0.out HB.out) | (with_reducible refine Kd.C_alloc ?_ _) | (with_reducible refine Kd.C_drewN ?_ _) | (with_reducible refine Kd.C_drew ?_))); (case side2 => exact HC0.out); (case side3 => repeat (first | exact (Kd.R_reads' HO520.out).2.2 | (with_reducible refine Kd.C_alloc ?_ _) | (with_reducible refine Kd.C_drewN ?_ _) | (with_reducible refine Kd.C_drew ?_))); (case side4 => exact (Kd.R_reads' HO520.out).2.1); rintro e w' ⟨rfl, ⟨nd, rfl⟩⟩; refine ⟨_, rfl, ?_⟩; have hcz34_0 : w31.cell? ⟨gb516, 0, none⟩ = some (.string a1_0) := (blk_cell BK516.out 0).trans rfl; have hcz34_1 : w31.cell? ⟨gb516, 1, none⟩ = some (.string a1_1) := (blk_cell BK516.out 1).trans rfl; have hcz34_2 : w31.cell? ⟨gb516, 2, none⟩ = some (.int .i64 a1_2) := (blk_cell BK516.out 2).trans rfl; have hcz34_3 : w31.cell? ⟨gb516, 3, none⟩ = some (.int .i64 a1_3) := (blk_cell BK516.out 3).trans rfl; have hfz34_0 := blk_frozen BK516.out 0; have hfz34_1 := blk_frozen BK516.out 1; have hfz34_2 := blk_frozen BK516.out 2; have hfz34_3 := blk_frozen BK516.out 3; have hcz35_0 : w31.cell? ⟨gb517, 0, none⟩ = some (.string a2_0) := (blk_cell BK517.out 0).trans rfl; have hcz35_1 : w31.cell? ⟨gb517, 1, none⟩ = some (.string a2_1) := (blk_cell BK517.out 1).trans rfl; have hcz35_2 : w31.cell? ⟨gb517, 2, none⟩ = some (.int .i64 a2_2) := (blk_cell BK517.out 2).trans rfl; have hcz35_3 : w31.cell? ⟨gb517, 3, none⟩ = some (.int .i64 a2_3) := (blk_cell BK517.out 3).trans rfl; have hfz35_0 := blk_frozen BK517.out 0; have hfz35_1 := blk_frozen BK517.out 1; have hfz35_2 := blk_frozen BK517.out 2; have hfz35_3 := blk_frozen BK517.out 3) | ((with_reducible refine gate_callee (f := 25) rfl ?_); refine goesL_ (some 31) rfl rfl Try.func25 (by kernel_rfl) rfl #[.slice A0 l0.length c0, .agg #[.string a1_0, .string a1_1, .int .i64 a1_2, .int .i64 a1_3], .agg #[.string a2_0, .string a2_1, .int .i64 a2_2, .int .i64 a2_3]] rfl (by (try simp only [List.map_toArray, List.map_cons, List.map_nil]); first | done | rfl | (simp only [List.length_drop, List.length_take]; rfl)) ?_; (with_reducible refine (binds_Same.calls k _ _ l0 a1_0 a1_1 a1_2 a1_3 a2_0 a2_1 a2_2 a2_3 t523 t524 _ ?side1 ?side2 A16.out).mono ?_); (case side1 => repeat (first | exact (Kd.C_below HR0.out (by repeat (first | (with_reducible first | exact HB.out | apply wA | apply wN | apply wD | refine below_set ?_ GE516.out | refine below_set ?_ GE517.out) | exact HB.out))) | (with_reducible refine Kd.C_alloc ?_ _) | (with_reducible refine Kd.C_drewN ?_ _) | (with_reducible refine Kd.C_drew ?_))); (case side2 => exact HC0.out); rintro e w36 ⟨rfl, hb⟩; refine ⟨_, rfl, ?_⟩; have n0_ := ak (Kd.R_below (by (with_reducible repeat (first | apply Kd.R_alloc | apply Kd.R_drewN | apply Kd.R_drew)); exact HO520.out) hb); have n1_ := ak (blk_below (g := gb516) (o := .cells #[.string a1_0, .string a1_1, .int .i64 a1_2, .int .i64 a1_3] 24 (0, 0)) (by (with_reducible repeat (first | refine bN ?_ _ | refine bD ?_ | refine bA ?_ _)); exact BK516.out) hb); have n2_ := ak (blk_below (g := gb517) (o := .cells #[.string a2_0, .string a2_1, .int .i64 a2_2, .int .i64 a2_3] 24 (0, 0)) (by (with_reducible repeat (first | refine bN ?_ _ | refine bD ?_ | refine bA ?_ _)); exact BK517.out) hb); have n3_ := ak (below_step (by repeat (first | (with_reducible first | exact HB.out | apply wA | apply wN | apply wD | refine below_set ?_ GE516.out | refine below_set ?_ GE517.out) | exact HB.out)) hb); clear HO520; clear BK516; clear BK517; clear HB; have HO520 := n0_; have BK516 := n1_; have BK517 := n2_; have HB := n3_; clear n0_ n1_ n2_ n3_; (try clear hb); (try clear hb2); (try clear hk); (try clear hi); have hcz37_0 : w36.cell? ⟨gb516, 0, none⟩ = some (.string a1_0) := (blk_cell BK516.out 0).trans rfl; have hcz37_1 : w36.cell? ⟨gb516, 1, none⟩ = some (.string a1_1) := (blk_cell BK516.out 1).trans rfl; have hcz37_2 : w36.cell? ⟨gb516, 2, none⟩ = some (.int .i64 a1_2) := (blk_cell BK516.out 2).trans rfl; have hcz37_3 : w36.cell? ⟨gb516, 3, none⟩ = some (.int .i64 a1_3) := (blk_cell BK516.out 3).trans rfl; have hfz37_0 := blk_frozen BK516.out 0; have hfz37_1 := blk_frozen BK516.out 1; have hfz37_2 := blk_frozen BK516.out 2; have hfz37_3 := blk_frozen BK516.out 3; have hcz38_0 : w36.cell? ⟨gb517, 0, none⟩ = some (.string a2_0) := (blk_cell BK517.out 0).trans rfl; have hcz38_1 : w36.cell? ⟨gb517, 1, none⟩ = some (.string a2_1) := (blk_cell BK517.out 1).trans rfl; have hcz38_2 : w36.cell? ⟨gb517, 2, none⟩ = some (.int .i64 a2_2) := (blk_cell BK517.out 2).trans rfl; have hcz38_3 : w36.cell? ⟨gb517, 3, none⟩ = some (.int .i64 a2_3) := (blk_cell BK517.out 3).trans rfl; have hfz38_0 := blk_frozen BK517.out 0; have hfz38_1 := blk_frozen BK517.out 1; have hfz38_2 := blk_frozen BK517.out 2; have hfz38_3 := blk_frozen BK517.out 3) | ((with_reducible refine gate_callee (f := 26) rfl ?_); refine goesL_ (some 38) rfl rfl Try.func26 (by kernel_rfl) rfl #[.slice A0 l0.length c0, .agg #[.string a1_0, .string a1_1, .int .i64 a1_2, .int .i64 a1_3], .agg #[.string a2_0, .string a2_1, .int .i64 a2_2, .int .i64 a2_3]] rfl (by (try simp only [List.map_toArray, List.map_cons, List.map_nil]); first | done | rfl | (simp only [List.length_drop, List.length_take]; rfl)) ?_; (with_reducible refine (mummerref11_Same.calls k _ _ l0 a1_0 a1_1 a1_2 a1_3 a2_0 a2_1 a2_2 a2_3 t525 t526 _ ?side1 ?side2 A17.out).mono ?_); (case side1 => repeat (first | exact (Kd.C_below HR0.out HB.out) | (with_reducible refine Kd.C_alloc ?_ _) | (with_reducible refine Kd.C_drewN ?_ _) | (with_reducible refine Kd.C_drew ?_))); (case side2 => exact HC0.out); rintro e w39 ⟨rfl, hb⟩; refine ⟨_, rfl, ?_⟩; have n0_ := ak (Kd.R_below (by (with_reducible repeat (first | apply Kd.R_alloc | apply Kd.R_drewN | apply Kd.R_drew)); exact HO520.out) hb); have n1_ := ak (blk_below (g := gb516) (o := .cells #[.string a1_0, .string a1_1, .int .i64 a1_2, .int .i64 a1_3] 24 (0, 0)) (by (with_reducible repeat (first | refine bN ?_ _ | refine bD ?_ | refine bA ?_ _)); exact BK516.out) hb); have n2_ := ak (blk_below (g := gb517) (o := .cells #[.string a2_0, .string a2_1, .int .i64 a2_2, .int .i64 a2_3] 24 (0, 0)) (by (with_reducible repeat (first | refine bN ?_ _ | refine bD ?_ | refine bA ?_ _)); exact BK517.out) hb); have n3_ := ak (below_step (by repeat (first | (with_reducible first | exact HB.out | apply wA | apply wN | apply wD | refine below_set ?_ GE516.out | refine below_set ?_ GE517.out) | exact HB.out)) hb); clear HO520; clear BK516; clear BK517; clear HB; have HO520 := n0_; have BK516 := n1_; have BK517 := n2_; have HB := n3_; clear n0_ n1_ n2_ n3_; (try clear hb); (try clear hb2); (try clear hk); (try clear hi); have hcz40_0 : w39.cell? ⟨gb516, 0, none⟩ = some (.string a1_0) := (blk_cell BK516.out 0).trans rfl; have hcz40_1 : w39.cell? ⟨gb516, 1, none⟩ = some (.string a1_1) := (blk_cell BK516.out 1).trans rfl; have hcz40_2 : w39.cell? ⟨gb516, 2, none⟩ = some (.int .i64 a1_2) := (blk_cell BK516.out 2).trans rfl; have hcz40_3 : w39.cell? ⟨gb516, 3, none⟩ = some (.int .i64 a1_3) := (blk_cell BK516.out 3).trans rfl; have hfz40_0 := blk_frozen BK516.out 0; have hfz40_1 := blk_frozen BK516.out 1; have hfz40_2 := blk_frozen BK516.out 2; have hfz40_3 := blk_frozen BK516.out 3) | ((with_reducible refine gate_callee (f := 27) rfl ?_); refine goesL_ (some 47) rfl rfl Try.func27 (by kernel_rfl) rfl #[.slice A0 l0.length c0, .int .i64 a1_2, .int .i64 a1_3] rfl (by (try simp only [List.map_toArray, List.map_cons, List.map_nil]); first | done | rfl | (simp only [List.length_drop, List.length_take]; rfl)) ?_; (with_reducible refine (binds_Of.calls k _ _ l0 a1_2 a1_3 t527 t528 _ ?side1 ?side2 A18.out).mono ?_); (case side1 => repeat (first | exact (Kd.C_below HR0.out HB.out) | (with_reducible refine Kd.C_alloc ?_ _) | (with_reducible refine Kd.C_drewN ?_ _) | (with_reducible refine Kd.C_drew ?_))); (case side2 => exact HC0.out); rintro e w41 ⟨v529, rfl, ho0, hb⟩; refine ⟨_, rfl, ?_⟩; have n0_ := ak (Kd.R_below (by (with_reducible repeat (first | apply Kd.R_alloc | apply Kd.R_drewN | apply Kd.R_drew)); exact HO520.out) hb); have n1_ := ak (Kd.R_lower ho0 (below_size (by repeat (first | (with_reducible first | exact HB.out | apply wA | apply wN | apply wD | refine below_set ?_ GE516.out | refine below_set ?_ GE517.out) | exact HB.out)))); have n2_ := ak (blk_below (g := gb516) (o := .cells #[.string a1_0, .string a1_1, .int .i64 a1_2, .int .i64 a1_3] 24 (0, 0)) (by (with_reducible repeat (first | refine bN ?_ _ | refine bD ?_ | refine bA ?_ _)); exact BK516.out) hb); have n3_ := ak (blk_below (g := gb517) (o := .cells #[.string a2_0, .string a2_1, .int .i64 a2_2, .int .i64 a2_3] 24 (0, 0)) (by (with_reducible repeat (first | refine bN ?_ _ | refine bD ?_ | refine bA ?_ _)); exact BK517.out) hb); have n4_ := ak (below_step (by repeat (first | (with_reducible first | exact HB.out | apply wA | apply wN | apply wD | refine below_set ?_ GE516.out | refine below_set ?_ GE517.out) | exact HB.out)) hb); clear HO520; clear BK516; clear BK517; clear HB; have HO520 := n0_; have HO530 := n1_; have BK516 := n2_; have BK517 := n3_; have HB := n4_; clear n0_ n1_ n2_ n3_ n4_; (try clear hb); (try clear hb2); (try clear hk); (try clear hi); (try clear ho0); have hcz42_0 : w41.cell? ⟨gb516, 0, none⟩ = some (.string a1_0) := (blk_cell BK516.out 0).trans rfl; have hcz42_1 : w41.cell? ⟨gb516, 1, none⟩ = some (.string a1_1) := (blk_cell BK516.out 1).trans rfl; have hcz42_2 : w41.cell? ⟨gb516, 2, none⟩ = some (.int .i64 a1_2) := (blk_cell BK516.out 2).trans rfl; have hcz42_3 : w41.cell? ⟨gb516, 3, none⟩ = some (.int .i64 a1_3) := (blk_cell BK516.out 3).trans rfl; have hfz42_0 := blk_frozen BK516.out 0; have hfz42_1 := blk_frozen BK516.out 1; have hfz42_2 := blk_frozen BK516.out 2; have hfz42_3 := blk_frozen BK516.out 3) | ((with_reducible refine gate_callee (f := 28) rfl ?_); refine goesL_ (some 56) rfl rfl Try.func28 (by kernel_rfl) rfl #[.slice A0 l0.length c0, .int .i64 a1_2, .int .i64 a1_3] rfl (by (try simp only [List.map_toArray, List.map_cons, List.map_nil]); first | done | rfl | (simp only [List.length_drop, List.length_take]; rfl)) ?_; (with_reducible refine (mummerref11_Of.calls k _ _ l0 a1_2 a1_3 t531 t532 _ ?side1 ?side2 A19.out).mono ?_); (case side1 => repeat (first | exact (Kd.C_below HR0.out HB.out) | (with_reducible refine Kd.C_alloc ?_ _) | (with_reducible refine Kd.C_drewN ?_ _) | (with_reducible refine Kd.C_drew ?_))); (case side2 => exact HC0.out); rintro e w43 ⟨v533, rfl, ho0, hb⟩; refine ⟨_, rfl, ?_⟩; have n0_ := ak (Kd.R_below (by (with_reducible repeat (first | apply Kd.R_alloc | apply Kd.R_drewN | apply Kd.R_drew)); exact HO520.out) hb); have n1_ := ak (Kd.R_elder' (by (with_reducible repeat (first | apply Kd.R_alloc | apply Kd.R_drewN | apply Kd.R_drew)); exact HO530.out) (Kd.R_base ho0) hb); have n2_ := ak (Kd.R_lower (Kd.R_new' ho0 (Kd.R_lt (by (with_reducible repeat (first | apply Kd.R_alloc | apply Kd.R_drewN | apply Kd.R_drew)); exact HO530.out))) (below_size (by repeat (first | (with_reducible first | exact HB.out | apply wA | apply wN | apply wD | refine below_set ?_ GE516.out | refine below_set ?_ GE517.out) | exact HB.out)))); have n3_ := ak (blk_below (g := gb516) (o := .cells #[.string a1_0, .string a1_1, .int .i64 a1_2, .int .i64 a1_3] 24 (0, 0)) (by (with_reducible repeat (first | refine bN ?_ _ | refine bD ?_ | refine bA ?_ _)); exact BK516.out) hb); have n4_ := ak (blk_below (g := gb517) (o := .cells #[.string a2_0, .string a2_1, .int .i64 a2_2, .int .i64 a2_3] 24 (0, 0)) (by (with_reducible repeat (first | refine bN ?_ _ | refine bD ?_ | refine bA ?_ _)); exact BK517.out) hb); have n5_ := ak (below_step (by repeat (first | (with_reducible first | exact HB.out | apply wA | apply wN | apply wD | refine below_set ?_ GE516.out | refine below_set ?_ GE517.out) | exact HB.out)) hb); clear HO520; clear HO530; clear BK516; clear BK517; clear HB; have HO520 := n0_; have HO530 := n1_; have HO534 := n2_; have BK516 := n3_; have BK517 := n4_; have HB := n5_; clear n0_ n1_ n2_ n3_ n4_ n5_; (try clear hb); (try clear hb2); (try clear hk); (try clear hi); (try clear ho0); obtain ⟨Ao44, co44, eo44⟩ := Kd.R_slice HO530.out; subst eo44; obtain ⟨Ao45, co45, eo45⟩ := Kd.R_slice HO534.out; subst eo45) | (go_at_call 21; (with_reducible refine (mummerref11_Ints.calls k _ _ t527 _ _ t531 true _ ?side1 ?side2 ?side3 ?side4 A22.out).mono ?_); (case side1 => repeat (first | exact (Kd.R_reads' HO530.out).2.2 | (with_reducible refine Kd.C_alloc ?_ _) | (with_reducible refine Kd.C_drewN ?_ _) | (with_reducible refine Kd.C_drew ?_))); (case side2 => exact (Kd.R_reads' HO530.out).2.1); (case side3 => repeat (first | exact (Kd.R_reads' HO534.out).2.2 | (with_reducible refine Kd.C_alloc ?_ _) | (with_reducible refine Kd.C_drewN ?_ _) | (with_reducible refine Kd.C_drew ?_))); (case side4 => exact (Kd.R_reads' HO534.out).2.1); rintro e w' ⟨rfl, ⟨nd, rfl⟩⟩) | (go_at_call 11; (with_reducible refine (mummerlaw11_awake.calls k  t536 _ hrt A25.out).mono ?_); rintro e w46 ⟨rfl, hb⟩; have n0_ := ak (Kd.R_below (by (with_reducible repeat (first | apply Kd.R_alloc | apply Kd.R_drewN | apply Kd.R_drew)); exact HO520.out) hb); have n1_ := ak (Kd.R_below (by (with_reducible repeat (first | apply Kd.R_alloc | apply Kd.R_drewN | apply Kd.R_drew)); exact HO530.out) hb); have n2_ := ak (Kd.R_below (by (with_reducible repeat (first | apply Kd.R_alloc | apply Kd.R_drewN | apply Kd.R_drew)); exact HO534.out) hb); have n3_ := ak (blk_below (g := gb516) (o := .cells #[.string a1_0, .string a1_1, .int .i64 a1_2, .int .i64 a1_3] 24 (0, 0)) (by (with_reducible repeat (first | refine bN ?_ _ | refine bD ?_ | refine bA ?_ _)); exact BK516.out) hb); have n4_ := ak (blk_below (g := gb517) (o := .cells #[.string a2_0, .string a2_1, .int .i64 a2_2, .int .i64 a2_3] 24 (0, 0)) (by (with_reducible repeat (first | refine bN ?_ _ | refine bD ?_ | refine bA ?_ _)); exact BK517.out) hb); have n5_ := ak (below_step (by repeat (first | (with_reducible first | exact HB.out | apply wA | apply wN | apply wD | refine below_set ?_ GE516.out | refine below_set ?_ GE517.out) | exact HB.out)) hb); clear HO520; clear HO530; clear HO534; clear BK516; clear BK517; clear HB; have HO520 := n0_; have HO530 := n1_; have HO534 := n2_; have BK516 := n3_; have BK517 := n4_; have HB := n5_; clear n0_ n1_ n2_ n3_ n4_ n5_; (try clear hb); (try clear hb2); (try clear hk); (try clear hi)))
            go_ret
            exact ⟨by first | rfl | (simp [errW_none, errW_some] <;> rfl) | (simp [*, errW_none, errW_some] <;> rfl), by repeat (first | (with_reducible first | exact HB.out | apply wA | apply wN | apply wD | refine below_set ?_ GE516.out | refine below_set ?_ GE517.out) | exact HB.out)⟩
          · rw [if_neg c24] at H
            have c24b0 : (t528 == t532) = false := beq_eq_false_iff_ne.mpr c24
            have c24b1 : (t528 != t532) = true := bne_iff_ne.mpr c24
            exact absurd ((Option.some.inj H).trans hrt.out) (by decide)
        · replace c23 := Bool.eq_false_iff.mpr c23
          subst c23
          have H1 : (some false) = some r := by rw [if_neg (show ¬ (false = true) by decide)] at H; exact H
          clear H
          have H := H1
          clear H1
          exact absurd ((Option.some.inj H).trans hrt.out) (by decide)
      · rw [if_neg c21] at H
        have c21b0 : (t524 == t526) = false := beq_eq_false_iff_ne.mpr c21
        have c21b1 : (t524 != t526) = true := bne_iff_ne.mpr c21
        exact absurd ((Option.some.inj H).trans hrt.out) (by decide)
    · rw [if_neg c20] at H
      have c20b0 : (t523 == t525) = false := by simpa using c20
      (try (have c20b1 : decide (t523 = t525) = false := by simpa using c20))
      (try (have c20b2 : (t523 == t525) = false := by simpa using c20))
      (try (have c20b3 : ¬ (t523 = t525) := by simpa using c20))
      clear c20
      exact absurd ((Option.some.inj H).trans hrt.out) (by decide)
end Go.Proofs.Ytpjcahjpjeiicaa.P
namespace Go.Proofs.Ytpjcahjpjeiicaa.P
open Go.RowKit Go.Proofs.YtpjcahjpjeiicaaW.PrintWords Go.Proofs.YtpjcahjpjeiicaaW.PrintLast Sc
theorem w64 {n : Int} (h : -9223372036854775808 ≤ n) (h' : n ≤ 9223372036854775807) : wrap64 n = n := by unfold wrap64; omega
theorem toList_extract2 (s : ByteArray) (i : Nat) (h : i + 2 ≤ s.size) : (s.extract i (i + 2)).toList = [s[i]'(by omega), s[i + 1]'(by omega)] := by
  rw [ByteArray.toList_eq]
  apply List.ext_getElem
  · simp; omega
  · intro n h1 h2
    have hn : n < 2 := by simpa using h2
    match n, hn with
    | 0, _ => simp; rfl
    | 1, _ => simp; rfl
theorem less2 (a b c d : UInt8) : (Op.bytesLess [a, b] [c, d] = true) ↔ ((a.toNat : Int) * 256 + b.toNat < (c.toNat : Int) * 256 + d.toNat) := by
  have ha := a.toNat_lt; have hb := b.toNat_lt; have hc := c.toNat_lt; have hd := d.toNat_lt
  simp only [Op.bytesLess, Bool.or_false, Bool.and_false, Bool.or_eq_true, Bool.and_eq_true, decide_eq_true_eq, beq_iff_eq, UInt8.lt_iff_toNat_lt, ← UInt8.toNat_inj]
  omega
theorem pairAt_eq (s : ByteArray) (j : Nat) (h : 2 * j + 1 < s.size) : pairAt s j = ((s[2 * j]'(by omega)).toNat : Int) * 256 + (s[2 * j + 1]).toNat := by
  unfold pairAt bt
  rw [dif_pos (by rw [Int.toNat_natCast]; omega), dif_pos (by rw [Int.toNat_natCast]; exact h)]
  rfl
theorem pairAt_nonneg (s : ByteArray) (j : Nat) : 0 ≤ pairAt s j := by
  unfold pairAt
  have h1 := bt_range s ((2 * j : Nat) : Int); have h2 := bt_range s ((2 * j + 1 : Nat) : Int); omega
theorem less_pairs (s : ByteArray) (i j : Nat) (hi : 2 * i + 1 < s.size) (hj : 2 * j + 1 < s.size) :
    (Op.bytesLess (s.extract (2 * i) (2 * i + 2)).toList (s.extract (2 * j) (2 * j + 2)).toList = true) ↔ pairAt s i < pairAt s j := by
  rw [toList_extract2 s (2 * i) (by omega), toList_extract2 s (2 * j) (by omega), less2, pairAt_eq s i hi, pairAt_eq s j hj]
/-- A number below 65536. -/
def InS (l : List Int) : Prop := ∀ x ∈ l, 0 ≤ x ∧ x < 65536
/-- The string of a list of scopes. -/
def bs (x : Int) : List UInt8 := [UInt8.ofNat (x / 256).toNat, UInt8.ofNat (x % 256).toNat]
def ofP (l : List Int) : ByteArray := ⟨(l.flatMap bs).toArray⟩
theorem ofP_toList (l : List Int) : (ofP l).toList = l.flatMap bs := by rw [ByteArray.toList_eq]; rfl
theorem ofP_data (l : List Int) : (ofP l).data.toList = l.flatMap bs := rfl
theorem flat_length (l : List Int) : (l.flatMap bs).length = 2 * l.length := by
  induction l with
  | nil => rfl
  | cons x r ih => rw [List.flatMap_cons, List.length_append, ih]; simp [bs]; omega
theorem ofP_size (l : List Int) : (ofP l).size = 2 * l.length := by
  show (l.flatMap bs).toArray.size = _
  rw [List.size_toArray, flat_length]
theorem ofP_append (l m : List Int) : ofP l ++ ofP m = ofP (l ++ m) := by
  apply ByteArray.ext
  apply Array.ext'
  rw [ByteArray.data_append, Array.toList_append, ofP_data, ofP_data, ofP_data, List.flatMap_append]
theorem flat_drop : ∀ (l : List Int) (i : Nat), (l.flatMap bs).drop (2 * i) = (l.drop i).flatMap bs
  | [], i => by simp
  | x :: r, 0 => by simp
  | x :: r, i + 1 => by rw [List.flatMap_cons, show 2 * (i + 1) = 2 * i + 2 by omega, List.drop_succ_cons]; exact (by rw [← flat_drop r i]; rfl)
theorem flat_take : ∀ (l : List Int) (i : Nat), (l.flatMap bs).take (2 * i) = (l.take i).flatMap bs
  | [], i => by simp
  | x :: r, 0 => by simp
  | x :: r, i + 1 => by
    rw [List.flatMap_cons, show 2 * (i + 1) = 2 * i + 2 by omega, List.take_succ_cons, List.flatMap_cons, ← flat_take r i]; rfl
theorem ofP_extract (l : List Int) (i j : Nat) : (ofP l).extract (2 * i) (2 * j) = ofP ((l.take j).drop i) := by
  apply ByteArray.ext
  apply Array.ext'
  rw [ByteArray.data_extract, Array.toList_extract, ofP_data, ofP_data, List.extract_eq_take_drop, ← flat_drop, ← flat_take, List.drop_take]
theorem ofNat_toNat_ (a : UInt8) : UInt8.ofNat a.toNat = a := by simp
theorem bs_pairAt (s : ByteArray) (q : Nat) (h : 2 * q + 1 < s.size) : bs (pairAt s q) = [s[2 * q]'(by omega), s[2 * q + 1]] := by
  rw [pairAt_eq s q h]
  have h1 := (s[2 * q]'(by omega)).toNat_lt
  have h2 := (s[2 * q + 1]).toNat_lt
  unfold bs
  rw [show (((s[2 * q]'(by omega)).toNat : Int) * 256 + (s[2 * q + 1]).toNat) / 256 = (s[2 * q]'(by omega)).toNat by omega, show (((s[2 * q]'(by omega)).toNat : Int) * 256 + (s[2 * q + 1]).toNat) % 256 = (s[2 * q + 1]).toNat by omega, Int.toNat_natCast, Int.toNat_natCast, ofNat_toNat_, ofNat_toNat_]
theorem pairs_get (s : ByteArray) (n i : Nat) (h : i < (pairs s n).length) : (pairs s n)[i] = pairAt s i := by simp [pairs]
theorem size_even (s : ByteArray) (h : s.size % 2 = 0) : s = ofP (pairs s (s.size / 2)) := by
  have hsz : (ofP (pairs s (s.size / 2))).size = s.size := by rw [ofP_size, pairs_length]; omega
  have key : ∀ q, 2 * q + 1 < s.size → ∀ (h1 : 2 * q < (ofP (pairs s (s.size / 2))).size) (h2 : 2 * q + 1 < (ofP (pairs s (s.size / 2))).size), [(ofP (pairs s (s.size / 2)))[2 * q], (ofP (pairs s (s.size / 2)))[2 * q + 1]] = [s[2 * q]'(by omega), s[2 * q + 1]'(by omega)] := by
    intro q hq h1 h2
    rw [← toList_extract2 (ofP (pairs s (s.size / 2))) (2 * q) (by omega), show 2 * q + 2 = 2 * (q + 1) by omega, ofP_extract, ofP_toList]
    have hl : q < (pairs s (s.size / 2)).length := by rw [pairs_length]; omega
    rw [List.take_succ_eq_append_getElem hl, List.drop_append_of_le_length (by simp; omega), List.drop_eq_nil_of_le (by simp; omega), pairs_get]
    simp only [List.nil_append, List.flatMap_cons, List.flatMap_nil, List.append_nil]
    exact bs_pairAt s q hq
  apply ByteArray.ext
  apply Array.ext
  · exact hsz.symm
  · intro i h1 h2
    have h1' : i < s.size := h1
    rcases Nat.mod_two_eq_zero_or_one i with e | e
    · obtain ⟨q, rfl⟩ : ∃ q, i = 2 * q := ⟨i / 2, by omega⟩
      have := key q (by omega) (by omega) (by omega)
      simp only [List.cons.injEq, and_true] at this
      exact this.1.symm
    · obtain ⟨q, rfl⟩ : ∃ q, i = 2 * q + 1 := ⟨i / 2, by omega⟩
      have := key q (by omega) (by omega) (by omega)
      simp only [List.cons.injEq, and_true] at this
      exact this.2.symm
theorem strOf_bs (x : Int) (hx : 0 ≤ x ∧ x < 65536) : strOfNums [(wrap64 (Int.tdiv x 256)) % 256, (Int.tmod x 256) % 256] = ofP [x] := by
  rw [Int.tdiv_eq_ediv_of_nonneg hx.1, Int.tmod_eq_emod_of_nonneg hx.1, w64 (by omega) (by omega), show x / 256 % 256 = x / 256 by omega, show x % 256 % 256 = x % 256 by omega]
  rfl
def tailFrom (s : ByteArray) (j : Nat) : List Int := (List.range' j (s.size / 2 - j)).map (pairAt s)
theorem tailFrom_step (s : ByteArray) (j : Nat) (h : j < s.size / 2) : tailFrom s j = pairAt s j :: tailFrom s (j + 1) := by
  unfold tailFrom
  obtain ⟨n, hn⟩ : ∃ n, s.size / 2 - j = n + 1 := ⟨s.size / 2 - j - 1, by omega⟩
  rw [hn, List.range'_succ, List.map_cons, show s.size / 2 - (j + 1) = n by omega]
theorem tailFrom_end (s : ByteArray) : tailFrom s (s.size / 2) = [] := by simp [tailFrom]
theorem pairs_tail (s : ByteArray) : pairs s (s.size / 2) = tailFrom s 0 := by simp [pairs, tailFrom, List.range_eq_range']
def chkEnd (s : ByteArray) : Int := if (s.size : Int) > 20000 then 3 else 0
theorem check_l0 (s : ByteArray) (hs : s.size ≤ 4611686018427387904) (he : s.size % 2 = 0) : ∀ (d j k : Nat), 1 ≤ j → j + d = s.size / 2 → d < k →
    mummerref09_Check.l0 k s ((2 * j : Nat) : Int) = some (if asc (pairAt s (j - 1)) (tailFrom s j) = true then chkEnd s else 6) := by
  intro d
  induction d with
  | zero =>
    intro j k h1 hj hk
    obtain ⟨k, rfl⟩ : ∃ m, k = m + 1 := ⟨k - 1, by omega⟩
    have : j = s.size / 2 := by omega
    subst this
    rw [tailFrom_end]
    simp only [mummerref09_Check.l0]
    have ha : asc (pairAt s (s.size / 2 - 1)) [] = true := rfl
    rw [if_neg (by omega), ha]
    simp only [if_true, chkEnd]
    by_cases hx : (s.size : Int) > 20000
    · rw [if_pos hx, if_pos hx]
    · rw [if_neg hx, if_neg hx]
  | succ d ih =>
    intro j k h1 hj hk
    obtain ⟨k, rfl⟩ : ∃ m, k = m + 1 := ⟨k - 1, by omega⟩
    have e1 : wrap64 (((2 * j : Nat) : Int) - 2) = ((2 * (j - 1) : Nat) : Int) := by rw [w64 (by omega) (by omega)]; omega
    have e2 : wrap64 (((2 * j : Nat) : Int) + 2) = ((2 * (j + 1) : Nat) : Int) := by rw [w64 (by omega) (by omega)]; omega
    simp only [mummerref09_Check.l0]
    rw [if_pos (by omega), e1, if_pos (by omega), if_pos (by omega), if_pos (by omega), if_pos (by omega), e2, if_pos (by omega), if_pos (by omega)]
    simp only [Int.toNat_natCast]
    have hl := less_pairs s (j - 1) j (by omega) (by omega)
    rw [show 2 * (j - 1) + 2 = 2 * j by omega] at hl
    rw [show 2 * (j + 1) = 2 * j + 2 by omega]
    rw [tailFrom_step s j (by omega)]
    by_cases hc : pairAt s (j - 1) < pairAt s j
    · rw [if_pos (hl.2 hc)]
      have := ih (j + 1) k (by omega) (by omega) (by omega)
      rw [show 2 * (j + 1) = 2 * j + 2 by omega] at this
      rw [this]
      simp [asc, hc]
    · rw [if_neg (fun h => hc (hl.1 h))]
      simp [asc, hc]
theorem check_f (s : ByteArray) (hs : s.size ≤ 4611686018427387904) (k : Nat) (hk : s.size / 2 < k) : mummerref09_Check.f k s = some (chk s) := by
  unfold mummerref09_Check.f chk
  by_cases he : (s.size : Int) % 2 = 0
  · rw [if_pos he, if_pos he, pairs_tail]
    by_cases h0 : s.size = 0
    · obtain ⟨k, rfl⟩ : ∃ m, k = m + 1 := ⟨k - 1, by omega⟩
      simp only [mummerref09_Check.l0]
      rw [if_neg (by omega)]
      simp [tailFrom, h0, asc]
    · have := check_l0 s hs (by omega) (s.size / 2 - 1) 1 k (by omega) (by omega) (by omega)
      simp only [Nat.mul_one, Nat.sub_self] at this
      rw [show (2 : Int) = ((2 : Nat) : Int) from rfl, this, tailFrom_step s 0 (by omega)]
      have hp := pairAt_nonneg s 0
      have : asc (-1) (pairAt s 0 :: tailFrom s (0 + 1)) = asc (pairAt s 0) (tailFrom s 1) := by simp [asc]; omega
      rw [this]
      rfl
  · rw [if_neg he, if_neg he]
def Asc (l : List Int) : Prop := l.Pairwise (· < ·)
theorem asc_pairwise : ∀ (l : List Int) (a : Int), asc a l = true → (∀ x ∈ l, a < x) ∧ Asc l
  | [], _, _ => ⟨by simp, List.Pairwise.nil⟩
  | x :: r, a, h => by
    obtain ⟨h1, h2⟩ := (asc_cons_eq a x r).1 h
    obtain ⟨h3, h4⟩ := asc_pairwise r x h2
    refine ⟨fun y hy => ?_, List.pairwise_cons.2 ⟨h3, h4⟩⟩
    rcases List.mem_cons.1 hy with rfl | hy
    · exact h1
    · exact Int.lt_trans h1 (h3 y hy)
theorem merge_l0 : ∀ (d k : Nat) (f b s l m : List Int), l.length + m.length = d → d < k → Asc l → Asc m → f.length + l.length < 17592186044416 → b.length + l.length < 17592186044416 → s.length + m.length < 17592186044416 →
    scopes_merge.l0 k f b s l m = some (f ++ l.filter (fun x => decide (x ∉ m)), b ++ l.filter (fun x => decide (x ∈ m)), s ++ m.filter (fun x => decide (x ∉ l)), 0) := by
  intro d
  induction d using Nat.strongRecOn with
  | _ d ih =>
  intro k f b s l m hd hk hl hm h1 h2 h3
  obtain ⟨k, rfl⟩ : ∃ q, k = q + 1 := ⟨k - 1, by omega⟩
  match l, m, hl, hm with
  | [], m, _, _ =>
    simp only [scopes_merge.l0]
    rw [if_pos (by simp), if_pos (by simpa using h3)]
    have : m.filter (fun x => decide (x ∉ ([] : List Int))) = m := List.filter_eq_self.2 (by simp)
    rw [this]
    simp
  | x :: l, [], _, _ =>
    simp only [scopes_merge.l0]
    rw [if_neg (by simp <;> omega), if_pos (by simp), if_pos (by simpa using h1)]
    have e1 : (x :: l).filter (fun z => decide (z ∉ ([] : List Int))) = x :: l := List.filter_eq_self.2 (by simp)
    have e2 : (x :: l).filter (fun z => decide (z ∈ ([] : List Int))) = [] := List.filter_eq_nil_iff.2 (by simp)
    rw [e1, e2]
    simp
  | x :: l, y :: m, hl, hm =>
    obtain ⟨hx, hl'⟩ := List.pairwise_cons.1 hl
    obtain ⟨hy, hm'⟩ := List.pairwise_cons.1 hm
    simp only [List.length_cons] at hd h1 h2 h3
    simp only [scopes_merge.l0]
    have e1 : rd (x :: l) 0 = x := rfl
    have e2 : rd (y :: m) 0 = y := rfl
    have e3 : (x :: l).drop (1 : Int).toNat = l := rfl
    have e4 : (y :: m).drop (1 : Int).toNat = m := rfl
    rw [if_neg (by simp <;> omega), if_neg (by simp <;> omega), if_pos (by simp <;> omega), if_pos (by simp <;> omega), e1, e2, e3, e4]
    by_cases c1 : x < y
    · rw [if_pos c1, if_pos (by omega), if_pos (by simp <;> omega)]
      rw [ih (l.length + (y :: m).length) (by simp <;> omega) k (f ++ [x]) b s l (y :: m) rfl (by simp <;> omega) hl' hm (by simp <;> omega) (by omega) (by simp <;> omega)]
      have hxm : x ∉ y :: m := fun h => by
        rcases List.mem_cons.1 h with rfl | h
        · omega
        · have := hy x h; omega
      have hf : (y :: m).filter (fun z => decide (z ∉ x :: l)) = (y :: m).filter (fun z => decide (z ∉ l)) := List.filter_congr fun z hz => by
        have : z ≠ x := fun e => hxm (e ▸ hz)
        simp [this]
      rw [hf, List.filter_cons_of_pos (p := fun z => decide (z ∉ y :: m)) (decide_eq_true hxm), List.filter_cons_of_neg (p := fun z => decide (z ∈ y :: m)) (fun e => hxm (of_decide_eq_true e))]
      simp
    · rw [if_neg c1]
      by_cases c2 : x > y
      · rw [if_pos c2, if_pos (by omega), if_pos (by simp <;> omega)]
        rw [ih ((x :: l).length + m.length) (by simp <;> omega) k f b (s ++ [y]) (x :: l) m rfl (by simp <;> omega) hl hm' (by simp <;> omega) (by simp <;> omega) (by simp <;> omega)]
        have hyl : y ∉ x :: l := fun h => by
          rcases List.mem_cons.1 h with rfl | h
          · omega
          · have := hx y h; omega
        have hf : ∀ z ∈ x :: l, (z ∈ y :: m ↔ z ∈ m) := fun z hz => by
          have : z ≠ y := fun e => hyl (e ▸ hz)
          simp [this]
        have hf1 : (x :: l).filter (fun z => decide (z ∉ y :: m)) = (x :: l).filter (fun z => decide (z ∉ m)) := List.filter_congr fun z hz => by simp only [hf z hz]
        have hf2 : (x :: l).filter (fun z => decide (z ∈ y :: m)) = (x :: l).filter (fun z => decide (z ∈ m)) := List.filter_congr fun z hz => by simp only [hf z hz]
        rw [hf1, hf2, List.filter_cons_of_pos (p := fun z => decide (z ∉ x :: l)) (decide_eq_true hyl)]
        simp
      · obtain rfl : x = y := by omega
        rw [if_neg c2, if_pos (by omega), if_pos (by simp <;> omega), if_pos (by simp <;> omega)]
        rw [ih (l.length + m.length) (by omega) k f (b ++ [x]) s l m rfl (by omega) hl' hm' (by omega) (by simp <;> omega) (by omega)]
        have hf1 : l.filter (fun z => decide (z ∉ x :: m)) = l.filter (fun z => decide (z ∉ m)) := List.filter_congr fun z hz => by
          have := hx z hz
          have : z ≠ x := by omega
          simp [this]
        have hf2 : l.filter (fun z => decide (z ∈ x :: m)) = l.filter (fun z => decide (z ∈ m)) := List.filter_congr fun z hz => by
          have := hx z hz
          have : z ≠ x := by omega
          simp [this]
        have hf3 : m.filter (fun z => decide (z ∉ x :: l)) = m.filter (fun z => decide (z ∉ l)) := List.filter_congr fun z hz => by
          have := hy z hz
          have : z ≠ x := by omega
          simp [this]
        rw [List.filter_cons_of_neg (p := fun z => decide (z ∉ x :: m)) (by simp), List.filter_cons_of_pos (p := fun z => decide (z ∈ x :: m)) (by simp), List.filter_cons_of_neg (p := fun z => decide (z ∉ x :: l)) (by simp), hf1, hf2, hf3]
        simp
/-- The scopes of a set. -/
def P (s : ByteArray) : List Int := pairs s (s.size / 2)
theorem chk_even {s : ByteArray} (h : chk s = 0) : s.size % 2 = 0 := by
  unfold chk at h
  by_cases c : (s.size : Int) % 2 = 0
  · omega
  · rw [if_neg c] at h; cases h
theorem chk_asc {s : ByteArray} (h : chk s = 0) : Asc (P s) := by
  unfold chk at h
  by_cases c : (s.size : Int) % 2 = 0
  · rw [if_pos c] at h
    by_cases c2 : asc (-1) (pairs s (s.size / 2)) = true
    · exact (asc_pairwise _ _ c2).2
    · rw [if_neg c2] at h; cases h
  · rw [if_neg c] at h; cases h
theorem ofP_P {s : ByteArray} (h : chk s = 0) : s = ofP (P s) := size_even s (chk_even h)
theorem P_length (s : ByteArray) : (P s).length = s.size / 2 := pairs_length s _
def subset (a b : ByteArray) : Bool := (P a).all fun x => (P b).contains x
theorem subset_iff (a b : ByteArray) : (subset a b = true) ↔ ∀ x ∈ P a, x ∈ P b := by simp [subset]
def subSpec (a b : ByteArray) : Bool × Int := if chk a = 0 then (if chk b = 0 then (subset a b, 0) else (false, chk b)) else (false, chk a)
theorem scopesSub_f (a b : ByteArray) (ha : a.size ≤ 1099511627776) (hb : b.size ≤ 1099511627776) (k : Nat) (hk : a.size + b.size < k) : scopes_Sub.f k a b = some (subSpec a b) := by
  unfold scopes_Sub.f scopes_merge.f scopes_Ids.f subSpec
  rw [if_pos (by omega), if_pos (by omega), Option.bind_some]
  unfold Ids_p
  by_cases c1 : chk a = 0
  · rw [if_pos c1, if_pos c1]
    simp only [if_true, Option.bind_some]
    by_cases c2 : chk b = 0
    · rw [if_pos c2, if_pos c2]
      simp only [if_true]
      have hla := P_length a; have hlb := P_length b
      have hm := merge_l0 ((P a).length + (P b).length) k [] [] [] (P a) (P b) rfl (by omega) (chk_asc c1) (chk_asc c2) (by simp; omega) (by simp; omega) (by simp; omega)
      rw [show pairs a (a.size / 2) = P a from rfl, show pairs b (b.size / 2) = P b from rfl, hm, Option.bind_some]
      simp only [List.nil_append, if_true]
      have hs : ((((P a).filter (fun x => decide (x ∉ P b))).length : Int) == 0) = subset a b := by
        rw [Bool.eq_iff_iff, beq_iff_eq, subset_iff]
        constructor
        · intro h x hx
          have h0 : (P a).filter (fun x => decide (x ∉ P b)) = [] := List.length_eq_zero_iff.1 (by omega)
          have := List.filter_eq_nil_iff.1 h0 x hx
          simpa using this
        · intro h
          have h0 : (P a).filter (fun x => decide (x ∉ P b)) = [] := List.filter_eq_nil_iff.2 fun x hx => by simpa using h x hx
          rw [h0]; rfl
      rw [hs]
    · rw [if_neg c2, if_neg c2]
      simp [c2]
  · rw [if_neg c1, if_neg c1]
    simp [c1]
/-- The error of a binding by itself. -/
def bindErr (b : S24) : Int := if b.f0.toList = [] then 6 else if (b.f0.size : Int) > 24 then 3 else if chk b.f1 = 0 then (if b.f2 < 1 then 7 else if b.f2 > 4 then 7 else if b.f3 < 0 then 7 else 0) else chk b.f1
def sameKey (x b : S24) : Bool := decide (x.f0.toList = b.f0.toList) && decide (x.f1.toList = b.f1.toList)
def oneErr (l : List S24) (i : Nat) (b : S24) : Int := if bindErr b = 0 then (if (l.take i).any (sameKey · b) = true then 8 else 0) else bindErr b
theorem bindcheck_f (b : S24) (h : b.f1.size ≤ 1099511627776) : binds_check.f b.f0 b.f1 b.f2 b.f3 = some (bindErr b) := by
  unfold binds_check.f bindErr scopes_Check.f
  rw [if_pos (show b.f1.size ≤ 9223372036854775807 by omega)]
  simp only [Option.bind_some]
  repeat' split
  all_goals first | rfl | simp_all
theorem rdT (l : List S24) (i : Nat) (h : i < l.length) : rd_T24 l (i : Int) = l[i] := by simp [rd_T24, h]
def tgo (l : List S24) : List S24 → Nat → Int × Int
  | [], _ => (0, 0)
  | b :: r, i => if oneErr l i b = 0 then tgo l r (i + 1) else ((i : Int), oneErr l i b)
/-- What is wrong with a table. -/
def tab (l : List S24) : Int × Int := if (l.length : Int) > 1000 then (-1, 3) else tgo l l 0
/-- A table whose strings are no longer than B. -/
def TB (B : Nat) (l : List S24) : Prop := ∀ b ∈ l, b.f0.size ≤ B ∧ b.f1.size ≤ B
theorem hasKey_any (seen : List (ByteArray × ByteArray)) (l : List S24) (h : ∀ x, x ∈ seen ↔ x ∈ l.map (fun b => (b.f0, b.f1))) (b : S24) : hasKey seen b.f0 b.f1 = l.any (sameKey · b) := by
  rw [Bool.eq_iff_iff]
  unfold hasKey sameKey
  rw [List.any_eq_true, List.any_eq_true]
  constructor
  · rintro ⟨x, hx, hs⟩
    obtain ⟨c, hc, rfl⟩ := List.mem_map.1 ((h x).1 hx)
    exact ⟨c, hc, hs⟩
  · rintro ⟨c, hc, hs⟩
    exact ⟨_, (h _).2 (List.mem_map.2 ⟨c, hc, rfl⟩), hs⟩
theorem check_go (l : List S24) (hl : TB 1099511627776 l) : ∀ (d i : Nat) (seen : List (ByteArray × ByteArray)), i + d = l.length → (∀ x, x ∈ seen ↔ x ∈ (l.take i).map (fun b => (b.f0, b.f1))) →
    binds_Check.go (l.drop i) (i : Int) seen = some (tgo l (l.drop i) i) := by
  intro d
  induction d with
  | zero =>
    intro i seen hi hs
    rw [List.drop_eq_nil_of_le (by omega)]; rfl
  | succ d ih =>
    intro i seen hi hs
    have hil : i < l.length := by omega
    have hsz := hl _ (List.getElem_mem hil)
    rw [List.drop_eq_getElem_cons hil]
    unfold binds_Check.go
    rw [if_pos ⟨by unfold maxLen; omega, by unfold maxLen; omega⟩, bindcheck_f _ hsz.2, Option.bind_some, tgo, hasKey_any seen (l.take i) hs]
    unfold oneErr
    by_cases c : bindErr l[i] = 0
    · rw [if_pos c, if_pos c]
      by_cases c2 : (l.take i).any (sameKey · l[i]) = true
      · rw [if_pos c2, if_pos c2]; rfl
      · rw [if_neg c2, if_neg c2, if_pos rfl]
        refine ih (i + 1) _ (by omega) ?_
        intro x
        rw [List.take_succ_eq_append_getElem hil, List.map_append, List.mem_append, ← hs x, List.mem_cons, or_comm]
        simp
    · rw [if_neg c, if_neg c, if_neg c]
theorem bindsCheck_f (l : List S24) (hl : TB 1099511627776 l) : binds_Check.f l = some (tab l) := by
  unfold binds_Check.f tab
  by_cases c : (l.length : Int) > 1000
  · rw [if_pos c, if_pos c]
  · rw [if_neg c, if_neg c]
    exact check_go l hl l.length 0 [] (by omega) (by simp)
def cnd (l : List S24) (name set : ByteArray) (i : Nat) : Bool := decide ((l.getD i z24).f0.toList = name.toList) && (subSpec (l.getD i z24).f1 set).1
def cands (l : List S24) (name set : ByteArray) (n : Nat) : List Int := ((List.range n).filter (cnd l name set)).map fun (i : Nat) => (i : Int)
theorem cands_succ (l : List S24) (name set : ByteArray) (n : Nat) : cands l name set (n + 1) = cands l name set n ++ (if cnd l name set n = true then [(n : Int)] else []) := by
  unfold cands
  rw [List.range_succ, List.filter_append, List.map_append]
  by_cases c : cnd l name set n = true <;> simp [c]
theorem cands_length (l : List S24) (name set : ByteArray) (n : Nat) : (cands l name set n).length ≤ n := by
  unfold cands
  rw [List.length_map]
  exact Nat.le_trans (List.length_filter_le _ _) (by simp)
theorem cnd_at (l : List S24) (name set : ByteArray) (i : Nat) (h : i < l.length) : cnd l name set i = (decide (l[i].f0.toList = name.toList) && (subSpec l[i].f1 set).1) := by
  unfold cnd
  simp [h]
def candSpec (l : List S24) (name set : ByteArray) : List Int × Int := if (tab l).2 = 0 then (if chk set = 0 then (cands l name set l.length, 0) else ([], chk set)) else ([], (tab l).2)
theorem bCand_l0 (B : Nat) (hB : B ≤ 1099511627776) (l : List S24) (hl : TB B l) (hb : l.length ≤ 1099511627776) (name set : ByteArray) (hs : set.size ≤ B) : ∀ (d j k : Nat), j + d = l.length → d + 2 * B + 1 < k →
    binds_Candidates.l0 k name set (cands l name set j) l (l.length : Int) (j : Int) = some (cands l name set l.length, 0) := by
  intro d
  induction d with
  | zero =>
    intro j k hj hk
    obtain ⟨k, rfl⟩ : ∃ m, k = m + 1 := ⟨k - 1, by omega⟩
    simp only [binds_Candidates.l0]
    rw [if_neg (by omega), show j = l.length by omega]
  | succ d ih =>
    intro j k hj hk
    obtain ⟨k, rfl⟩ : ∃ m, k = m + 1 := ⟨k - 1, by omega⟩
    have hjl : j < l.length := by omega
    have hsz := hl _ (List.getElem_mem hjl)
    have e2 : wrap64 ((j : Int) + 1) = ((j + 1 : Nat) : Int) := by rw [w64 (by omega) (by omega)]; omega
    simp only [binds_Candidates.l0, rdT l j hjl, e2]
    rw [if_pos (by omega), if_pos (by omega), if_pos (by omega), scopesSub_f _ _ (by omega) (by omega) k (by omega), Option.bind_some]
    have hn := ih (j + 1) k (by omega) (by omega)
    rw [cands_succ, cnd_at l name set j hjl] at hn
    have hlen := cands_length l name set j
    by_cases c1 : l[j].f0.toList = name.toList
    · rw [if_pos c1]
      by_cases c2 : (subSpec l[j].f1 set).1 = true
      · rw [if_pos c2, if_pos (by omega)]
        simpa [c1, c2] using hn
      · rw [if_neg c2]
        simpa [c1, c2] using hn
    · rw [if_neg c1]
      simpa [c1] using hn
theorem bCand_f (B : Nat) (hB : B ≤ 1099511627776) (l : List S24) (hl : TB B l) (hb : l.length ≤ 1099511627776) (name set : ByteArray) (hs : set.size ≤ B) (k : Nat) (hk : l.length + 2 * B + 1 < k) :
    binds_Candidates.f k l name set = some (candSpec l name set) := by
  unfold binds_Candidates.f candSpec scopes_Check.f
  rw [bindsCheck_f l (fun b hb => ⟨by have := (hl b hb).1; omega, by have := (hl b hb).2; omega⟩), Option.bind_some]
  by_cases c1 : (tab l).2 = 0
  · rw [if_pos c1, if_pos c1, if_pos (by omega), Option.bind_some]
    by_cases c2 : chk set = 0
    · rw [if_pos c2, if_pos c2]
      exact bCand_l0 B hB l hl hb name set hs l.length 0 k (by omega) (by omega)
    · rw [if_neg c2, if_neg c2]
  · rw [if_neg c1, if_neg c1]
def askSpec (l : List S24) (set : ByteArray) : Int := if (tab l).2 = 0 then chk set else (tab l).2
theorem wnext (i : Nat) (h : i ≤ 1099511627776) : wrap64 ((i : Int) + 1) = ((i + 1 : Nat) : Int) := by rw [w64 (by omega) (by omega)]; omega
def subT (l : List S24) (x y : Int) : Bool := (subSpec (rd_T24 l x).f1 (rd_T24 l y).f1).1
def top (l : List S24) (C : List Int) (y : Int) : Bool := C.all fun x => subT l x y
def findTop (l : List S24) (C : List Int) : List Int → Int × Int
  | [] => if (C.length : Int) > 0 then (0, 11) else (0, 10)
  | y :: r => if top l C y = true then (y, 0) else findTop l C r
def InT (l : List S24) (C : List Int) : Prop := ∀ x ∈ C, 0 ≤ x ∧ x < (l.length : Int)
theorem TB_rd {B : Nat} {l : List S24} (hl : TB B l) {x : Int} (h : 0 ≤ x ∧ x < (l.length : Int)) : (rd_T24 l x).f1.size ≤ B := by
  obtain ⟨n, rfl⟩ : ∃ n : Nat, x = n := ⟨x.toNat, by omega⟩
  rw [rdT l n (by omega)]
  exact (hl _ (List.getElem_mem _)).2
theorem cands_InT (l : List S24) (name set : ByteArray) : InT l (cands l name set l.length) := by
  intro x hx
  obtain ⟨i, hi, rfl⟩ := List.mem_map.1 hx
  have := List.mem_range.1 (List.mem_filter.1 hi).1
  omega
def resSpec (l : List S24) (name set : ByteArray) : Int × Int := if askSpec l set = 0 then findTop l (cands l name set l.length) (cands l name set l.length) else (0, askSpec l set)
theorem above_f (B : Nat) (hB : B ≤ 1099511627776) (l : List S24) (hl : TB B l) (k : Nat) (hk : 2 * B < k) (a b : Int) (ha : 0 ≤ a ∧ a < (l.length : Int)) (hb : 0 ≤ b ∧ b < (l.length : Int)) : Rs.above k l a b = some (subT l b a) := by
  unfold Rs.above
  have s1 := TB_rd hl ha; have s2 := TB_rd hl hb
  rw [if_pos ⟨ha.1, ha.2, hb.1, hb.2⟩, scopesSub_f _ _ (by omega) (by omega) k (by omega)]
  rfl
def g1s (l : List S24) : List Int → Int → Bool → Int × Bool
  | [], f, s => (f, s)
  | x :: r, f, s => if s = true then (if subT l f x = true then g1s l r x true else g1s l r f true) else g1s l r x true
theorem g1_f (B : Nat) (hB : B ≤ 1099511627776) (l : List S24) (hl : TB B l) (k : Nat) (hk : 2 * B < k) : ∀ (C : List Int) (f : Int) (s : Bool), InT l C → (s = true → 0 ≤ f ∧ f < (l.length : Int)) → Rs.g1 k l C f s = some (g1s l C f s)
  | [], _, _, _, _ => rfl
  | x :: r, f, s, hC, hf => by
    have hx := hC x (by simp)
    have hr : InT l r := fun y hy => hC y (by simp [hy])
    unfold Rs.g1 g1s
    cases s with
    | true =>
      rw [if_pos rfl, if_pos rfl, above_f B hB l hl k hk x f hx (hf rfl), Option.bind_some]
      by_cases c : subT l f x = true
      · rw [if_pos c, if_pos c]; exact g1_f B hB l hl k hk r x true hr (fun _ => hx)
      · rw [if_neg c, if_neg c]; exact g1_f B hB l hl k hk r f true hr hf
    | false =>
      rw [if_neg (by decide), if_neg (by decide)]
      exact g1_f B hB l hl k hk r x true hr (fun _ => hx)
theorem g2_f (B : Nat) (hB : B ≤ 1099511627776) (l : List S24) (hl : TB B l) (k : Nat) (hk : 2 * B < k) : ∀ (C : List Int) (f : Int) (s : Bool), InT l C → (s = true → 0 ≤ f ∧ f < (l.length : Int)) → Rs.g2 k l C f s = some (s && C.all fun x => subT l x f)
  | [], _, s, _, _ => by simp [Rs.g2]
  | x :: r, f, s, hC, hf => by
    have hx := hC x (by simp)
    have hr : InT l r := fun y hy => hC y (by simp [hy])
    unfold Rs.g2
    cases s with
    | true =>
      rw [if_pos rfl, above_f B hB l hl k hk f x (hf rfl) hx, Option.bind_some, g2_f B hB l hl k hk r f _ hr (fun _ => hf rfl)]
      simp
    | false =>
      rw [if_neg (by decide), g2_f B hB l hl k hk r f false hr (fun h => by cases h)]
      simp
theorem subSpec_iff {a b : ByteArray} : ((subSpec a b).1 = true) ↔ chk a = 0 ∧ chk b = 0 ∧ ∀ x ∈ P a, x ∈ P b := by
  unfold subSpec
  by_cases c1 : chk a = 0
  · by_cases c2 : chk b = 0
    · rw [if_pos c1, if_pos c2]; simp [c1, c2, subset_iff]
    · rw [if_pos c1, if_neg c2]; simp [c2]
  · rw [if_neg c1]; simp [c1]
theorem asc_eq : ∀ (l m : List Int), Asc l → Asc m → (∀ x, x ∈ l ↔ x ∈ m) → l = m
  | [], [], _, _, _ => rfl
  | [], y :: m, _, _, h => by simpa using (h y).2 (by simp)
  | x :: l, [], _, _, h => by simpa using (h x).1 (by simp)
  | x :: l, y :: m, hl, hm, h => by
    obtain ⟨hx, hl'⟩ := List.pairwise_cons.1 hl
    obtain ⟨hy, hm'⟩ := List.pairwise_cons.1 hm
    have e : x = y := by
      rcases List.mem_cons.1 ((h x).1 (by simp)) with e | h1
      · exact e
      · rcases List.mem_cons.1 ((h y).2 (by simp)) with e | h2
        · exact e.symm
        · have := hy x h1; have := hx y h2; omega
    subst e
    rw [asc_eq l m hl' hm' fun z => ?_]
    have := h z
    constructor
    · intro hz
      have hne := hx z hz
      rcases List.mem_cons.1 (this.1 (by simp [hz])) with e | h1
      · omega
      · exact h1
    · intro hz
      have hne := hy z hz
      rcases List.mem_cons.1 (this.2 (by simp [hz])) with e | h1
      · omega
      · exact h1
theorem sub_antisymm {a b : ByteArray} (h1 : (subSpec a b).1 = true) (h2 : (subSpec b a).1 = true) : a = b := by
  obtain ⟨ca, cb, hab⟩ := subSpec_iff.1 h1
  obtain ⟨_, _, hba⟩ := subSpec_iff.1 h2
  rw [ofP_P ca, ofP_P cb, asc_eq (P a) (P b) (chk_asc ca) (chk_asc cb) fun x => ⟨hab x, hba x⟩]
theorem tgo_ok (l : List S24) : ∀ (d i : Nat), i + d = l.length → (tgo l (l.drop i) i).2 = 0 → ∀ (j : Nat) (h : j < l.length), i ≤ j → oneErr l j l[j] = 0
  | 0, i, hi, _, j, h, hij => by omega
  | d + 1, i, hi, ht, j, h, hij => by
    have hil : i < l.length := by omega
    rw [List.drop_eq_getElem_cons hil, tgo] at ht
    by_cases c : oneErr l i l[i] = 0
    · rw [if_pos c] at ht
      by_cases e : j = i
      · subst e; exact c
      · exact tgo_ok l d (i + 1) (by omega) ht j h (by omega)
    · rw [if_neg c] at ht; exact absurd ht c
theorem tab_ok (l : List S24) (h : (tab l).2 = 0) (j : Nat) (hj : j < l.length) : oneErr l j l[j] = 0 := by
  unfold tab at h
  by_cases c : (l.length : Int) > 1000
  · rw [if_pos c] at h; cases h
  · rw [if_neg c] at h; exact tgo_ok l l.length 0 (by omega) h j hj (by omega)
theorem one_key (l : List S24) (h : (tab l).2 = 0) (i j : Nat) (hij : i < j) (hj : j < l.length) : sameKey (l[i]'(by omega)) l[j] = false := by
  have h1 := tab_ok l h j hj
  unfold oneErr at h1
  by_cases c : bindErr l[j] = 0
  · rw [if_pos c] at h1
    by_cases c2 : (l.take j).any (sameKey · l[j]) = true
    · rw [if_pos c2] at h1; cases h1
    · cases hs : sameKey (l[i]'(by omega)) l[j] with
      | false => rfl
      | true =>
        refine absurd (List.any_eq_true.2 ⟨l[i]'(by omega), ?_, hs⟩) c2
        exact List.mem_take_iff_getElem.2 ⟨i, by omega, rfl⟩
  · rw [if_neg c] at h1; exact absurd h1 c
theorem g1s_stay (l : List S24) (y : Int) : ∀ (r : List Int), (∀ x ∈ r, subT l y x = true → x = y) → g1s l r y true = (y, true)
  | [], _ => rfl
  | x :: r, h => by
    unfold g1s
    rw [if_pos rfl]
    by_cases c : subT l y x = true
    · rw [if_pos c, h x (by simp) c]; exact g1s_stay l y r fun z hz => h z (by simp [hz])
    · rw [if_neg c]; exact g1s_stay l y r fun z hz => h z (by simp [hz])
theorem g1s_top (l : List S24) (y : Int) : ∀ (r : List Int) (f : Int) (s : Bool), (∀ x ∈ r, subT l y x = true → x = y) → (∀ x ∈ r, subT l x y = true) → (s = true → subT l f y = true) → y ∈ r → g1s l r f s = (y, true)
  | x :: r, f, s, h, ht, hf, hy => by
    unfold g1s
    have h' : ∀ z ∈ r, subT l y z = true → z = y := fun z hz => h z (by simp [hz])
    have ht' : ∀ z ∈ r, subT l z y = true := fun z hz => ht z (by simp [hz])
    by_cases e : x = y
    · subst e
      cases s with
      | true => rw [if_pos rfl, if_pos (hf rfl)]; exact g1s_stay l x r h'
      | false => rw [if_neg (by decide)]; exact g1s_stay l x r h'
    · have hyr : y ∈ r := by
        rcases List.mem_cons.1 hy with e' | h1
        · exact absurd e'.symm e
        · exact h1
      cases s with
      | true =>
        rw [if_pos rfl]
        by_cases c : subT l f x = true
        · rw [if_pos c]; exact g1s_top l y r x true h' ht' (fun _ => ht x (by simp)) hyr
        · rw [if_neg c]; exact g1s_top l y r f true h' ht' hf hyr
      | false => rw [if_neg (by decide)]; exact g1s_top l y r x true h' ht' (fun _ => ht x (by simp)) hyr
theorem findTop_first (l : List S24) (C : List Int) (y : Int) (hu : ∀ x ∈ C, top l C x = true → x = y) : ∀ (r : List Int), (∀ x ∈ r, x ∈ C) → y ∈ r → top l C y = true → findTop l C r = (y, 0)
  | x :: r, hr, hy, ht => by
    unfold findTop
    by_cases c : top l C x = true
    · rw [if_pos c, hu x (hr x (by simp)) c]
    · rw [if_neg c]
      have hyr : y ∈ r := by
        rcases List.mem_cons.1 hy with e | h
        · exact absurd (e ▸ ht) c
        · exact h
      exact findTop_first l C y hu r (fun z hz => hr z (by simp [hz])) hyr ht
theorem findTop_none (l : List S24) (C : List Int) (hC : C ≠ []) : ∀ (r : List Int), (∀ x ∈ r, ¬ top l C x = true) → findTop l C r = (0, 11)
  | [], _ => by
    unfold findTop
    have : 0 < C.length := List.length_pos_iff.2 hC
    rw [if_pos (by omega)]
  | x :: r, h => by
    unfold findTop
    rw [if_neg (h x (by simp))]
    exact findTop_none l C hC r fun z hz => h z (by simp [hz])
/-- What greatest tells is what the reference finds. -/
theorem greatest_eq (l : List S24) (C : List Int) (hne : C ≠ []) (ha : ∀ x ∈ C, ∀ y ∈ C, subT l x y = true → subT l y x = true → x = y) (hf : ∀ (f : Int), (g1s l C 0 false).1 = f → top l C f = true → f ∈ C) :
    (if ((g1s l C 0 false).2 && top l C (g1s l C 0 false).1) = true then ((g1s l C 0 false).1, (0 : Int)) else ((0 : Int), (11 : Int))) = findTop l C C := by
  by_cases h : ∃ y ∈ C, top l C y = true
  · obtain ⟨y, hy, ht⟩ := h
    have hts : ∀ x ∈ C, subT l x y = true := fun x hx => List.all_eq_true.1 ht x hx
    rw [g1s_top l y C 0 false (fun x hx hs => ha x hx y hy (hts x hx) hs) hts (fun e => by cases e) hy]
    rw [findTop_first l C y (fun x hx hx' => ha x hx y hy (hts x hx) (List.all_eq_true.1 hx' y hy)) C (fun _ h => h) hy ht]
    simp [ht]
  · rw [findTop_none l C hne C (fun x hx hx' => h ⟨x, hx, hx'⟩)]
    rw [if_neg]
    intro hh
    rw [Bool.and_eq_true] at hh
    exact h ⟨_, hf _ rfl hh.2, hh.2⟩
theorem g1s_mem (l : List S24) (D : List Int) : ∀ (C : List Int) (f : Int), f ∈ D → (∀ x ∈ C, x ∈ D) → (g1s l C f true).1 ∈ D
  | [], f, hf, _ => hf
  | x :: r, f, hf, h => by
    unfold g1s
    rw [if_pos rfl]
    by_cases c : subT l f x = true
    · rw [if_pos c]; exact g1s_mem l D r x (h x (by simp)) fun z hz => h z (by simp [hz])
    · rw [if_neg c]; exact g1s_mem l D r f hf fun z hz => h z (by simp [hz])
theorem g1s_mem0 (l : List S24) (C : List Int) (hC : C ≠ []) (f : Int) : (g1s l C f false).1 ∈ C := by
  match C, hC with
  | x :: r, _ =>
    unfold g1s
    rw [if_neg (by decide)]
    exact g1s_mem l (x :: r) r x (by simp) fun z hz => by simp [hz]
theorem cands_mem {l : List S24} {name set : ByteArray} {x : Int} (h : x ∈ cands l name set l.length) : ∃ i : Nat, i < l.length ∧ x = (i : Int) ∧ cnd l name set i = true := by
  obtain ⟨i, hi, rfl⟩ := List.mem_map.1 h
  obtain ⟨h1, h2⟩ := List.mem_filter.1 hi
  exact ⟨i, List.mem_range.1 h1, rfl, h2⟩
theorem cands_anti (l : List S24) (name set : ByteArray) (ht : (tab l).2 = 0) : ∀ x ∈ cands l name set l.length, ∀ y ∈ cands l name set l.length, subT l x y = true → subT l y x = true → x = y := by
  intro x hx y hy h1 h2
  obtain ⟨i, hi, rfl, ci⟩ := cands_mem hx
  obtain ⟨j, hj, rfl, cj⟩ := cands_mem hy
  unfold subT at h1 h2
  rw [rdT l i hi, rdT l j hj] at h1 h2
  have e := sub_antisymm h1 h2
  rw [cnd_at l name set i hi, Bool.and_eq_true, decide_eq_true_eq] at ci
  rw [cnd_at l name set j hj, Bool.and_eq_true, decide_eq_true_eq] at cj
  rcases Nat.lt_trichotomy i j with h | h | h
  · have := one_key l ht i j h hj
    unfold sameKey at this
    rw [ci.1, cj.1, e] at this
    simp at this
  · rw [h]
  · have := one_key l ht j i h hi
    unfold sameKey at this
    rw [ci.1, cj.1, e] at this
    simp at this
theorem bResolve_f (B : Nat) (hB : B ≤ 1099511627776) (l : List S24) (hl : TB B l) (hb : l.length ≤ 2000) (name set : ByteArray) (hs : set.size ≤ B) (k : Nat) (hk : 5000000 + 2 * B < k) :
    binds_Resolve.f k l name set = some (resSpec l name set) := by
  unfold binds_Resolve.f resSpec
  rw [bCand_f B hB l hl (by omega) name set hs k (by omega), Option.bind_some]
  unfold candSpec askSpec
  by_cases c1 : (tab l).2 = 0
  · rw [if_pos c1, if_pos c1]
    by_cases c2 : chk set = 0
    · rw [if_pos c2, if_pos c2]
      dsimp only
      rw [if_pos rfl]
      have hlen := cands_length l name set l.length
      by_cases c3 : cands l name set l.length = []
      · rw [c3]; simp [findTop]
      · have hpos : 0 < (cands l name set l.length).length := List.length_pos_iff.2 c3
        rw [if_neg (by omega), if_pos (by omega)]
        have hin := cands_InT l name set
        rw [g1_f B hB l hl k (by omega) _ 0 false hin (fun e => by cases e), Option.bind_some]
        have hmem := g1s_mem0 l _ c3 0
        rw [g2_f B hB l hl k (by omega) _ _ _ hin (fun _ => hin _ hmem), Option.bind_some]
        rw [← greatest_eq l _ c3 (cands_anti l name set c1) (fun f hf _ => hf ▸ hmem)]
        unfold top
        split <;> rfl
    · rw [if_neg c2, if_neg c2]
      dsimp only
      rw [if_neg c2]
  · rw [if_neg c1, if_neg c1, if_neg c1]
    dsimp only
    rw [if_neg c1]
def addSpec (l : List S24) (b : S24) : List S24 × Int := if (tab l).2 = 0 then (if (tab (l ++ [b])).2 = 0 then (l ++ [b], 0) else ([], (tab (l ++ [b])).2)) else ([], (tab l).2)
theorem TB_add {B : Nat} {l : List S24} (hl : TB B l) {b : S24} (h : b.f0.size ≤ B ∧ b.f1.size ≤ B) : TB B (l ++ [b]) := by
  intro x hx
  rcases List.mem_append.1 hx with h1 | h1
  · exact hl x h1
  · rw [List.mem_singleton.1 h1]; exact h
theorem bAdd_f (B : Nat) (hB : B ≤ 1099511627776) (l : List S24) (hl : TB B l) (hb : l.length ≤ 1099511627) (b : S24) (h : b.f0.size ≤ B ∧ b.f1.size ≤ B) :
    binds_Add.f l b.f0 b.f1 b.f2 b.f3 = some (addSpec l b) := by
  have big : ∀ {m : List S24}, TB B m → TB 1099511627776 m := fun h x hx => ⟨by have := (h x hx).1; omega, by have := (h x hx).2; omega⟩
  unfold binds_Add.f addSpec
  rw [bindsCheck_f l (big hl), Option.bind_some]
  by_cases c : (tab l).2 = 0
  · rw [if_pos c, if_pos c]
    unfold api_BnBind.f
    rw [if_pos (by omega), Option.bind_some, Option.bind_some, if_pos (by simp only [List.length_singleton]; omega), Option.bind_some, bindsCheck_f _ (big (TB_add hl h)), Option.bind_some]
    split <;> rfl
  · rw [if_neg c, if_neg c]
theorem ints_l0 (l : List Int) (hb : l.length ≤ 1099511627776) : ∀ (d i k : Nat), i + d = l.length → d < k → mummerref11_Ints.l0 k l l (i : Int) = some true := by
  intro d
  induction d with
  | zero =>
    intro i k hi hk
    obtain ⟨k, rfl⟩ : ∃ m, k = m + 1 := ⟨k - 1, by omega⟩
    simp only [mummerref11_Ints.l0]
    rw [if_neg (by omega)]
  | succ d ih =>
    intro i k hi hk
    obtain ⟨k, rfl⟩ : ∃ m, k = m + 1 := ⟨k - 1, by omega⟩
    simp only [mummerref11_Ints.l0, wnext i (by omega)]
    rw [if_pos (by omega), if_pos (by omega), if_pos (by omega), if_pos trivial]
    exact ih (i + 1) k (by omega) (by omega)
theorem ints_f (l : List Int) (hb : l.length ≤ 1099511627776) (k : Nat) (hk : l.length < k) : mummerref11_Ints.f k l l = some true := by
  unfold mummerref11_Ints.f
  rw [if_pos rfl]
  exact ints_l0 l hb l.length 0 k (by omega) hk
def long (b : S24) : Bool := decide ((b.f0.size : Int) > 150) || decide ((b.f1.size : Int) > 150)
def wide (s : ByteArray) : Bool := decide ((s.size : Int) > 150)
def farB (l : List S24) (ss : List ByteArray) : Bool := (decide ((l.length : Int) > 60) && decide ((l.length : Int) ≤ 1000) || decide ((l.length : Int) > 1005)) || (l.any long || ss.any wide)
theorem far_l1 (ss : List ByteArray) (hb : ss.length ≤ 1099511627776) : ∀ (d i k : Nat), i + d = ss.length → d < k → mummerlaw11_far.l1 k ss (i : Int) = some ((ss.drop i).any wide) := by
  intro d
  induction d with
  | zero =>
    intro i k hi hk
    obtain ⟨k, rfl⟩ : ∃ m, k = m + 1 := ⟨k - 1, by omega⟩
    simp only [mummerlaw11_far.l1]
    rw [if_neg (by omega), List.drop_eq_nil_of_le (by omega)]; rfl
  | succ d ih =>
    intro i k hi hk
    obtain ⟨k, rfl⟩ : ∃ m, k = m + 1 := ⟨k - 1, by omega⟩
    have hil : i < ss.length := by omega
    simp only [mummerlaw11_far.l1, wnext i (by omega)]
    rw [if_pos (by omega), if_pos (by omega), List.drop_eq_getElem_cons hil, List.any_cons]
    have e : rdOf ByteArray.empty ss (i : Int) = ss[i] := by simp [rdOf, hil]
    rw [e]
    by_cases c : (ss[i].size : Int) > 150
    · rw [if_pos c, show wide ss[i] = true from by simp [wide]; omega]; rfl
    · rw [if_neg c, show wide ss[i] = false from by simp [wide]; omega, Bool.false_or]
      exact ih (i + 1) k (by omega) (by omega)
theorem far_l0 (l : List S24) (hlb : l.length ≤ 1099511627776) (ss : List ByteArray) (hb : ss.length ≤ 1099511627776) : ∀ (d i k : Nat), i + d = l.length → d + ss.length + 1 < k → mummerlaw11_far.l0 k l ss (i : Int) = some ((l.drop i).any long || ss.any wide) := by
  intro d
  induction d with
  | zero =>
    intro i k hi hk
    obtain ⟨k, rfl⟩ : ∃ m, k = m + 1 := ⟨k - 1, by omega⟩
    simp only [mummerlaw11_far.l0]
    rw [if_neg (by omega), List.drop_eq_nil_of_le (by omega)]
    exact far_l1 ss hb ss.length 0 k (by omega) (by omega)
  | succ d ih =>
    intro i k hi hk
    obtain ⟨k, rfl⟩ : ∃ m, k = m + 1 := ⟨k - 1, by omega⟩
    have hil : i < l.length := by omega
    simp only [mummerlaw11_far.l0, wnext i (by omega), rdT l i hil]
    rw [if_pos (by omega), if_pos (by omega), List.drop_eq_getElem_cons hil, List.any_cons]
    by_cases c : (l[i].f0.size : Int) > 150
    · rw [if_pos c, show long l[i] = true from by simp [long]; omega]; rfl
    · rw [if_neg c]
      by_cases c2 : (l[i].f1.size : Int) > 150
      · rw [if_pos c2, show long l[i] = true from by simp [long]; omega]; rfl
      · rw [if_neg c2, show long l[i] = false from by simp [long]; omega, Bool.false_or]
        exact ih (i + 1) k (by omega) (by omega)
theorem far_f (l : List S24) (ss : List ByteArray) (hb : ss.length ≤ 1099511627776) (k : Nat) (hk : 1010 + ss.length < k) : mummerlaw11_far.f k l ss = some (farB l ss) := by
  have hj : ∀ b : Bool, (b = false → l.length ≤ 1005) → mummerlaw11_far.j0 k l ss b = some (b || (l.any long || ss.any wide)) := by
    intro b h
    obtain ⟨k, rfl⟩ : ∃ m, k = m + 1 := ⟨k - 1, by omega⟩
    simp only [mummerlaw11_far.j0]
    cases b with
    | true => rfl
    | false =>
      have := h rfl
      rw [if_neg (by decide), Bool.false_or]
      exact far_l0 l (by omega) ss hb l.length 0 k (by omega) (by omega)
  unfold mummerlaw11_far.f farB
  by_cases c1 : (l.length : Int) > 60
  · rw [if_pos c1]
    by_cases c2 : (l.length : Int) ≤ 1000
    · rw [if_pos c2, hj true (fun e => by cases e)]; simp [c1, c2]
    · rw [if_neg c2, hj _ (fun e => by simp at e; omega)]; simp [c2]
  · rw [if_neg c1, hj _ (fun e => by simp at e; omega)]; simp [c1]
theorem far_no {l : List S24} {ss : List ByteArray} (h : farB l ss = false) : l.length ≤ 1005 ∧ TB 150 l ∧ ∀ s ∈ ss, s.size ≤ 150 := by
  unfold farB at h
  simp only [Bool.or_eq_false_iff, Bool.and_eq_false_iff, decide_eq_false_iff_not, List.any_eq_false, long, wide, Bool.or_eq_true, decide_eq_true_eq] at h
  obtain ⟨⟨_, h2⟩, h3, h4⟩ := h
  refine ⟨by omega, fun b hb => ?_, fun s hs => ?_⟩
  · have := h3 b hb; omega
  · have := h4 s hs; omega
def same2 (an bn : ByteArray) (a b : Int × Int) : Bool × Int :=
  if a.2 = 11 then (false, 11) else if b.2 = 11 then (false, 11) else if a.2 = 0 then (if b.2 = 0 then (a.1 == b.1, 0) else (if a.2 = b.2 then (an.toList == bn.toList, 0) else (false, 0))) else (if a.2 = b.2 then (an.toList == bn.toList, 0) else (false, 0))
def sameSpec (l : List S24) (an sa bn sb : ByteArray) : Bool × Int :=
  if askSpec l sa = 0 then (if askSpec l sb = 0 then same2 an bn (resSpec l an sa) (resSpec l bn sb) else (false, askSpec l sb)) else (false, askSpec l sa)
theorem findTop_code (l : List S24) (C : List Int) : ∀ r, (∀ x ∈ r, x ∈ C) → ((findTop l C r).2 = 0 ∧ (findTop l C r).1 ∈ C) ∨ (findTop l C r).2 = 10 ∨ (findTop l C r).2 = 11
  | [], _ => by
    unfold findTop
    split <;> simp
  | y :: r, h => by
    unfold findTop
    split
    · exact Or.inl ⟨rfl, h y (by simp)⟩
    · exact findTop_code l C r fun x hx => h x (by simp [hx])
theorem chk_codes (s : ByteArray) : chk s = 0 ∨ (chk s ≠ 10 ∧ chk s ≠ 11) := by
  unfold chk
  split
  · split
    · split <;> simp
    · simp
  · simp
theorem bindErr_codes (b : S24) : bindErr b = 0 ∨ (bindErr b ≠ 10 ∧ bindErr b ≠ 11) := by
  unfold bindErr
  have := chk_codes b.f1
  split
  · simp
  · split
    · simp
    · split
      · split
        · simp
        · split
          · simp
          · split <;> simp
      · exact this
theorem tgo_codes (l : List S24) : ∀ (r : List S24) (i : Nat), (tgo l r i).2 = 0 ∨ ((tgo l r i).2 ≠ 10 ∧ (tgo l r i).2 ≠ 11)
  | [], _ => Or.inl rfl
  | b :: r, i => by
    unfold tgo
    split
    · exact tgo_codes l r (i + 1)
    · dsimp only
      unfold oneErr
      split
      · split <;> simp
      · exact bindErr_codes b
theorem tab_codes (l : List S24) : (tab l).2 = 0 ∨ ((tab l).2 ≠ 10 ∧ (tab l).2 ≠ 11) := by
  unfold tab
  split
  · simp
  · exact tgo_codes l l 0
theorem ask_codes (l : List S24) (s : ByteArray) : askSpec l s = 0 ∨ (askSpec l s ≠ 10 ∧ askSpec l s ≠ 11) := by
  unfold askSpec
  split
  · exact chk_codes s
  · exact tab_codes l
theorem ask_tab {l : List S24} {s : ByteArray} (h : askSpec l s = 0) : (tab l).2 = 0 := by
  unfold askSpec at h
  by_cases c : (tab l).2 = 0
  · exact c
  · rw [if_neg c] at h; exact h
theorem resSpec_codes {l : List S24} {n s : ByteArray} (h : askSpec l s = 0) : ((resSpec l n s).2 = 0 ∧ 0 ≤ (resSpec l n s).1 ∧ (resSpec l n s).1 < (l.length : Int)) ∨ (resSpec l n s).2 = 10 ∨ (resSpec l n s).2 = 11 := by
  unfold resSpec
  rw [if_pos h]
  rcases findTop_code l (cands l n s l.length) (cands l n s l.length) (fun _ h => h) with ⟨h1, h2⟩ | h1
  · exact Or.inl ⟨h1, cands_InT l n s _ h2⟩
  · exact Or.inr h1
theorem whole_eq (l : List S24) (ht : (tab l).2 = 0) (x y : Int) (hx : 0 ≤ x ∧ x < (l.length : Int)) (hy : 0 ≤ y ∧ y < (l.length : Int)) :
    ((((rd_T24 l x).f0).toList) == (((rd_T24 l y).f0).toList) && ((((rd_T24 l x).f1).toList) == (((rd_T24 l y).f1).toList) && (((rd_T24 l x).f2) == ((rd_T24 l y).f2) && (((rd_T24 l x).f3) == ((rd_T24 l y).f3))))) = (x == y) := by
  obtain ⟨i, rfl⟩ : ∃ n : Nat, x = n := ⟨x.toNat, by omega⟩
  obtain ⟨j, rfl⟩ : ∃ n : Nat, y = n := ⟨y.toNat, by omega⟩
  have hi : i < l.length := by omega
  have hj : j < l.length := by omega
  rw [rdT l i hi, rdT l j hj]
  have hn : ∀ (i j : Nat) (hi : i < l.length) (hj : j < l.length), i < j → (decide (l[i].f0.toList = l[j].f0.toList) && decide (l[i].f1.toList = l[j].f1.toList)) = false := fun i j hi hj h => one_key l ht i j h hj
  rcases Nat.lt_trichotomy i j with h | h | h
  · have h1 := hn i j hi hj h
    rw [show ((i : Int) == (j : Int)) = false from by simp; omega]
    rw [Bool.and_eq_false_iff, decide_eq_false_iff_not, decide_eq_false_iff_not] at h1
    rcases h1 with h1 | h1
    · rw [show ((l[i].f0.toList == l[j].f0.toList) = false) from beq_eq_false_iff_ne.2 h1, Bool.false_and]
    · rw [show ((l[i].f1.toList == l[j].f1.toList) = false) from beq_eq_false_iff_ne.2 h1, Bool.false_and, Bool.and_false]
  · subst h; simp
  · have h1 := hn j i hj hi h
    rw [show ((i : Int) == (j : Int)) = false from by simp; omega]
    rw [Bool.and_eq_false_iff, decide_eq_false_iff_not, decide_eq_false_iff_not] at h1
    rcases h1 with h1 | h1
    · rw [show ((l[i].f0.toList == l[j].f0.toList) = false) from beq_eq_false_iff_ne.2 (fun e => h1 e.symm), Bool.false_and]
    · rw [show ((l[i].f1.toList == l[j].f1.toList) = false) from beq_eq_false_iff_ne.2 (fun e => h1 e.symm), Bool.false_and, Bool.and_false]
theorem bSame_f (B : Nat) (hB : B ≤ 1099511627776) (l : List S24) (hl : TB B l) (hb : l.length ≤ 2000) (an sa bn sb : ByteArray) (p q p' q' : Int) (ha : sa.size ≤ B) (hb' : sb.size ≤ B) (k : Nat) (hk : 5000000 + 2 * B < k) :
    binds_Same.f k l an sa p q bn sb p' q' = some (sameSpec l an sa bn sb) := by
  unfold binds_Same.f sameSpec
  rw [bResolve_f B hB l hl hb an sa ha k hk, Option.bind_some, bResolve_f B hB l hl hb bn sb hb' k hk, Option.bind_some]
  obtain ⟨k, rfl⟩ : ∃ m, k = m + 3 := ⟨k - 3, by omega⟩
  by_cases c1 : askSpec l sa = 0
  · rw [if_pos c1]
    have ra := resSpec_codes (n := an) c1
    have hj1 : binds_Same.j0 (k + 3) l (resSpec l an sa).1 (resSpec l an sa).2 (resSpec l bn sb).1 (resSpec l bn sb).2 false an sa p q bn sb p' q' = some (if askSpec l sb = 0 then same2 an bn (resSpec l an sa) (resSpec l bn sb) else (false, askSpec l sb)) := by
      simp only [binds_Same.j0]
      rw [if_neg (by decide)]
      by_cases c2 : askSpec l sb = 0
      · rw [if_pos c2]
        have rb := resSpec_codes (n := bn) c2
        have hj2 : binds_Same.j1 (k + 2) l (resSpec l an sa).1 (resSpec l an sa).2 (resSpec l bn sb).1 (resSpec l bn sb).2 false an sa p q bn sb p' q' = some (same2 an bn (resSpec l an sa) (resSpec l bn sb)) := by
          simp only [binds_Same.j1]
          rw [if_neg (by decide)]
          unfold same2
          by_cases d1 : (resSpec l an sa).2 = 11
          · rw [if_pos d1, if_pos d1]; simp only [binds_Same.j2]; rw [if_pos trivial]
          · rw [if_neg d1, if_neg d1]
            simp only [binds_Same.j2]
            by_cases d2 : (resSpec l bn sb).2 = 11
            · rw [if_pos d2, if_pos (by simp [d2])]
            · rw [if_neg d2, if_neg (by simp [d2])]
              by_cases d3 : (resSpec l an sa).2 = 0
              · rw [if_pos d3, if_pos d3]
                by_cases d4 : (resSpec l bn sb).2 = 0
                · rw [if_pos d4, if_pos d4]
                  have ia : 0 ≤ (resSpec l an sa).1 ∧ (resSpec l an sa).1 < (l.length : Int) := by omega
                  have ib : 0 ≤ (resSpec l bn sb).1 ∧ (resSpec l bn sb).1 < (l.length : Int) := by omega
                  rw [if_pos ia.1, if_pos ia.2, if_pos ib.1, if_pos ib.2, whole_eq l (ask_tab c1) _ _ ia ib]
                · rw [if_neg d4, if_neg d4]; split <;> rfl
              · rw [if_neg d3, if_neg d3]; split <;> rfl
        rcases rb with ⟨h1, _⟩ | h1 | h1
        · rw [if_pos h1]; exact hj2
        · rw [if_neg (by rw [h1]; decide), if_pos h1]; exact hj2
        · rw [if_neg (by rw [h1]; decide), if_neg (by rw [h1]; decide), show ((resSpec l bn sb).2 != 11) = false from by rw [h1]; rfl]; exact hj2
      · rw [if_neg c2]
        have e : resSpec l bn sb = (0, askSpec l sb) := by unfold resSpec; rw [if_neg c2]
        have hc := (ask_codes l sb).resolve_left c2
        rw [e]
        dsimp only
        rw [if_neg c2, if_neg hc.1, show (askSpec l sb != 11) = true from by simp [hc.2]]
        simp only [binds_Same.j1]
        rw [if_pos trivial]
    rcases ra with ⟨h1, _⟩ | h1 | h1
    · rw [if_pos h1]; exact hj1
    · rw [if_neg (by rw [h1]; decide), if_pos h1]; exact hj1
    · rw [if_neg (by rw [h1]; decide), if_neg (by rw [h1]; decide), show ((resSpec l an sa).2 != 11) = false from by rw [h1]; rfl]; exact hj1
  · rw [if_neg c1]
    have e : resSpec l an sa = (0, askSpec l sa) := by unfold resSpec; rw [if_neg c1]
    have hc := (ask_codes l sa).resolve_left c1
    rw [e]
    dsimp only
    rw [if_neg c1, if_neg hc.1, show (askSpec l sa != 11) = true from by simp [hc.2]]
    simp only [binds_Same.j0]
    rw [if_pos trivial]
def bsI (x : Int) : List Int := [(wrap64 (Int.tdiv x 256)) % 256, (Int.tmod x 256) % 256]
theorem strOfNums_flat : ∀ (l : List Int), InS l → strOfNums (l.flatMap bsI) = ofP l
  | [], _ => rfl
  | x :: l, h => by
    have h1 := strOf_bs x (h x (by simp))
    have h2 := strOfNums_flat l fun y hy => h y (by simp [hy])
    have h3 : strOfNums ((x :: l).flatMap bsI) = strOfNums (bsI x) ++ strOfNums (l.flatMap bsI) := by
      rw [List.flatMap_cons]
      unfold strOfNums
      simp [ByteArray.ext_iff]
    rw [h3, h2]
    unfold bsI
    rw [h1, ofP_append]
    rfl
def markOf (l : List Int) (M : List Bool) (j : Nat) : Prop := M.length = 65536 ∧ ∀ i < 65536, M.getD i false = decide ((i : Int) ∈ l.take j)
def numsOf (l : List Int) (j d : Nat) : List Int := ((List.range' j d).filter fun (i : Nat) => decide ((i : Int) ∈ l)).map fun (i : Nat) => (i : Int)
theorem numsOf_step (l : List Int) (j d : Nat) : numsOf l j (d + 1) = (if (j : Int) ∈ l then [(j : Int)] else []) ++ numsOf l (j + 1) d := by
  unfold numsOf
  rw [List.range'_succ, List.filter_cons]
  split <;> rename_i c
  · rw [if_pos (of_decide_eq_true c)]; rfl
  · rw [if_neg (fun h => c (decide_eq_true h))]; rfl
def setSpec (s : ByteArray) : ByteArray × Int := if (s.size : Int) > 20000 then ((⟨#[]⟩ : ByteArray), 3) else (s, 0)
def ofSpec (l : List Int) : ByteArray × Int := if (l.all fun x => decide (0 ≤ x ∧ x ≤ 65535)) = true then setSpec (ofP (numsOf l 0 65536)) else ((⟨#[]⟩ : ByteArray), 7)
theorem of_l1 (l : List Int) (M : List Bool) (hM : M.length = 65536) (hm : ∀ i < 65536, M.getD i false = decide ((i : Int) ∈ l)) : ∀ (d j k : Nat) (L : List Int), InS L → L.length ≤ j → j + d = 65536 → d < k →
    mummerref09_Of.l1 k M (L.flatMap bsI) (j : Int) = some (setSpec (ofP (L ++ numsOf l j d))) := by
  intro d
  induction d with
  | zero =>
    intro j k L hL hLj hj hk
    obtain ⟨k, rfl⟩ : ∃ m, k = m + 1 := ⟨k - 1, by omega⟩
    simp only [mummerref09_Of.l1]
    rw [if_neg (by omega), strOfNums_flat L hL, show numsOf l j 0 = [] from rfl, List.append_nil]
    unfold mummerref09_set.f setSpec
    split <;> rfl
  | succ d ih =>
    intro j k L hL hLj hj hk
    obtain ⟨k, rfl⟩ : ∃ m, k = m + 1 := ⟨k - 1, by omega⟩
    simp only [mummerref09_Of.l1, wnext j (by omega)]
    have hlen : (L.flatMap bsI).length = 2 * L.length := by
      clear ih hL hLj
      induction L with
      | nil => rfl
      | cons x L ih => simp [List.flatMap_cons, bsI, ih]; omega
    have e : rdOf false M (j : Int) = decide ((j : Int) ∈ l) := by
      rw [← hm j (by omega)]; simp [rdOf]
    rw [if_pos (by omega), if_pos (by omega), e, numsOf_step]
    by_cases c : (j : Int) ∈ l
    · rw [if_pos (decide_eq_true c), if_pos c, Option.bind_some, if_pos (by simp only [List.length_cons, List.length_nil]; omega)]
      have := ih (j + 1) k (L ++ [(j : Int)]) (fun x hx => by
        rcases List.mem_append.1 hx with h | h
        · exact hL x h
        · rw [List.mem_singleton.1 h]; omega) (by simp; omega) (by omega) (by omega)
      rw [List.flatMap_append, List.append_assoc] at this
      exact this
    · rw [if_neg (fun h => c (of_decide_eq_true h)), if_neg c, List.nil_append]
      exact ih (j + 1) k L hL (by omega) (by omega) (by omega)
theorem of_l0 (l : List Int) (hb : l.length ≤ 1099511627776) : ∀ (d j k : Nat) (M : List Bool), markOf l M j → j + d = l.length → d + 65540 < k → (l.take j).all (fun x => decide (0 ≤ x ∧ x ≤ 65535)) = true →
    mummerref09_Of.l0 k l M (j : Int) = some (ofSpec l) := by
  intro d
  induction d with
  | zero =>
    intro j k M hM hj hk ha
    obtain ⟨k, rfl⟩ : ∃ m, k = m + 1 := ⟨k - 1, by omega⟩
    have e : l.take j = l := List.take_of_length_le (by omega)
    simp only [mummerref09_Of.l0]
    rw [e] at ha
    have := of_l1 l M hM.1 (fun i hi => by rw [hM.2 i hi, e]) 65536 0 k [] (fun x hx => by cases hx) (by simp) (by omega) (by omega)
    rw [if_neg (by omega)]
    unfold ofSpec
    rw [if_pos ha]
    exact this
  | succ d ih =>
    intro j k M hM hj hk ha
    obtain ⟨k, rfl⟩ : ∃ m, k = m + 1 := ⟨k - 1, by omega⟩
    have hjl : j < l.length := by omega
    have e : rd l (j : Int) = l[j] := by simp [rd, hjl]
    simp only [mummerref09_Of.l0, wnext j (by omega), e]
    rw [if_pos (by omega), if_pos (by omega)]
    have hal : (0 ≤ l[j] ∧ l[j] ≤ 65535) ∨ ¬ (0 ≤ l[j] ∧ l[j] ≤ 65535) := Classical.em _
    have es : mummerref09_scope.f l[j] = some (decide (0 ≤ l[j] ∧ l[j] ≤ 65535)) := by
      unfold mummerref09_scope.f
      by_cases c : l[j] ≥ 0
      · rw [if_pos c]; simp [c]
      · rw [if_neg c]; simp [c]
    rw [es, Option.bind_some]
    rcases hal with c | c
    · have hl := hM.1
      rw [if_pos (decide_eq_true c), if_pos c.1, if_pos (by omega)]
      refine ih (j + 1) k _ ⟨by simp [hM.1], fun i hi => ?_⟩ (by omega) (by omega) ?_
      · have hmem : (i : Int) ∈ l.take (j + 1) ↔ ((i : Int) ∈ l.take j ∨ (i : Int) = l[j]) := by
          rw [List.take_add_one, List.getElem?_eq_getElem hjl, List.mem_append, Option.toList_some, List.mem_singleton]
        rw [List.getD_eq_getElem?_getD, List.getElem?_set]
        have h0 := hM.2 i hi
        rw [List.getD_eq_getElem?_getD] at h0
        by_cases ei : l[j].toNat = i
        · rw [if_pos ei, if_pos (by omega)]
          have : (i : Int) = l[j] := by omega
          exact (decide_eq_true (hmem.2 (Or.inr this))).symm
        · rw [if_neg ei, h0]
          have hne : ¬ (i : Int) = l[j] := by omega
          exact decide_eq_decide.2 ⟨fun h => hmem.2 (Or.inl h), fun h => (hmem.1 h).resolve_right hne⟩
      · rw [List.take_add_one, List.getElem?_eq_getElem hjl, List.all_append, ha]
        simp [c]
    · rw [if_neg (fun h => c (of_decide_eq_true h))]
      unfold ofSpec
      rw [if_neg]
      intro h
      exact c (of_decide_eq_true (List.all_eq_true.1 h l[j] (List.getElem_mem hjl)))
theorem of_f (l : List Int) (hb : l.length ≤ 1099511627776) (k : Nat) (hk : l.length + 65540 < k) : mummerref09_Of.f k l = some (ofSpec l) := by
  unfold mummerref09_Of.f
  rw [if_pos (by decide)]
  refine of_l0 l hb l.length 0 k _ ⟨List.length_replicate, fun i hi => ?_⟩ (by omega) hk rfl
  rw [List.getD_eq_getElem?_getD, List.getElem?_replicate, if_pos hi]
  simp
theorem numsOf_small (l : List Int) (m : Nat) (hm : m ≤ 65536) (h : ∀ x ∈ l, x < (m : Int)) : numsOf l 0 65536 = numsOf l 0 m := by
  have e : List.range' 0 65536 = List.range' 0 m ++ List.range' m (65536 - m) := by
    rw [show 65536 = m + (65536 - m) by omega, ← List.range'_append_1]
    simp
  unfold numsOf
  rw [e, List.filter_append]
  rw [show (List.range' m (65536 - m)).filter (fun (i : Nat) => decide ((i : Int) ∈ l)) = [] from ?_, List.append_nil]
  rw [List.filter_eq_nil_iff]
  intro i hi hd
  have h1 := h _ (of_decide_eq_true hd)
  have h2 := (List.mem_range'_1.1 hi).1
  omega
theorem set_ex (l : List Int) (hl : l.length ≤ 10) (k : Nat) (hk : 65560 < k) (hs : ∀ x ∈ l, 0 ≤ x ∧ x < 10) (s : ByteArray) (h : ofP (numsOf l 0 10) = s) (h2 : s.size ≤ 20000) : mummerlaw11_set.f k l = some s := by
  unfold mummerlaw11_set.f
  rw [of_f l (by omega) k (by omega), Option.bind_some]
  unfold ofSpec
  rw [if_pos (List.all_eq_true.2 fun x hx => decide_eq_true (by have := hs x hx; omega)), numsOf_small l 10 (by decide) (fun x hx => (hs x hx).2), h]
  unfold setSpec
  rw [if_neg (by omega)]
def exT : List S24 := [⟨⟨#[120]⟩, ⟨#[0, 1]⟩, 1, 0⟩, ⟨⟨#[120]⟩, ⟨#[0, 1, 0, 2]⟩, 1, 1⟩, ⟨⟨#[120]⟩, ⟨#[0, 1, 0, 3]⟩, 1, 2⟩, ⟨⟨#[121]⟩, ⟨#[]⟩, 3, 5⟩]
theorem exT_TB : TB 100 exT := by
  intro b hb
  have h : exT.all (fun b => decide (b.f0.size ≤ 100 ∧ b.f1.size ≤ 100)) = true := by decide +kernel
  exact of_decide_eq_true (List.all_eq_true.1 h b hb)
theorem ex_f (k : Nat) (hk : 65560 < k) : mummerlaw11_Example.f k = some exT := by
  unfold mummerlaw11_Example.f
  rw [set_ex [1] (by decide) k hk (by decide) ⟨#[0, 1]⟩ (by decide +kernel) (by decide), Option.bind_some,
    set_ex [1, 2] (by decide) k hk (by decide) ⟨#[0, 1, 0, 2]⟩ (by decide +kernel) (by decide), Option.bind_some,
    set_ex [1, 3] (by decide) k hk (by decide) ⟨#[0, 1, 0, 3]⟩ (by decide +kernel) (by decide), Option.bind_some]
  rfl
theorem awake_f (k : Nat) (hk : 6000000 < k) : mummerlaw11_awake.f k = some true := by
  unfold mummerlaw11_awake.f
  have hT : TB 100 exT := exT_TB
  have hB : (100 : Nat) ≤ 1099511627776 := by decide
  have hl : exT.length ≤ 2000 := by decide
  rw [ex_f k (by omega), Option.bind_some,
    set_ex [1, 2, 9] (by decide) k (by omega) (by decide) ⟨#[0, 1, 0, 2, 0, 9]⟩ (by decide +kernel) (by decide), Option.bind_some,
    bResolve_f 100 hB exT hT hl _ _ (by decide) k (by omega), Option.bind_some,
    set_ex [1, 2, 3] (by decide) k (by omega) (by decide) ⟨#[0, 1, 0, 2, 0, 3]⟩ (by decide +kernel) (by decide), Option.bind_some,
    bResolve_f 100 hB exT hT hl _ _ (by decide) k (by omega), Option.bind_some,
    set_ex [2] (by decide) k (by omega) (by decide) ⟨#[0, 2]⟩ (by decide +kernel) (by decide), Option.bind_some,
    bResolve_f 100 hB exT hT hl _ _ (by decide) k (by omega), Option.bind_some, Option.bind_some,
    bCand_f 100 hB exT hT (by decide) _ _ (by decide) k (by rw [show exT.length = 4 from rfl]; omega), Option.bind_some,
    set_ex [1] (by decide) k (by omega) (by decide) ⟨#[0, 1]⟩ (by decide +kernel) (by decide), Option.bind_some,
    set_ex [1, 4] (by decide) k (by omega) (by decide) ⟨#[0, 1, 0, 4]⟩ (by decide +kernel) (by decide), Option.bind_some,
    bSame_f 100 hB exT hT hl _ _ _ _ _ _ _ _ (by decide) (by decide) k (by omega), Option.bind_some,
    set_ex [1, 2] (by decide) k (by omega) (by decide) ⟨#[0, 1, 0, 2]⟩ (by decide +kernel) (by decide), Option.bind_some,
    bAdd_f 100 hB exT hT (by decide) ⟨⟨#[120]⟩, ⟨#[0, 1, 0, 2]⟩, 1, 0⟩ (by decide), Option.bind_some]
  rw [show resSpec exT ⟨#[120]⟩ ⟨#[0, 1, 0, 2, 0, 9]⟩ = (1, 0) from by decide +kernel,
    show resSpec exT ⟨#[120]⟩ ⟨#[0, 1, 0, 2, 0, 3]⟩ = (0, 11) from by decide +kernel,
    show resSpec exT ⟨#[120]⟩ ⟨#[0, 2]⟩ = (0, 10) from by decide +kernel,
    show candSpec exT ⟨#[120]⟩ ⟨#[0, 1, 0, 2, 0, 3]⟩ = ([0, 1, 2], 0) from by decide +kernel,
    show sameSpec exT ⟨#[120]⟩ ⟨#[0, 1]⟩ ⟨#[120]⟩ ⟨#[0, 1, 0, 4]⟩ = (true, 0) from by decide +kernel,
    show (addSpec exT ⟨⟨#[120]⟩, ⟨#[0, 1, 0, 2]⟩, 1, 0⟩).2 = 8 from by decide +kernel]
  dsimp only
  rw [if_pos rfl, if_pos rfl, if_pos rfl, if_pos rfl, ints_f _ (by decide) k (by simp only [List.length_cons, List.length_nil]; omega), Option.bind_some, if_pos rfl, if_pos rfl, if_pos rfl, if_pos rfl]
  rfl
end Go.Proofs.Ytpjcahjpjeiicaa.P
namespace Go.Proofs.Ytpjcahjpjeiicaa.P
open Go.RowKit Go.Proofs.YtpjcahjpjeiicaaW.PrintWords Go.Proofs.YtpjcahjpjeiicaaW.PrintLast Sc
def S24.Small (b : S24) : Prop := b.f0.size ≤ 1099511627776 ∧ b.f1.size ≤ 1099511627776
theorem one_l0 (l : List S24) (i : Nat) (hi : i ≤ l.length) (hb : l.length ≤ 1099511627776) (b : S24) : ∀ (d j k : Nat), j + d = i → d < k → (l.take j).any (sameKey · b) = false →
    mummerref11_one.l0 k l (i : Int) (j : Int) b.f0 b.f1 b.f2 b.f3 = some (if (l.take i).any (sameKey · b) = true then 8 else 0) := by
  intro d
  induction d with
  | zero =>
    intro j k hj hk hn
    obtain ⟨k, rfl⟩ : ∃ m, k = m + 1 := ⟨k - 1, by omega⟩
    simp only [mummerref11_one.l0]
    rw [if_neg (by omega), show i = j by omega, if_neg (by rw [hn]; decide)]
  | succ d ih =>
    intro j k hj hk hn
    obtain ⟨k, rfl⟩ : ∃ m, k = m + 1 := ⟨k - 1, by omega⟩
    have hjl : j < l.length := by omega
    have e2 : wrap64 ((j : Int) + 1) = ((j + 1 : Nat) : Int) := by rw [w64 (by omega) (by omega)]; omega
    simp only [mummerref11_one.l0, rdT l j hjl, e2]
    rw [if_pos (by omega), if_pos (by omega), if_pos (by omega)]
    have ht : ∀ c, sameKey l[j] b = c → (l.take (j + 1)).any (sameKey · b) = c := fun c hc => by
      rw [List.take_succ_eq_append_getElem hjl, List.any_append, hn]; simp [hc]
    by_cases c1 : l[j].f0.toList = b.f0.toList
    · rw [if_pos c1]
      by_cases c2 : l[j].f1.toList = b.f1.toList
      · rw [if_pos c2]
        have h1 := ht true (by simp [sameKey, c1, c2])
        have h2 : (l.take i).any (sameKey · b) = true := by
          rw [List.any_eq_true] at h1 ⊢
          obtain ⟨x, hx, hs⟩ := h1
          exact ⟨x, (List.take_subset_take_left l (by omega)) hx, hs⟩
        rw [if_pos h2]
      · rw [if_neg c2]
        exact ih (j + 1) k (by omega) (by omega) (ht false (by simp [sameKey, c2]))
    · rw [if_neg c1]
      exact ih (j + 1) k (by omega) (by omega) (ht false (by simp [sameKey, c1]))
theorem one_f (l : List S24) (i : Nat) (hi : i < l.length) (hb : l.length ≤ 1099511627776) (hs : l[i].Small) (k : Nat) (hk : i + 2 + l[i].f1.size < k) : mummerref11_one.f k l (i : Int) = some (oneErr l i l[i]) := by
  unfold mummerref11_one.f oneErr bindErr
  rw [if_pos (by omega), if_pos (by omega), rdT l i hi]
  have hl := one_l0 l i (by omega) hb l[i] i 0 (k - 1) (by omega) (by omega) (by simp)
  obtain ⟨k, rfl⟩ : ∃ m, k = m + 1 := ⟨k - 1, by omega⟩
  rw [show ((0 : Nat) : Int) = 0 from rfl, show k + 1 - 1 = k by omega] at hl
  by_cases c1 : l[i].f0.toList = []
  · simp [c1]
  · rw [if_neg c1, if_neg c1]
    by_cases c2 : (l[i].f0.size : Int) > 24
    · simp [c2]
    · rw [if_neg c2, if_neg c2, check_f _ (by have := hs.2; omega) _ (by omega), Option.bind_some]
      by_cases c3 : chk l[i].f1 = 0
      · rw [if_pos c3, if_pos c3]
        by_cases c4 : l[i].f2 < 1
        · simp [c4, mummerref11_one.j0]
        · rw [if_neg c4, if_neg c4]
          by_cases c5 : l[i].f2 > 4
          · simp [c5, mummerref11_one.j0]
          · rw [if_neg c5, if_neg c5]
            by_cases c6 : l[i].f3 < 0
            · simp [c6, mummerref11_one.j0]
            · simp only [mummerref11_one.j0, c6, decide_false, Bool.false_eq_true, if_false, if_true]
              exact hl
      · rw [if_neg c3, if_neg c3]
        simp [c3]
theorem refCheck_l0 (B : Nat) (hB : B ≤ 1099511627776) (l : List S24) (hl : TB B l) (hb : l.length ≤ 1099511627776) : ∀ (d i k : Nat), i + d = l.length → d + l.length + B + 3 < k →
    mummerref11_Check.l0 k l (i : Int) = some (tgo l (l.drop i) i) := by
  intro d
  induction d with
  | zero =>
    intro i k hi hk
    obtain ⟨k, rfl⟩ : ∃ m, k = m + 1 := ⟨k - 1, by omega⟩
    simp only [mummerref11_Check.l0]
    rw [if_neg (by omega), List.drop_eq_nil_of_le (by omega)]; rfl
  | succ d ih =>
    intro i k hi hk
    obtain ⟨k, rfl⟩ : ∃ m, k = m + 1 := ⟨k - 1, by omega⟩
    have hil : i < l.length := by omega
    have hs := hl _ (List.getElem_mem hil)
    have e2 : wrap64 ((i : Int) + 1) = ((i + 1 : Nat) : Int) := by rw [w64 (by omega) (by omega)]; omega
    simp only [mummerref11_Check.l0, e2]
    rw [if_pos (by omega), one_f l i hil hb ⟨by omega, by omega⟩ k (by omega), Option.bind_some, List.drop_eq_getElem_cons hil, tgo]
    by_cases c : oneErr l i l[i] = 0
    · rw [if_pos c, if_pos c]; exact ih (i + 1) k (by omega) (by omega)
    · rw [if_neg c, if_neg c]
theorem refCheck_f (B : Nat) (hB : B ≤ 1099511627776) (l : List S24) (hl : TB B l) (k : Nat) (hk : 2 * l.length + B + 3 < k) (hb : l.length ≤ 1099511627776) : mummerref11_Check.f k l = some (tab l) := by
  unfold mummerref11_Check.f tab
  by_cases c : (l.length : Int) > 1000
  · rw [if_pos c, if_pos c]
  · rw [if_neg c, if_neg c]
    exact refCheck_l0 B hB l hl hb l.length 0 k (by omega) (by omega)
end Go.Proofs.Ytpjcahjpjeiicaa.P
namespace Go.Proofs.Ytpjcahjpjeiicaa.P
open Go.RowKit Go.Proofs.YtpjcahjpjeiicaaW.PrintWords Go.Proofs.YtpjcahjpjeiicaaW.PrintLast Sc
theorem pairAt_lt (s : ByteArray) (j : Nat) : pairAt s j < 65536 := by
  unfold pairAt
  have h1 := bt_range s ((2 * j : Nat) : Int); have h2 := bt_range s ((2 * j + 1 : Nat) : Int); omega
theorem bs_inj {x y : Int} (hx : 0 ≤ x ∧ x < 65536) (hy : 0 ≤ y ∧ y < 65536) (h : bs x = bs y) : x = y := by
  simp only [bs, List.cons.injEq, and_true] at h
  have h1 := congrArg UInt8.toNat h.1
  have h2 := congrArg UInt8.toNat h.2
  rw [UInt8.toNat_ofNat', UInt8.toNat_ofNat'] at h1 h2
  omega
theorem ofP_one {x y : Int} (hx : 0 ≤ x ∧ x < 65536) (hy : 0 ≤ y ∧ y < 65536) : ((ofP [x]).toList = (ofP [y]).toList) ↔ x = y := by
  constructor
  · intro h
    rw [ofP_toList, ofP_toList] at h
    exact bs_inj hx hy (by simpa using h)
  · rintro rfl; rfl
theorem pairs_InS (s : ByteArray) (n : Nat) : InS (pairs s n) := by
  intro x hx
  obtain ⟨j, _, rfl⟩ := List.mem_map.1 hx
  exact ⟨pairAt_nonneg _ _, pairAt_lt _ _⟩
theorem get_drop_take (l : List Int) (j : Nat) (h : j < l.length) : (l.take (j + 1)).drop j = [l[j]] := by
  rw [List.take_succ_eq_append_getElem h, List.drop_append_of_le_length (by simp; omega), List.drop_eq_nil_of_le (by simp; omega)]; rfl
theorem erase_at (l : List Int) (j : Nat) (x : Int) (h : j < l.length) (hx : l[j] = x) (hn : x ∉ l.take j) : l.erase x = l.take j ++ l.drop (j + 1) := by
  have e : l = l.take j ++ x :: l.drop (j + 1) := by rw [← hx, ← List.drop_eq_getElem_cons h, List.take_append_drop]
  rw [show l.erase x = (l.take j ++ x :: l.drop (j + 1)).erase x by rw [← e], List.erase_append_right _ hn, List.erase_cons_head]
theorem without_l0 (l : List Int) (x : Int) (hl : InS l) (hx : 0 ≤ x ∧ x < 65536) (hb : l.length ≤ 1099511627776) : ∀ (d j k : Nat), j + d = l.length → d < k → x ∉ l.take j →
    mummerref09_without.l0 k (ofP l) (ofP [x]) ((2 * j : Nat) : Int) = some (ofP (l.erase x)) := by
  intro d
  induction d with
  | zero =>
    intro j k hj hk hn
    obtain ⟨k, rfl⟩ : ∃ m, k = m + 1 := ⟨k - 1, by omega⟩
    simp only [mummerref09_without.l0, ofP_size]
    rw [if_neg (by omega)]
    have : x ∉ l := by rwa [show j = l.length by omega, List.take_length] at hn
    rw [List.erase_of_not_mem this]
  | succ d ih =>
    intro j k hj hk hn
    obtain ⟨k, rfl⟩ : ∃ m, k = m + 1 := ⟨k - 1, by omega⟩
    have hjl : j < l.length := by omega
    have e2 : wrap64 (((2 * j : Nat) : Int) + 2) = ((2 * (j + 1) : Nat) : Int) := by rw [w64 (by omega) (by omega)]; omega
    simp only [mummerref09_without.l0, ofP_size, e2, Int.toNat_natCast]
    rw [if_pos (by omega), if_pos (by omega), if_pos (by omega), if_pos (by omega), ofP_extract, get_drop_take l j hjl]
    by_cases hc : l[j] = x
    · have e0 : (ofP l).extract 0 (2 * j) = ofP (l.take j) := by have := ofP_extract l 0 j; simpa using this
      have e1 : (ofP l).extract (2 * (j + 1)) (2 * l.length) = ofP (l.drop (j + 1)) := by rw [ofP_extract, List.take_length]
      rw [if_pos ((ofP_one (hl _ (List.getElem_mem hjl)) hx).2 hc), if_pos (by omega), if_pos (by omega), e0, e1, if_pos (by rw [ofP_size, ofP_size]; simp; omega), ofP_append, erase_at l j x hjl hc hn]
    · rw [if_neg (fun h => hc ((ofP_one (hl _ (List.getElem_mem hjl)) hx).1 h))]
      refine ih (j + 1) k (by omega) (by omega) ?_
      rw [List.take_succ_eq_append_getElem hjl]
      intro h
      rcases List.mem_append.1 h with h | h
      · exact hn h
      · exact hc (by simpa using (List.mem_singleton.1 h).symm)
theorem without_f (l : List Int) (x : Int) (hl : InS l) (hx : 0 ≤ x ∧ x < 65536) (hb : l.length ≤ 1099511627776) (k : Nat) (hk : l.length < k) : mummerref09_without.f k (ofP l) x = some (ofP (l.erase x)) := by
  unfold mummerref09_without.f mummerref09_bytes.f
  rw [strOf_bs x hx, Option.bind_some]
  exact without_l0 l x hl hx hb l.length 0 k (by omega) hk (by simp)
theorem ids_l0 (s : ByteArray) (he : s.size % 2 = 0) (hb : s.size ≤ 1099511627776) : ∀ (d j k : Nat), j + d = s.size / 2 → d < k →
    mummerref09_ids.l0 k s (pairs s j) ((2 * j : Nat) : Int) = some (pairs s (s.size / 2)) := by
  intro d
  induction d with
  | zero =>
    intro j k hj hk
    obtain ⟨k, rfl⟩ : ∃ m, k = m + 1 := ⟨k - 1, by omega⟩
    simp only [mummerref09_ids.l0]
    rw [if_neg (by omega), show j = s.size / 2 by omega]
  | succ d ih =>
    intro j k hj hk
    obtain ⟨k, rfl⟩ : ∃ m, k = m + 1 := ⟨k - 1, by omega⟩
    have e1 : wrap64 (((2 * j : Nat) : Int) + 1) = ((2 * j + 1 : Nat) : Int) := by rw [w64 (by omega) (by omega)]; omega
    have e2 : wrap64 (((2 * j : Nat) : Int) + 2) = ((2 * (j + 1) : Nat) : Int) := by rw [w64 (by omega) (by omega)]; omega
    simp only [mummerref09_ids.l0, e1, e2]
    have r1 := bt_range s ((2 * j : Nat) : Int); have r2 := bt_range s ((2 * j + 1 : Nat) : Int)
    rw [if_pos (by omega), if_pos (by omega), if_pos (by omega), if_pos (by omega), if_pos (by rw [pairs_length]; omega)]
    rw [w64 (n := bt s ((2 * j : Nat) : Int)) (by omega) (by omega), w64 (n := bt s ((2 * j + 1 : Nat) : Int)) (by omega) (by omega), w64 (n := 256 * bt s ((2 * j : Nat) : Int)) (by omega) (by omega), w64 (by omega) (by omega)]
    have := ih (j + 1) k (by omega) (by omega)
    rw [pairs_succ] at this
    have e3 : 256 * bt s ((2 * j : Nat) : Int) + bt s ((2 * j + 1 : Nat) : Int) = pairAt s j := by unfold pairAt; omega
    rw [e3]; exact this
theorem ids_f (s : ByteArray) (he : s.size % 2 = 0) (hb : s.size ≤ 1099511627776) (k : Nat) (hk : s.size / 2 < k) : mummerref09_ids.f k s = some (pairs s (s.size / 2)) :=
  ids_l0 s he hb (s.size / 2) 0 k (by omega) hk
theorem InS_erase {l : List Int} (h : InS l) (x : Int) : InS (l.erase x) := fun y hy => h y (List.mem_of_mem_erase hy)
theorem minus_l0 (m : List Int) (hm : InS m) (hmb : m.length ≤ 1099511627776) : ∀ (d j k : Nat) (l : List Int), InS l → l.length ≤ 1099511627776 → j + d = m.length → d + l.length < k →
    mummerref09_Minus.l0 k (ofP l) m (j : Int) = some (ofP ((m.drop j).foldl List.erase l), 0) := by
  intro d
  induction d with
  | zero =>
    intro j k l hl hlb hj hk
    obtain ⟨k, rfl⟩ : ∃ q, k = q + 1 := ⟨k - 1, by omega⟩
    simp only [mummerref09_Minus.l0]
    rw [if_neg (by omega), List.drop_eq_nil_of_le (by omega)]; rfl
  | succ d ih =>
    intro j k l hl hlb hj hk
    obtain ⟨k, rfl⟩ : ∃ q, k = q + 1 := ⟨k - 1, by omega⟩
    have hjl : j < m.length := by omega
    have e1 : rd m (j : Int) = m[j] := by simp [rd, hjl]
    have e2 : wrap64 ((j : Int) + 1) = ((j + 1 : Nat) : Int) := by rw [w64 (by omega) (by omega)]; omega
    simp only [mummerref09_Minus.l0, e1, e2]
    rw [if_pos (by omega), if_pos (by omega), without_f l m[j] hl (hm _ (List.getElem_mem hjl)) hlb k (by omega), Option.bind_some]
    have hle := List.length_erase_le (a := m[j]) (l := l)
    rw [ih (j + 1) k (l.erase m[j]) (InS_erase hl _) (by omega) (by omega) (by omega), List.drop_eq_getElem_cons hjl, List.foldl_cons]
theorem P_InS (s : ByteArray) : InS (P s) := pairs_InS s _
theorem Asc.nodup {l : List Int} (h : Asc l) : l.Nodup := h.imp fun hab => by omega
theorem mem_foldl_erase (x : Int) : ∀ (m l : List Int), l.Nodup → (x ∈ m.foldl List.erase l ↔ x ∈ l ∧ x ∉ m)
  | [], l, _ => by simp
  | y :: m, l, h => by
    rw [List.foldl_cons, mem_foldl_erase x m (l.erase y) (h.erase y), h.mem_erase_iff]
    simp; grind
theorem foldl_erase_nil (m l : List Int) (h : l.Nodup) : (m.foldl List.erase l = []) ↔ ∀ x ∈ l, x ∈ m := by
  rw [List.eq_nil_iff_forall_not_mem]
  constructor
  · intro hn x hx
    by_cases hm : x ∈ m
    · exact hm
    · exact absurd ((mem_foldl_erase x m l h).2 ⟨hx, hm⟩) (hn x)
  · intro hs x hx
    obtain ⟨h1, h2⟩ := (mem_foldl_erase x m l h).1 hx
    exact h2 (hs x h1)
theorem ofP_nil_iff (l : List Int) : ((ofP l).toList = []) ↔ l = [] := by
  rw [ofP_toList]
  cases l with
  | nil => simp
  | cons x r => simp [bs]
theorem refSub_f (a b : ByteArray) (ha : a.size ≤ 1099511627776) (hb : b.size ≤ 1099511627776) (k : Nat) (hk : a.size + b.size < k) : mummerref09_Sub.f k a b = some (subSpec a b) := by
  unfold mummerref09_Sub.f mummerref09_Minus.f mummerref09_two.f subSpec
  rw [check_f a (by omega) k (by omega), Option.bind_some]
  by_cases c1 : chk a = 0
  · rw [if_pos c1, if_pos c1, check_f b (by omega) k (by omega), Option.bind_some, Option.bind_some]
    by_cases c2 : chk b = 0
    · rw [if_pos c2, if_pos c2, ids_f b (chk_even c2) hb k (by omega), Option.bind_some]
      have hla := P_length a; have hlb := P_length b
      have hm := minus_l0 (P b) (P_InS b) (by omega) (P b).length 0 k (P a) (P_InS a) (by omega) (by omega) (by omega)
      rw [← ofP_P c1] at hm
      rw [show pairs b (b.size / 2) = P b from rfl, show ((0 : Nat) : Int) = 0 from rfl] at *
      rw [hm, Option.bind_some]
      simp only [if_true, List.drop_zero]
      have hs : (((ofP ((P b).foldl List.erase (P a))).toList == ([] : List UInt8)) : Bool) = subset a b := by
        rw [Bool.eq_iff_iff, beq_iff_eq, ofP_nil_iff, foldl_erase_nil _ _ (chk_asc c1).nodup, subset_iff]
      rw [hs]
    · rw [if_neg c2, if_neg c2]
      simp [c2]
  · rw [if_neg c1, if_neg c1]
    simp [c1]
end Go.Proofs.Ytpjcahjpjeiicaa.P
namespace Go.Proofs.Ytpjcahjpjeiicaa.P
open Go.RowKit Go.Proofs.YtpjcahjpjeiicaaW.PrintWords Go.Proofs.YtpjcahjpjeiicaaW.PrintLast Sc
theorem rCand_l0 (B : Nat) (hB : B ≤ 1099511627776) (l : List S24) (hl : TB B l) (hb : l.length ≤ 1099511627776) (name set : ByteArray) (hs : set.size ≤ B) : ∀ (d j k : Nat), j + d = l.length → d + 2 * B + 1 < k →
    mummerref11_candidates.l0 k l name set (cands l name set j) (j : Int) = some (cands l name set l.length) := by
  intro d
  induction d with
  | zero =>
    intro j k hj hk
    obtain ⟨k, rfl⟩ : ∃ m, k = m + 1 := ⟨k - 1, by omega⟩
    simp only [mummerref11_candidates.l0]
    rw [if_neg (by omega), show j = l.length by omega]
  | succ d ih =>
    intro j k hj hk
    obtain ⟨k, rfl⟩ : ∃ m, k = m + 1 := ⟨k - 1, by omega⟩
    have hjl : j < l.length := by omega
    have hsz := hl _ (List.getElem_mem hjl)
    have e2 : wrap64 ((j : Int) + 1) = ((j + 1 : Nat) : Int) := by rw [w64 (by omega) (by omega)]; omega
    simp only [mummerref11_candidates.l0, rdT l j hjl, e2]
    rw [if_pos (by omega), if_pos (by omega), refSub_f _ _ (by omega) (by omega) k (by omega), Option.bind_some]
    have hn := ih (j + 1) k (by omega) (by omega)
    rw [cands_succ, cnd_at l name set j hjl] at hn
    have hlen := cands_length l name set j
    by_cases c1 : l[j].f0.toList = name.toList
    · rw [if_pos c1]
      by_cases c2 : (subSpec l[j].f1 set).1 = true
      · rw [if_pos c2, if_pos (by omega)]
        simpa [c1, c2] using hn
      · rw [if_neg c2]
        simpa [c1, c2] using hn
    · rw [if_neg c1]
      simpa [c1] using hn
theorem asked_f (B : Nat) (hB : B ≤ 1099511627776) (l : List S24) (hl : TB B l) (hb : l.length ≤ 1099511627776) (set : ByteArray) (hs : set.size ≤ B) (k : Nat) (hk : 2 * l.length + B + 3 < k) :
    mummerref11_asked.f k l set = some (askSpec l set) := by
  unfold mummerref11_asked.f askSpec
  rw [refCheck_f B hB l hl k hk hb, Option.bind_some]
  by_cases c1 : (tab l).2 = 0
  · rw [if_pos c1, if_pos c1, check_f set (by omega) k (by omega), Option.bind_some]
  · rw [if_neg c1, if_neg c1]
theorem rRes (B : Nat) (hB : B ≤ 1099511627776) (l : List S24) (hl : TB B l) (C : List Int) (hC : InT l C) (hb : C.length ≤ 1099511627776) : ∀ (d i : Nat), i + d = C.length →
    (∀ k, d * (C.length + 3) + 2 * B + 1 < k → mummerref11_Resolve.l0 k l C (i : Int) = some (findTop l C (C.drop i))) := by
  intro d
  induction d with
  | zero =>
    intro i hi k hk
    obtain ⟨k, rfl⟩ : ∃ m, k = m + 1 := ⟨k - 1, by omega⟩
    simp only [mummerref11_Resolve.l0]
    rw [if_neg (by omega), List.drop_eq_nil_of_le (by omega), findTop]
    by_cases c : (C.length : Int) > 0
    · rw [if_pos c, if_pos c]
    · rw [if_neg c, if_neg c]
  | succ d ih =>
    intro i hi k hk
    have hil : i < C.length := by omega
    rw [Nat.succ_mul] at hk
    generalize d * (C.length + 3) = M at hk ih
    have inner : ∀ (e j k : Nat) (acc : Bool), j + e = C.length → e + M + 2 * B + 2 < k →
        mummerref11_Resolve.l1 k l C (i : Int) acc (j : Int) = some (if (acc && (C.drop j).all (fun x => subT l x C[i])) = true then (C[i], 0) else findTop l C (C.drop (i + 1))) := by
      intro e
      induction e with
      | zero =>
        intro j k acc hj hk
        obtain ⟨k, rfl⟩ : ∃ m, k = m + 1 := ⟨k - 1, by omega⟩
        have e1 : rd C (i : Int) = C[i] := by simp [rd, hil]
        simp only [mummerref11_Resolve.l1, e1, wnext i (by omega)]
        rw [if_neg (by omega), show C.drop j = [] from List.drop_eq_nil_of_le (by omega)]
        cases acc with
        | true => rw [if_pos rfl, if_pos (by omega), if_pos (by omega), if_pos (by simp)]
        | false =>
          rw [if_neg (by decide)]
          simp only [List.all_nil, Bool.and_true, Bool.false_eq_true, if_false]
          exact ih (i + 1) (by omega) k (by omega)
      | succ e ihe =>
        intro j k acc hj hk
        obtain ⟨k, rfl⟩ : ∃ m, k = m + 1 := ⟨k - 1, by omega⟩
        have hjl : j < C.length := by omega
        have e1 : rd C (i : Int) = C[i] := by simp [rd, hil]
        have e3 : rd C (j : Int) = C[j] := by simp [rd, hjl]
        have b1 := hC _ (List.getElem_mem hil); have b2 := hC _ (List.getElem_mem hjl)
        have s1 := TB_rd hl b1; have s2 := TB_rd hl b2
        simp only [mummerref11_Resolve.l1, e1, wnext j (by omega), e3]
        rw [if_pos (by omega), if_pos (by omega), if_pos b2.1, if_pos b2.2, if_pos (by omega), if_pos (by omega), if_pos b1.1, if_pos b1.2, refSub_f _ _ (by omega) (by omega) k (by omega), Option.bind_some, List.drop_eq_getElem_cons hjl, List.all_cons]
        cases acc with
        | true =>
          rw [if_pos rfl, ihe (j + 1) k _ (by omega) (by omega)]
          simp [subT]
        | false =>
          rw [if_neg (by decide), ihe (j + 1) k _ (by omega) (by omega)]
          simp
    obtain ⟨k, rfl⟩ : ∃ m, k = m + 1 := ⟨k - 1, by omega⟩
    simp only [mummerref11_Resolve.l0]
    have h0 := inner C.length 0 k true (by omega) (by omega)
    rw [show ((0 : Nat) : Int) = 0 from rfl] at h0
    rw [if_pos (by omega), h0, List.drop_eq_getElem_cons hil, findTop]
    simp [top]
theorem rResolve_f (B : Nat) (hB : B ≤ 1099511627776) (l : List S24) (hl : TB B l) (hb : l.length ≤ 2000) (name set : ByteArray) (hs : set.size ≤ B) (k : Nat) (hk : 5000000 + 2 * B < k) :
    mummerref11_Resolve.f k l name set = some (resSpec l name set) := by
  unfold mummerref11_Resolve.f resSpec
  rw [asked_f B hB l hl (by omega) set hs k (by omega), Option.bind_some]
  by_cases c : askSpec l set = 0
  · rw [if_pos c, if_pos c]
    unfold mummerref11_candidates.f
    have h0 := rCand_l0 B hB l hl (by omega) name set hs l.length 0 k (by omega) (by omega)
    rw [show cands l name set 0 = [] from rfl, show ((0 : Nat) : Int) = 0 from rfl] at h0
    rw [h0, Option.bind_some]
    have hlen := cands_length l name set l.length
    have hm : (cands l name set l.length).length * ((cands l name set l.length).length + 3) ≤ 2000 * 2003 := Nat.mul_le_mul (by omega) (by omega)
    have := rRes B hB l hl _ (cands_InT l name set) (by omega) (cands l name set l.length).length 0 (by omega) k (by omega)
    rw [show ((0 : Nat) : Int) = 0 from rfl, List.drop_zero] at this
    exact this
  · rw [if_neg c, if_neg c]
end Go.Proofs.Ytpjcahjpjeiicaa.P
namespace Go.Proofs.Ytpjcahjpjeiicaa.P
open Go.RowKit Go.Proofs.YtpjcahjpjeiicaaW.PrintWords Go.Proofs.YtpjcahjpjeiicaaW.PrintLast Sc
theorem rSame_f (B : Nat) (hB : B ≤ 1099511627776) (l : List S24) (hl : TB B l) (hb : l.length ≤ 2000) (an sa bn sb : ByteArray) (p q p' q' : Int) (ha : sa.size ≤ B) (hb' : sb.size ≤ B) (k : Nat) (hk : 5000003 + 2 * B < k) :
    mummerref11_Same.f k l an sa p q bn sb p' q' = some (sameSpec l an sa bn sb) := by
  unfold mummerref11_Same.f sameSpec
  rw [asked_f B hB l hl (by omega) sa ha k (by omega), Option.bind_some]
  obtain ⟨k, rfl⟩ : ∃ m, k = m + 2 := ⟨k - 2, by omega⟩
  by_cases c1 : askSpec l sa = 0
  · rw [if_pos c1, if_pos c1, asked_f B hB l hl (by omega) sb hb' _ (by omega), Option.bind_some]
    simp only [mummerref11_Same.j0]
    by_cases c2 : askSpec l sb = 0
    · rw [if_pos c2, if_pos c2, rResolve_f B hB l hl hb an sa ha _ (by omega), Option.bind_some, rResolve_f B hB l hl hb bn sb hb' _ (by omega), Option.bind_some]
      unfold same2
      simp only [mummerref11_Same.j1]
      by_cases d1 : (resSpec l an sa).2 = 11
      · rw [if_pos d1, if_pos d1, if_pos trivial]
      · rw [if_neg d1, if_neg d1]
        by_cases d2 : (resSpec l bn sb).2 = 11
        · rw [if_pos d2, if_pos (by simp [d2])]
        · rw [if_neg d2, if_neg (by simp [d2])]
          split
          · split
            · rfl
            · split <;> rfl
          · split <;> rfl
    · rw [if_neg c2, if_neg c2]
  · rw [if_neg c1, if_neg c1]
    simp only [mummerref11_Same.j0]
    rw [if_neg c1]
def ofB (l : List S24) (w r : Int) (n : Nat) : List Int := ((List.range n).filter fun i => decide ((l.getD i z24).f2 = w) && decide ((l.getD i z24).f3 = r)).map fun (i : Nat) => (i : Int)
theorem ofB_succ (l : List S24) (w r : Int) (n : Nat) (h : n < l.length) : ofB l w r (n + 1) = ofB l w r n ++ (if l[n].f2 = w then (if l[n].f3 = r then [(n : Int)] else []) else []) := by
  unfold ofB
  rw [List.range_succ, List.filter_append, List.map_append]
  have e : l.getD n z24 = l[n] := by simp [h]
  by_cases c : l[n].f2 = w <;> by_cases c' : l[n].f3 = r <;> simp [c, c', h]
theorem ofB_length (l : List S24) (w r : Int) (n : Nat) : (ofB l w r n).length ≤ n := by
  unfold ofB
  rw [List.length_map]
  exact Nat.le_trans (List.length_filter_le _ _) (by simp)
theorem bOf_l0 (l : List S24) (w r : Int) (hb : l.length ≤ 1099511627776) : ∀ (d j k : Nat), j + d = l.length → d < k → binds_Of.l0 k w r (ofB l w r j) l (l.length : Int) (j : Int) = some (ofB l w r l.length, 0) := by
  intro d
  induction d with
  | zero =>
    intro j k hj hk
    obtain ⟨k, rfl⟩ : ∃ m, k = m + 1 := ⟨k - 1, by omega⟩
    simp only [binds_Of.l0]
    rw [if_neg (by omega), show j = l.length by omega]
  | succ d ih =>
    intro j k hj hk
    obtain ⟨k, rfl⟩ : ∃ m, k = m + 1 := ⟨k - 1, by omega⟩
    have hjl : j < l.length := by omega
    have hlen := ofB_length l w r j
    have hn := ih (j + 1) k (by omega) (by omega)
    rw [ofB_succ l w r j hjl] at hn
    simp only [binds_Of.l0, rdT l j hjl, wnext j (by omega)]
    rw [if_pos (by omega), if_pos (by omega), if_pos (by omega)]
    by_cases c : l[j].f2 = w
    · rw [if_pos c]; rw [if_pos c] at hn
      by_cases c' : l[j].f3 = r
      · rw [if_pos c', if_pos (by omega)]; rw [if_pos c'] at hn; exact hn
      · rw [if_neg c']; rw [if_neg c', List.append_nil] at hn; exact hn
    · rw [if_neg c]; rw [if_neg c, List.append_nil] at hn; exact hn
theorem rOf_l0 (l : List S24) (w r : Int) (hb : l.length ≤ 1099511627776) : ∀ (d j k : Nat), j + d = l.length → d < k → mummerref11_Of.l0 k l w r (ofB l w r j) (j : Int) = some (ofB l w r l.length, 0) := by
  intro d
  induction d with
  | zero =>
    intro j k hj hk
    obtain ⟨k, rfl⟩ : ∃ m, k = m + 1 := ⟨k - 1, by omega⟩
    simp only [mummerref11_Of.l0]
    rw [if_neg (by omega), show j = l.length by omega]
  | succ d ih =>
    intro j k hj hk
    obtain ⟨k, rfl⟩ : ∃ m, k = m + 1 := ⟨k - 1, by omega⟩
    have hjl : j < l.length := by omega
    have hlen := ofB_length l w r j
    have hn := ih (j + 1) k (by omega) (by omega)
    rw [ofB_succ l w r j hjl] at hn
    simp only [mummerref11_Of.l0, rdT l j hjl, wnext j (by omega)]
    rw [if_pos (by omega), if_pos (by omega)]
    by_cases c : l[j].f2 = w
    · rw [if_pos c]; rw [if_pos c] at hn
      by_cases c' : l[j].f3 = r
      · rw [if_pos c', if_pos (by omega)]; rw [if_pos c'] at hn; exact hn
      · rw [if_neg c']; rw [if_neg c', List.append_nil] at hn; exact hn
    · rw [if_neg c]; rw [if_neg c, List.append_nil] at hn; exact hn
def ofT (l : List S24) (w r : Int) : List Int × Int := if (tab l).2 = 0 then (ofB l w r l.length, 0) else ([], (tab l).2)
theorem bOf_f (l : List S24) (hl : TB 1099511627776 l) (w r : Int) (hb : l.length ≤ 1099511627776) (k : Nat) (hk : l.length < k) : binds_Of.f k l w r = some (ofT l w r) := by
  unfold binds_Of.f ofT
  rw [bindsCheck_f l hl, Option.bind_some]
  split
  · exact bOf_l0 l w r hb l.length 0 k (by omega) hk
  · rfl
theorem rOf_f (B : Nat) (hB : B ≤ 1099511627776) (l : List S24) (hl : TB B l) (w r : Int) (hb : l.length ≤ 1099511627776) (k : Nat) (hk : 2 * l.length + B + 3 < k) : mummerref11_Of.f k l w r = some (ofT l w r) := by
  unfold mummerref11_Of.f ofT
  rw [refCheck_f B hB l hl k hk hb, Option.bind_some]
  split
  · exact rOf_l0 l w r hb l.length 0 k (by omega) (by omega)
  · rfl
theorem law_same (l : List S24) (a b : S24) : ∃ k, mummerlaw11_BindsSame.f k l a.f0 a.f1 a.f2 a.f3 b.f0 b.f1 b.f2 b.f3 = some true := by
  refine ⟨7000000, ?_⟩
  unfold mummerlaw11_BindsSame.f
  rw [far_f l _ (by simp) 7000000 (by simp), Option.bind_some]
  have ha := awake_f 7000000 (by decide)
  by_cases c : farB l [a.f0, a.f1, b.f0, b.f1] = true
  · rw [if_pos c, ha]; rfl
  · obtain ⟨h1, h2, h3⟩ := far_no (Bool.eq_false_iff.2 c)
    have hlen : (ofT l a.f2 a.f3).1.length ≤ l.length := by
      unfold ofT
      split
      · exact ofB_length l _ _ _
      · simp
    rw [if_neg c, bSame_f 150 (by decide) l h2 (by omega) _ _ _ _ _ _ _ _ (h3 _ (by simp)) (h3 _ (by simp)) _ (by omega), Option.bind_some,
      rSame_f 150 (by decide) l h2 (by omega) _ _ _ _ _ _ _ _ (h3 _ (by simp)) (h3 _ (by simp)) _ (by omega), Option.bind_some,
      bOf_f l (fun x hx => ⟨by have := (h2 x hx).1; omega, by have := (h2 x hx).2; omega⟩) _ _ (by omega) _ (by omega), Option.bind_some,
      rOf_f 150 (by decide) l h2 _ _ (by omega) _ (by omega), Option.bind_some, if_pos (by simp), if_pos rfl, ints_f _ (by omega) _ (by omega), Option.bind_some, if_pos rfl, if_pos rfl, ha]
    rfl
end Go.Proofs.Ytpjcahjpjeiicaa.P
