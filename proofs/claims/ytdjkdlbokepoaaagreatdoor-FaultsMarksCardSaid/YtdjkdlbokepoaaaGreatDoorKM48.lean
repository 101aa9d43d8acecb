import Derived.Test.YtdjkdlbokepoaaaGreatDoorKM36
import Derived.Test.YtdjkdlbokepoaaaGreatDoorKM37
namespace Go.Proofs.YtdjkdlbokepoaaaGreatDoor.P
open Go.RowKit Go.Proofs.YtdjkdlbokepoaaaGreatDoorW.PrintWords Go.Proofs.YtdjkdlbokepoaaaGreatDoorW.PrintLast Go.Proofs.YtdjkdlbokepoaaaGreatDoorW.PrintMore
attribute [local go_sem] max2_int min2_int max_two min_two max_three min_three max_four min_four   -- for this text's walks alone
set_option linter.unusedVariables false
set_option linter.unusedSimpArgs false
def mummerref02_Starts.l0 : Nat → List Int → List Int → Int → Option (List Int × Int)
  | 0, _, _, _ => none
  | k + 1, x0, x6, x7 => if x7 < (x0.length : Int) then (if x6.length < 17592186044416 then ((mummerref02_Decode.f k x0 x7).bind fun bt219 => (mummerref02_Starts.l0 k x0 (x6 ++ [x7]) (wrap64 (x7 + bt219.2.1)))) else (none)) else (if x6.length < 17592186044416 then (some ((x6 ++ [x7]), 0)) else (none))
def mummerref02_Starts.f (k : Nat) (l0 : List Int) : Option (List Int × Int) := (mummerref02_Check.f k l0).bind fun bt214 => (if bt214.2 = 0 then (mummerref02_Starts.l0 k l0 ([] : List Int) 0) else (some (([] : List Int), bt214.2)))
set_option maxHeartbeats 8000000 in
set_option maxRecDepth 100000 in
theorem mummerref02_Starts.calls (k : Nat) (A0 : Option Addr) (c0 : Nat) (l0 : List Int) (r1 : List Int) (r2 : Int) (w : World) (hr0 : Kd.C (Kd.int .u8) w A0 l0.length l0) (hc0 : l0.length ≤ c0) (h : mummerref02_Starts.f k l0 = some (r1, r2)) :
    Calls Tryz.prog 25 #[.slice A0 l0.length c0] w fun e w' => ∃ v0_ : Value, e = .returned (.tuple #[v0_, .int .i64 r2]) ∧ Kd.R (Kd.int .i64) 3 w' w.heap.size (fun _ => True) v0_ r1 ∧ Below w.heap.size w w' := by
  have HR0 := ak hr0
  have HC0 := ak hc0
  clear hr0 hc0
  have HB := ak (Below.refl w.heap.size w)
  have H : ((mummerref02_Check.f k l0).bind fun bt214 => (if bt214.2 = 0 then (mummerref02_Starts.l0 k l0 ([] : List Int) 0) else (some (([] : List Int), bt214.2)))) = some (r1, r2) := h
  clear h
  replace H := Option.bind_eq_some_iff.mp H
  obtain ⟨⟨t214, t215⟩, A20, H⟩ := H
  replace H : (if t215 = 0 then (mummerref02_Starts.l0 k l0 ([] : List Int) 0) else (some (([] : List Int), t215))) = some (r1, r2) := H
  have A2 := ak A20
  clear A20
  by_cases c3 : t215 = 0
  · rw [if_pos c3] at H
    have c3b0 : (t215 == 0) = true := beq_iff_eq.mpr c3
    have c3b1 : (t215 != 0) = false := bne_eq_false_iff_eq.mpr c3
    clear c3
    have H' := ak H
    clear H
    go_enter Tryz.func25, Tryz.ntmps25
    go_wp2_with (first | ((with_reducible refine gate_callee (f := 50) rfl ?_); refine goesL_ (some 13) rfl rfl Tryz.func50 (by kernel_rfl) rfl #[.slice A0 l0.length c0] rfl (by (try simp only [List.map_toArray, List.map_cons, List.map_nil]); first | done | rfl | (simp only [List.length_drop, List.length_take]; rfl)) ?_; (with_reducible refine (mummerref02_Check.calls k _ _ l0 t214 t215 _ ?side1 ?side2 A2.out).mono ?_); (case side1 => repeat (first | exact HR0.out | (with_reducible refine Kd.C_alloc ?_ _) | (with_reducible refine Kd.C_drewN ?_ _) | (with_reducible refine Kd.C_drew ?_))); (case side2 => exact HC0.out); rintro e w4 ⟨rfl, hb⟩; refine ⟨_, rfl, ?_⟩; have n0_ := ak (below_step (by repeat (first | (with_reducible first | exact HB.out | apply wA | apply wN | apply wD) | exact HB.out)) hb); clear HB; have HB := n0_; clear n0_; (try clear hb); (try clear hb2); (try clear hk); (try clear hi)))
    go_loopg [6, 7] k (fun kq v6 v7 w' => ∃ (x6_1 : List Int) (x7_1 : Int), v7 = .int .i64 x7_1 ∧ Aside0 (mummerref02_Starts.l0 kq l0 x6_1 x7_1 = some (r1, r2)) ∧ Aside0 (kq ≤ k) ∧ Aside0 (Kd.R (Kd.int .i64) 3 w' w.heap.size (fun _ => True) v6 x6_1) ∧ Aside0 (Below w.heap.size w w'))
    case atStart => exact ⟨(([] : List Int)), (0), (by first | rfl | (simp; done) | (simp [*]; done)), H', ⟨Nat.le_refl _⟩, ⟨by first | exact Kd.R_nil _ _ _ _ _ | exact Kd.N_nil _ _ _ _ _ | exact Kd.V_nil _ _ _ _ _ | exact Kd.Q_nil _ _ _ _ _ | exact Kd.S_nil _ _ _ _ _⟩, ⟨by repeat (first | (with_reducible first | exact HB.out | apply wA | apply wN | apply wD) | exact HB.out)⟩⟩
    case round =>
      clear H'
      try clear c2
      try clear p2
      try clear c3
      try clear c3b0
      try clear c3b1
      obtain ⟨x6_1, x7_1, rfl, HA, HK1, HO_6, HB⟩ := hrel
      cases gk with
      | zero => exact absurd HA.out (by simp [mummerref02_Starts.l0])
      | succ k1 =>
        have H := HA.out
        clear HA
        simp only [mummerref02_Starts.l0] at H
        by_cases c5 : x7_1 < (l0.length : Int)
        · rw [if_pos c5] at H
          have c5b0 : decide (x7_1 < (l0.length : Int)) = true := decide_eq_true c5
          clear c5
          by_cases c6 : x6_1.length < 17592186044416
          · rw [if_pos c6] at H
            have LMc6 := ak c6
            clear c6
            obtain ⟨y216, hy216⟩ : ∃ y_ : List Int, y_ = (x6_1 ++ [x7_1]) := ⟨_, rfl⟩
            replace H : ((mummerref02_Decode.f k1 l0 x7_1).bind fun bt219 => (mummerref02_Starts.l0 k1 l0 y216 (wrap64 (x7_1 + bt219.2.1)))) = some (r1, r2) := by first | (rw [hy216]; with_reducible exact H) | (have H2_ := (Option.bind_some _ _).symm.trans H; rw [hy216]; with_reducible exact H2_) | (have H2_ := (Option.bind_some _ _).symm.trans H; with_reducible exact H2_) | with_reducible exact H | (rw [hy216]; exact H) | exact H
            have Ny216 := ak hy216
            clear hy216
            replace H := Option.bind_eq_some_iff.mp H
            obtain ⟨⟨t219, t220, t221⟩, A70, H⟩ := H
            replace H : (mummerref02_Starts.l0 k1 l0 y216 (wrap64 (x7_1 + t220))) = some (r1, r2) := H
            have A7 := ak A70
            clear A70
            have H' := ak H
            clear H
            go_wp2_with (first | ((with_reducible refine gate_builtin (b := .append) (xs := #[.tmp 23, .tmp 25]) rfl ?_); at_builtin; refine Kd.R_append (Kd.int .i64) (w0 := w) w.heap.size rfl (.tmp 23) (.tmp 25) 43 3 (.int .i64 0) 8 rfl Tryz.underlying43 info3 rfl (by decide) (by omega) u6 x6_1 x7_1 [.int .i64 x7_1] (fun _ => True) (fun _ => False) rfl rfl ?aP (fun _ hk => hk.elim) ?aF ?aO ?aB ?aS ?aL ?_; (case aP => exact rfl); (case aB => exact (by repeat (first | (with_reducible first | exact HB.out | apply wA | apply wN | apply wD) | exact HB.out))); (case aF => exact (fun _ _ => trivial)); (case aO => exact (by (with_reducible repeat (first | apply Kd.R_alloc | apply Kd.R_drewN | apply Kd.R_drew)); exact HO_6.out)); (case aS => exact (below_size (by repeat (first | (with_reducible first | exact HB.out | apply wA | apply wN | apply wD) | exact HB.out)))); (case aL => have := LMc6.out; omega); intro v217 w8 ho hb hg hat; rw [← Ny216.out] at ho; have n0_ := ak (hb); have n1_ := ak (ho); clear HB; clear HO_6; have HB := n0_; have HO218 := n1_; clear n0_ n1_; clear ho hb hg hat) | ((with_reducible refine gate_callee (f := 60) rfl ?_); refine goesL_ (some 30) rfl rfl Tryz.func60 (by kernel_rfl) rfl #[.slice A0 l0.length c0, .int .i64 x7_1] rfl (by (try simp only [List.map_toArray, List.map_cons, List.map_nil]); first | done | rfl | (simp only [List.length_drop, List.length_take]; rfl)) ?_; (with_reducible refine (mummerref02_Decode.calls k1 _ _ l0 x7_1 t219 t220 t221 _ ?side1 ?side2 A7.out).mono ?_); (case side1 => repeat (first | exact (Kd.C_below HR0.out HB.out) | (with_reducible refine Kd.C_alloc ?_ _) | (with_reducible refine Kd.C_drewN ?_ _) | (with_reducible refine Kd.C_drew ?_))); (case side2 => exact HC0.out); rintro e w9 ⟨rfl, hb⟩; refine ⟨_, rfl, ?_⟩; have n0_ := ak (Kd.R_below (by (with_reducible repeat (first | apply Kd.R_alloc | apply Kd.R_drewN | apply Kd.R_drew)); exact HO218.out) hb); have n1_ := ak (below_step (by repeat (first | (with_reducible first | exact HB.out | apply wA | apply wN | apply wD) | exact HB.out)) hb); clear HO218; clear HB; have HO218 := n0_; have HB := n1_; clear n0_ n1_; (try clear hb); (try clear hb2); (try clear hk); (try clear hi)))
            go_roundg k1
            case measure => have := HK1.out; omega
            case rel => exact ⟨(y216), (wrap64 (x7_1 + t220)), (by first | rfl | (simp; done) | (simp [*]; done)), H', ⟨by have := HK1.out; omega⟩, ⟨by (with_reducible repeat (first | apply Kd.R_alloc | apply Kd.R_drewN | apply Kd.R_drew)); exact HO218.out⟩, ⟨by repeat (first | (with_reducible first | exact HB.out | apply wA | apply wN | apply wD) | exact HB.out)⟩⟩
          · rw [if_neg c6] at H
            exact absurd H (by simp)
        · rw [if_neg c5] at H
          have c5b0 : decide (x7_1 < (l0.length : Int)) = false := decide_eq_false c5
          clear c5
          by_cases c10 : x6_1.length < 17592186044416
          · rw [if_pos c10] at H
            have LMc10 := ak c10
            clear c10
            obtain ⟨y222, hy222⟩ : ∃ y_ : List Int, y_ = (x6_1 ++ [x7_1]) := ⟨_, rfl⟩
            replace H : (some (y222, 0)) = some (r1, r2) := by first | (rw [hy222]; with_reducible exact H) | (have H2_ := (Option.bind_some _ _).symm.trans H; rw [hy222]; with_reducible exact H2_) | (have H2_ := (Option.bind_some _ _).symm.trans H; with_reducible exact H2_) | with_reducible exact H | (rw [hy222]; exact H) | exact H
            have Ny222 := ak hy222
            clear hy222
            simp only [Option.some.injEq, Prod.mk.injEq] at H
            obtain ⟨rfl, rfl⟩ := H
            go_wp2_with (first | ((with_reducible refine gate_builtin (b := .append) (xs := #[.tmp 37, .tmp 39]) rfl ?_); at_builtin; refine Kd.R_append (Kd.int .i64) (w0 := w) w.heap.size rfl (.tmp 37) (.tmp 39) 43 3 (.int .i64 0) 8 rfl Tryz.underlying43 info3 rfl (by decide) (by omega) u6 x6_1 x7_1 [.int .i64 x7_1] (fun _ => True) (fun _ => False) rfl rfl ?aP (fun _ hk => hk.elim) ?aF ?aO ?aB ?aS ?aL ?_; (case aP => exact rfl); (case aB => exact (by repeat (first | (with_reducible first | exact HB.out | apply wA | apply wN | apply wD) | exact HB.out))); (case aF => exact (fun _ _ => trivial)); (case aO => exact (by (with_reducible repeat (first | apply Kd.R_alloc | apply Kd.R_drewN | apply Kd.R_drew)); exact HO_6.out)); (case aS => exact (below_size (by repeat (first | (with_reducible first | exact HB.out | apply wA | apply wN | apply wD) | exact HB.out)))); (case aL => have := LMc10.out; omega); intro v223 w11 ho hb hg hat; rw [← Ny222.out] at ho; have n0_ := ak (hb); have n1_ := ak (ho); clear HB; clear HO_6; have HB := n0_; have HO224 := n1_; clear n0_ n1_; clear ho hb hg hat))
            go_ret2
            exact ⟨_, by first | rfl | (simp [errW_none, errW_some] <;> rfl) | (simp [*, errW_none, errW_some] <;> rfl), by (with_reducible repeat (first | apply Kd.R_alloc | apply Kd.R_drewN | apply Kd.R_drew)); exact HO224.out, by repeat (first | (with_reducible first | exact HB.out | apply wA | apply wN | apply wD) | exact HB.out)⟩
          · rw [if_neg c10] at H
            exact absurd H (by simp)
  · rw [if_neg c3] at H
    have c3b0 : (t215 == 0) = false := beq_eq_false_iff_ne.mpr c3
    have c3b1 : (t215 != 0) = true := bne_iff_ne.mpr c3
    simp only [Option.some.injEq, Prod.mk.injEq] at H
    obtain ⟨rfl, rfl⟩ := H
    go_enter Tryz.func25, Tryz.ntmps25
    go_wp2_with (first | ((with_reducible refine gate_callee (f := 50) rfl ?_); refine goesL_ (some 13) rfl rfl Tryz.func50 (by kernel_rfl) rfl #[.slice A0 l0.length c0] rfl (by (try simp only [List.map_toArray, List.map_cons, List.map_nil]); first | done | rfl | (simp only [List.length_drop, List.length_take]; rfl)) ?_; (with_reducible refine (mummerref02_Check.calls k _ _ l0 t214 t215 _ ?side1 ?side2 A2.out).mono ?_); (case side1 => repeat (first | exact HR0.out | (with_reducible refine Kd.C_alloc ?_ _) | (with_reducible refine Kd.C_drewN ?_ _) | (with_reducible refine Kd.C_drew ?_))); (case side2 => exact HC0.out); rintro e w12 ⟨rfl, hb⟩; refine ⟨_, rfl, ?_⟩; have n0_ := ak (below_step (by repeat (first | (with_reducible first | exact HB.out | apply wA | apply wN | apply wD) | exact HB.out)) hb); clear HB; have HB := n0_; clear n0_; (try clear hb); (try clear hb2); (try clear hk); (try clear hi)))
    go_ret2
    exact ⟨_, by first | rfl | (simp [errW_none, errW_some] <;> rfl) | (simp [*, errW_none, errW_some] <;> rfl), by first | exact Kd.R_nil _ _ _ _ _ | exact Kd.N_nil _ _ _ _ _ | exact Kd.V_nil _ _ _ _ _ | exact Kd.Q_nil _ _ _ _ _ | exact Kd.S_nil _ _ _ _ _, by repeat (first | (with_reducible first | exact HB.out | apply wA | apply wN | apply wD) | exact HB.out)⟩
end Go.Proofs.YtdjkdlbokepoaaaGreatDoor.P
namespace Go.Proofs.YtdjkdlbokepoaaaGreatDoor.P
open Go.RowKit Go.Proofs.YtdjkdlbokepoaaaGreatDoorW.PrintWords Go.Proofs.YtdjkdlbokepoaaaGreatDoorW.PrintLast Go.Proofs.YtdjkdlbokepoaaaGreatDoorW.PrintMore
attribute [local go_sem] max2_int min2_int max_two min_two max_three min_three max_four min_four   -- for this text's walks alone
set_option linter.unusedVariables false
set_option linter.unusedSimpArgs false
def mummerlaw08_lines.l0 : Nat → ByteArray → List ByteArray → Int → Int → Option (List ByteArray)
  | 0, _, _, _, _ => none
  | k + 1, x0, x3, x4, x5 => if x5 < (x0.size : Int) then (if 0 ≤ x5 then (if (bt x0 x5) = 10 then (if 0 ≤ x4 then (if x4 ≤ x5 then (if x5 ≤ (x0.size : Int) then (if x3.length < 8796093022208 then (mummerlaw08_lines.l0 k x0 (x3 ++ [x0.extract (x4 : Int).toNat (x5 : Int).toNat]) (wrap64 (x5 + 1)) (wrap64 (x5 + 1))) else (none)) else (none)) else (none)) else (none)) else (mummerlaw08_lines.l0 k x0 x3 x4 (wrap64 (x5 + 1)))) else (none)) else (some x3)
def mummerlaw08_lines.f (k : Nat) (a0 : ByteArray) : Option (List ByteArray) := mummerlaw08_lines.l0 k a0 ([] : List ByteArray) 0 0
set_option maxHeartbeats 8000000 in
set_option maxRecDepth 100000 in
theorem mummerlaw08_lines.calls (k : Nat) (a0 : ByteArray) (r : List ByteArray) (w : World) (h : mummerlaw08_lines.f k a0 = some r) :
    Calls Tryz.prog 27 #[.string a0] w fun e w' => ∃ v0_ : Value, e = .returned (v0_) ∧ Kd.R Kd.string 9 w' w.heap.size (fun _ => True) v0_ r ∧ Below w.heap.size w w' := by
  have HB := ak (Below.refl w.heap.size w)
  have H : (mummerlaw08_lines.l0 k a0 ([] : List ByteArray) 0 0) = some r := h
  clear h
  have H' := ak H
  clear H
  go_enter Tryz.func27, Tryz.ntmps27
  go_wp2
  go_loopg [3, 4, 5] k (fun kq v3 v4 v5 w' => ∃ (x3_1 : List ByteArray) (x4_1 : Int) (x5_1 : Int), v4 = .int .i64 x4_1 ∧ v5 = .int .i64 x5_1 ∧ Aside0 (mummerlaw08_lines.l0 kq a0 x3_1 x4_1 x5_1 = some r) ∧ Aside0 (kq ≤ k) ∧ Aside0 (Kd.R Kd.string 9 w' w.heap.size (fun _ => True) v3 x3_1) ∧ Aside0 (Below w.heap.size w w'))
  case atStart => exact ⟨(([] : List ByteArray)), (0), (0), (by first | rfl | (simp; done) | (simp [*]; done)), (by first | rfl | (simp; done) | (simp [*]; done)), H', ⟨Nat.le_refl _⟩, ⟨by first | exact Kd.R_nil _ _ _ _ _ | exact Kd.N_nil _ _ _ _ _ | exact Kd.V_nil _ _ _ _ _ | exact Kd.Q_nil _ _ _ _ _ | exact Kd.S_nil _ _ _ _ _⟩, ⟨by repeat (first | (with_reducible first | exact HB.out | apply wA | apply wN | apply wD) | exact HB.out)⟩⟩
  case round =>
    clear H'
    obtain ⟨x3_1, x4_1, x5_1, rfl, rfl, HA, HK1, HO_3, HB⟩ := hrel
    cases gk with
    | zero => exact absurd HA.out (by simp [mummerlaw08_lines.l0])
    | succ k1 =>
      have H := HA.out
      clear HA
      simp only [mummerlaw08_lines.l0] at H
      by_cases c2 : x5_1 < (a0.size : Int)
      · rw [if_pos c2] at H
        have c2b0 : decide (x5_1 < (a0.size : Int)) = true := decide_eq_true c2
        clear c2
        by_cases c3 : 0 ≤ x5_1
        · rw [if_pos c3] at H
          have c3b0 : decide (0 ≤ x5_1) = true := decide_eq_true c3
          clear c3
          by_cases c5 : (bt a0 x5_1) = 10
          · rw [if_pos c5] at H
            have c5b0 : ((bt a0 x5_1) == 10) = true := beq_iff_eq.mpr c5
            have c5b1 : ((bt a0 x5_1) != 10) = false := bne_eq_false_iff_eq.mpr c5
            clear c5
            by_cases c6 : 0 ≤ x4_1
            · rw [if_pos c6] at H
              have c6b0 := eq_true c6
              have c6b1 : decide (0 ≤ x4_1) = true := decide_eq_true c6
              clear c6
              by_cases c7 : x4_1 ≤ x5_1
              · rw [if_pos c7] at H
                have c7b0 := eq_true c7
                have c7b1 : decide (x4_1 ≤ x5_1) = true := decide_eq_true c7
                clear c7
                by_cases c8 : x5_1 ≤ (a0.size : Int)
                · rw [if_pos c8] at H
                  have c8b0 := eq_true c8
                  have c8b1 : decide (x5_1 ≤ (a0.size : Int)) = true := decide_eq_true c8
                  clear c8
                  by_cases c9 : x3_1.length < 8796093022208
                  · rw [if_pos c9] at H
                    have LMc9 := ak c9
                    clear c9
                    obtain ⟨y362, hy362⟩ : ∃ y_ : List ByteArray, y_ = (x3_1 ++ [a0.extract (x4_1 : Int).toNat (x5_1 : Int).toNat]) := ⟨_, rfl⟩
                    replace H : (mummerlaw08_lines.l0 k1 a0 y362 (wrap64 (x5_1 + 1)) (wrap64 (x5_1 + 1))) = some r := by first | (rw [hy362]; with_reducible exact H) | (have H2_ := (Option.bind_some _ _).symm.trans H; rw [hy362]; with_reducible exact H2_) | (have H2_ := (Option.bind_some _ _).symm.trans H; with_reducible exact H2_) | with_reducible exact H | (rw [hy362]; exact H) | exact H
                    have Ny362 := ak hy362
                    clear hy362
                    have H' := ak H
                    clear H
                    have p4 : 0 ≤ (x5_1 : Int) := of_decide_eq_true (by first | (with_reducible assumption) | assumption)
                    have q4 : x5_1 < (a0.size : Int) := of_decide_eq_true (by first | (with_reducible assumption) | assumption)
                    have hx4 := bt_at a0 x5_1
                    replace p4 := eq_true p4
                    replace q4 := eq_true q4
                    go_wp2_with (first | ((with_reducible refine gate_builtin (b := .append) (xs := #[.tmp 16, .tmp 21]) rfl ?_); at_builtin; refine Kd.R_append Kd.string (w0 := w) w.heap.size rfl (.tmp 16) (.tmp 21) 48 9 (.string ⟨#[]⟩) 16 rfl Tryz.underlying48 info9 rfl (by decide) (by omega) u3 x3_1 (a0.extract (x4_1 : Int).toNat (x5_1 : Int).toNat) [.string (a0.extract (x4_1 : Int).toNat (x5_1 : Int).toNat)] (fun _ => True) (fun _ => False) rfl rfl ?aP (fun _ hk => hk.elim) ?aF ?aO ?aB ?aS ?aL ?_; (case aP => exact rfl); (case aB => exact (by repeat (first | (with_reducible first | exact HB.out | apply wA | apply wN | apply wD) | exact HB.out))); (case aF => exact (fun _ _ => trivial)); (case aO => exact (by (with_reducible repeat (first | apply Kd.R_alloc | apply Kd.R_drewN | apply Kd.R_drew)); exact HO_3.out)); (case aS => exact (below_size (by repeat (first | (with_reducible first | exact HB.out | apply wA | apply wN | apply wD) | exact HB.out)))); (case aL => have := LMc9.out; omega); intro v363 w10 ho hb hg hat; rw [← Ny362.out] at ho; have n0_ := ak (hb); have n1_ := ak (ho); clear HB; clear HO_3; have HB := n0_; have HO364 := n1_; clear n0_ n1_; clear ho hb hg hat))
                    go_roundg k1
                    case measure => have := HK1.out; omega
                    case rel => exact ⟨(y362), (wrap64 (x5_1 + 1)), (wrap64 (x5_1 + 1)), (by first | rfl | (simp; done) | (simp [*]; done)), (by first | rfl | (simp; done) | (simp [*]; done)), H', ⟨by have := HK1.out; omega⟩, ⟨by (with_reducible repeat (first | apply Kd.R_alloc | apply Kd.R_drewN | apply Kd.R_drew)); exact HO364.out⟩, ⟨by repeat (first | (with_reducible first | exact HB.out | apply wA | apply wN | apply wD) | exact HB.out)⟩⟩
                  · rw [if_neg c9] at H
                    exact absurd H (by simp)
                · rw [if_neg c8] at H
                  exact absurd H (by simp)
              · rw [if_neg c7] at H
                exact absurd H (by simp)
            · rw [if_neg c6] at H
              exact absurd H (by simp)
          · rw [if_neg c5] at H
            have c5b0 : ((bt a0 x5_1) == 10) = false := beq_eq_false_iff_ne.mpr c5
            have c5b1 : ((bt a0 x5_1) != 10) = true := bne_iff_ne.mpr c5
            have H' := ak H
            clear H
            have p4 : 0 ≤ (x5_1 : Int) := of_decide_eq_true (by first | (with_reducible assumption) | assumption)
            have q4 : x5_1 < (a0.size : Int) := of_decide_eq_true (by first | (with_reducible assumption) | assumption)
            have hx4 := bt_at a0 x5_1
            replace p4 := eq_true p4
            replace q4 := eq_true q4
            go_wp2
            go_roundg k1
            case measure => have := HK1.out; omega
            case rel => exact ⟨(x3_1), (x4_1), (wrap64 (x5_1 + 1)), (by first | rfl | (simp; done) | (simp [*]; done)), (by first | rfl | (simp; done) | (simp [*]; done)), H', ⟨by have := HK1.out; omega⟩, ⟨by (with_reducible repeat (first | apply Kd.R_alloc | apply Kd.R_drewN | apply Kd.R_drew)); exact HO_3.out⟩, ⟨by repeat (first | (with_reducible first | exact HB.out | apply wA | apply wN | apply wD) | exact HB.out)⟩⟩
        · rw [if_neg c3] at H
          exact absurd H (by simp)
      · rw [if_neg c2] at H
        have c2b0 : decide (x5_1 < (a0.size : Int)) = false := decide_eq_false c2
        clear c2
        obtain rfl := Option.some.inj H
        go_wp2
        go_ret
        exact ⟨_, by first | rfl | (simp [errW_none, errW_some] <;> rfl) | (simp [*, errW_none, errW_some] <;> rfl), by (with_reducible repeat (first | apply Kd.R_alloc | apply Kd.R_drewN | apply Kd.R_drew)); exact HO_3.out, by repeat (first | (with_reducible first | exact HB.out | apply wA | apply wN | apply wD) | exact HB.out)⟩
end Go.Proofs.YtdjkdlbokepoaaaGreatDoor.P
namespace Go.Proofs.YtdjkdlbokepoaaaGreatDoor.P
open Go.RowKit Go.Proofs.YtdjkdlbokepoaaaGreatDoorW.PrintWords Go.Proofs.YtdjkdlbokepoaaaGreatDoorW.PrintLast Go.Proofs.YtdjkdlbokepoaaaGreatDoorW.PrintMore
attribute [local go_sem] max2_int min2_int max_two min_two max_three min_three max_four min_four   -- for this text's walks alone
set_option linter.unusedVariables false
set_option linter.unusedSimpArgs false
mutual
def mummerlaw08_crossed.l0 : Nat → List Int → Int → Int → Option (Bool)
  | 0, _, _, _ => none
  | k + 1, x0, x2, x7 => if x7 < x2 then (mummerlaw08_crossed.j1 k x0 x2 x7 (decide (x7 < (x0.length : Int)))) else (mummerlaw08_crossed.j1 k x0 x2 x7 false)
def mummerlaw08_crossed.j1 : Nat → List Int → Int → Int → Bool → Option (Bool)
  | 0, _, _, _, _ => none
  | k + 1, x0, x2, x7, x17 => if x17 = true then (if 0 ≤ x7 then (if x7 < (x0.length : Int) then (if (rd x0 x7) = 10 then (some true) else (mummerlaw08_crossed.l0 k x0 x2 (wrap64 (x7 + 1)))) else (none)) else (none)) else (some false)
end
def mummerlaw08_crossed.f (k : Nat) (l0 : List Int) (a1 : Int) (a2 : Int) : Option (Bool) := mummerlaw08_crossed.l0 k l0 a2 a1
set_option maxHeartbeats 8000000 in
set_option maxRecDepth 100000 in
theorem mummerlaw08_crossed.calls (k : Nat) (A0 : Option Addr) (c0 : Nat) (l0 : List Int) (a1 : Int) (a2 : Int) (r : Bool) (w : World) (hr0 : Kd.C (Kd.int .u8) w A0 l0.length l0) (hc0 : l0.length ≤ c0) (h : mummerlaw08_crossed.f k l0 a1 a2 = some r) :
    Calls Tryz.prog 28 #[.slice A0 l0.length c0, .int .i64 a1, .int .i64 a2] w fun e w' => e = .returned (.bool r) ∧ Drawn0 w w' := by
  have HR0 := ak hr0
  have HC0 := ak hc0
  clear hr0 hc0
  have H : (mummerlaw08_crossed.l0 k l0 a2 a1) = some r := h
  clear h
  have H' := ak H
  clear H
  go_enter Tryz.func28, Tryz.ntmps28
  go_wp2
  go_loopg [7] k (fun kq v7 w' => ∃ (x7_1 : Int), v7 = .int .i64 x7_1 ∧ Aside0 (mummerlaw08_crossed.l0 kq l0 a2 x7_1 = some r) ∧ Aside0 (kq ≤ k) ∧ Drawn0 w w')
  case atStart => exact ⟨(a1), (by first | rfl | (simp; done) | (simp [*]; done)), H', ⟨Nat.le_refl _⟩, by repeat (first | exact Drawn0.refl _ | apply Drawn0.step)⟩
  case round =>
    clear H'
    try clear c2
    try clear p2
    obtain ⟨x7_1, rfl, HA, HK1, ⟨m1, rfl⟩⟩ := hrel
    cases gk with
    | zero => exact absurd HA.out (by simp [mummerlaw08_crossed.l0])
    | succ k1 =>
      have H := HA.out
      clear HA
      simp only [mummerlaw08_crossed.l0] at H
      have HC4 := ak H
      clear H
      go_upto_region 2 with (fail)
      go_cut [17] (fun v17 wc => ∃ (kq : Nat) (x17_3 : Bool), v17 = .bool x17_3 ∧ Aside0 (mummerlaw08_crossed.j1 kq l0 a2 x7_1 x17_3 = some r) ∧ Aside0 (kq ≤ k1) ∧ Drawn0 w wc)
      case first =>
        have H := HC4.out
        clear HC4
        by_cases c5 : x7_1 < a2
        · rw [if_pos c5] at H
          have c5b0 : decide (x7_1 < a2) = true := decide_eq_true c5
          clear c5
          (first | rw [c5b0] | (simp only [i64_w, i32_w]; rw [c5b0]) | skip)
          have H' := ak H
          clear H
          go_wp2
          go_meet
          case rel => exact ⟨_, (decide (x7_1 < (l0.length : Int))), (by first | rfl | (simp; done) | (simp [*]; done)), H', ⟨by have := HK1.out; first | omega | exact Nat.le_refl _⟩, by repeat (first | exact Drawn0.refl _ | apply Drawn0.step)⟩
        · rw [if_neg c5] at H
          have c5b0 : decide (x7_1 < a2) = false := decide_eq_false c5
          clear c5
          (first | rw [c5b0] | (simp only [i64_w, i32_w]; rw [c5b0]) | skip)
          have H' := ak H
          clear H
          go_wp2
          go_meet
          case rel => exact ⟨_, (false), (by first | rfl | (simp; done) | (simp [*]; done)), H', ⟨by have := HK1.out; first | omega | exact Nat.le_refl _⟩, by repeat (first | exact Drawn0.refl _ | apply Drawn0.step)⟩
      case rest =>
        clear HC4
        try clear c2
        try clear p2
        try clear c5
        try clear c5b0
        try clear p2
        obtain ⟨kq, x17_3, rfl, HA, HJ3, ⟨mc3, rfl⟩⟩ := hcut
        cases kq with
        | zero => exact absurd HA.out (by simp [mummerlaw08_crossed.j1])
        | succ kj3 =>
          have H := HA.out
          clear HA
          simp only [mummerlaw08_crossed.j1] at H
          by_cases c6 : x17_3 = true
          · subst c6
            have H1 : (if 0 ≤ x7_1 then (if x7_1 < (l0.length : Int) then (if (rd l0 x7_1) = 10 then (some true) else (mummerlaw08_crossed.l0 kj3 l0 a2 (wrap64 (x7_1 + 1)))) else (none)) else (none)) = some r := by rw [if_pos rfl] at H; exact H
            clear H
            have H := H1
            clear H1
            by_cases c7 : 0 ≤ x7_1
            · rw [if_pos c7] at H
              have c7b0 : decide (0 ≤ x7_1) = true := decide_eq_true c7
              clear c7
              by_cases c8 : x7_1 < (l0.length : Int)
              · rw [if_pos c8] at H
                have c8b0 : decide (x7_1 < (l0.length : Int)) = true := decide_eq_true c8
                clear c8
                by_cases c9 : (rd l0 x7_1) = 10
                · rw [if_pos c9] at H
                  have c9b0 : ((rd l0 x7_1) == 10) = true := beq_iff_eq.mpr c9
                  have c9b1 : ((rd l0 x7_1) != 10) = false := bne_eq_false_iff_eq.mpr c9
                  clear c9
                  obtain rfl := Option.some.inj H
                  have p365 : 0 ≤ (x7_1 : Int) := of_decide_eq_true (by first | (with_reducible assumption) | assumption)
                  have q365 : x7_1 < (l0.length : Int) := of_decide_eq_true (by first | (with_reducible assumption) | assumption)
                  obtain ⟨ad365, e365, hx365_0⟩ := Kd.at_int HR0.out x7_1 p365 q365
                  cases e365
                  replace p365 := eq_true p365
                  replace q365 := eq_true q365
                  go_wp2
                  go_ret
                  exact ⟨by first | rfl | (simp; done) | (simp [*]; done), by repeat (first | exact Drawn0.refl _ | apply Drawn0.step)⟩
                · rw [if_neg c9] at H
                  have c9b0 : ((rd l0 x7_1) == 10) = false := beq_eq_false_iff_ne.mpr c9
                  have c9b1 : ((rd l0 x7_1) != 10) = true := bne_iff_ne.mpr c9
                  have H' := ak H
                  clear H
                  have p365 : 0 ≤ (x7_1 : Int) := of_decide_eq_true (by first | (with_reducible assumption) | assumption)
                  have q365 : x7_1 < (l0.length : Int) := of_decide_eq_true (by first | (with_reducible assumption) | assumption)
                  obtain ⟨ad365, e365, hx365_0⟩ := Kd.at_int HR0.out x7_1 p365 q365
                  cases e365
                  replace p365 := eq_true p365
                  replace q365 := eq_true q365
                  go_wp2
                  go_roundg kj3
                  case measure => have := HK1.out; have := HJ3.out; omega
                  case rel => exact ⟨(wrap64 (x7_1 + 1)), (by first | rfl | (simp; done) | (simp [*]; done)), H', ⟨by have := HK1.out; have := HJ3.out; omega⟩, by repeat (first | exact Drawn0.refl _ | apply Drawn0.step)⟩
              · rw [if_neg c8] at H
                exact absurd H (by simp)
            · rw [if_neg c7] at H
              exact absurd H (by simp)
          · replace c6 := Bool.eq_false_iff.mpr c6
            subst c6
            have H1 : (some false) = some r := by rw [if_neg (show ¬ (false = true) by decide)] at H; exact H
            clear H
            have H := H1
            clear H1
            obtain rfl := Option.some.inj H
            go_wp2
            go_ret
            exact ⟨by first | rfl | (simp; done) | (simp [*]; done), by repeat (first | exact Drawn0.refl _ | apply Drawn0.step)⟩
end Go.Proofs.YtdjkdlbokepoaaaGreatDoor.P
namespace Go.Proofs.YtdjkdlbokepoaaaGreatDoor.P
open Go.RowKit Go.Proofs.YtdjkdlbokepoaaaGreatDoorW.PrintWords Go.Proofs.YtdjkdlbokepoaaaGreatDoorW.PrintLast Go.Proofs.YtdjkdlbokepoaaaGreatDoorW.PrintMore
attribute [local go_sem] max2_int min2_int max_two min_two max_three min_three max_four min_four   -- for this text's walks alone
set_option linter.unusedVariables false
set_option linter.unusedSimpArgs false
def mummerlaw08_part.l0 : Nat → List Int → ByteArray → Int → Option (Bool)
  | 0, _, _, _ => none
  | k + 1, x0, x1, x5 => if (wrap64 (x5 + (x1.size : Int))) ≤ (x0.length : Int) then (if 0 ≤ x5 then (if x5 ≤ (wrap64 (x5 + (x1.size : Int))) then (if (strOfNums ((x0.take ((wrap64 (x5 + (x1.size : Int))) : Int).toNat).drop (x5 : Int).toNat)).toList = x1.toList then (some true) else (mummerlaw08_part.l0 k x0 x1 (wrap64 (x5 + 1)))) else (none)) else (none)) else (some false)
def mummerlaw08_part.f (k : Nat) (l0 : List Int) (a1 : ByteArray) : Option (Bool) := mummerlaw08_part.l0 k l0 a1 0
set_option maxHeartbeats 8000000 in
set_option maxRecDepth 100000 in
theorem mummerlaw08_part.calls (k : Nat) (A0 : Option Addr) (c0 : Nat) (l0 : List Int) (a1 : ByteArray) (r : Bool) (w : World) (hr0 : Kd.C (Kd.int .u8) w A0 l0.length l0) (hc0 : l0.length ≤ c0) (h : mummerlaw08_part.f k l0 a1 = some r) :
    Calls Tryz.prog 29 #[.slice A0 l0.length c0, .string a1] w fun e w' => e = .returned (.bool r) ∧ Drawn0 w w' := by
  have HR0 := ak hr0
  have HC0 := ak hc0
  clear hr0 hc0
  have H : (mummerlaw08_part.l0 k l0 a1 0) = some r := h
  clear h
  have H' := ak H
  clear H
  go_enter Tryz.func29, Tryz.ntmps29
  go_wp2
  go_loopg [5] k (fun kq v5 w' => ∃ (x5_1 : Int), v5 = .int .i64 x5_1 ∧ Aside0 (mummerlaw08_part.l0 kq l0 a1 x5_1 = some r) ∧ Aside0 (kq ≤ k) ∧ Drawn0 w w')
  case atStart => exact ⟨(0), (by first | rfl | (simp; done) | (simp [*]; done)), H', ⟨Nat.le_refl _⟩, by repeat (first | exact Drawn0.refl _ | apply Drawn0.step)⟩
  case round =>
    clear H'
    try clear c2
    try clear p2
    obtain ⟨x5_1, rfl, HA, HK1, ⟨m1, rfl⟩⟩ := hrel
    cases gk with
    | zero => exact absurd HA.out (by simp [mummerlaw08_part.l0])
    | succ k1 =>
      have H := HA.out
      clear HA
      simp only [mummerlaw08_part.l0] at H
      by_cases c3 : (wrap64 (x5_1 + (a1.size : Int))) ≤ (l0.length : Int)
      · rw [if_pos c3] at H
        have c3b0 : decide ((wrap64 (x5_1 + (a1.size : Int))) ≤ (l0.length : Int)) = true := decide_eq_true c3
        clear c3
        by_cases c4 : 0 ≤ x5_1
        · rw [if_pos c4] at H
          have c4b0 := eq_true c4
          have c4b1 : decide (0 ≤ x5_1) = true := decide_eq_true c4
          clear c4
          by_cases c5 : x5_1 ≤ (wrap64 (x5_1 + (a1.size : Int)))
          · rw [if_pos c5] at H
            have c5b0 := eq_true c5
            have c5b1 : decide (x5_1 ≤ (wrap64 (x5_1 + (a1.size : Int)))) = true := decide_eq_true c5
            have c6b0 := eq_true (of_decide_eq_true (by first | (with_reducible assumption) | assumption) : (wrap64 (x5_1 + (a1.size : Int))) ≤ (l0.length : Int))
            by_cases c7 : (strOfNums ((l0.take ((wrap64 (x5_1 + (a1.size : Int))) : Int).toNat).drop (x5_1 : Int).toNat)).toList = a1.toList
            · rw [if_pos c7] at H
              have c7b0 : ((strOfNums ((l0.take ((wrap64 (x5_1 + (a1.size : Int))) : Int).toNat).drop (x5_1 : Int).toNat)).toList == a1.toList) = true := beq_iff_eq.mpr c7
              have c7b1 : ((strOfNums ((l0.take ((wrap64 (x5_1 + (a1.size : Int))) : Int).toNat).drop (x5_1 : Int).toNat)).toList != a1.toList) = false := bne_eq_false_iff_eq.mpr c7
              clear c7
              obtain rfl := Option.some.inj H
              obtain ⟨i08, hi08, _, hsz8, _⟩ := info_parts info5
              obtain ⟨A8, hcut8, hA8, hC8⟩ := print_mid_of (P := Tryz.prog) (Value.int .u8) 0 29 5 .i64 .i64 Tryz.underlying29 hi08 hsz8 A0 c0 l0 x5_1 (wrap64 (x5_1 + (a1.size : Int))) (of_decide_eq_true (by first | (with_reducible assumption) | assumption)) (by first | omega | exact of_decide_eq_true (by first | (with_reducible assumption) | assumption)) (of_decide_eq_true (by first | (with_reducible assumption) | assumption)) HC0.out
              have HR366 := ak (Kd.C_of_reads (h1 := fun _ => rfl) (hA8 _ (Kd.reads_of_C HR0.out)))
              have HC366 := ak hC8
              clear hA8 hC8 hi08 hsz8
              have hle_ : wrap64 (x5_1 + (a1.size : Int)) ≤ (l0.length : Int) := of_decide_eq_true (by first | (with_reducible assumption) | assumption)
              have hcv9 : ∀ m_ : Nat, (convert 29 9 (.slice A8 ((wrap64 (x5_1 + (a1.size : Int))).toNat - x5_1.toNat) (c0 - x5_1.toNat))).run Tryz.prog (w.drewN m_) = .ok (.string (strOfNums ((l0.take ((wrap64 (x5_1 + (a1.size : Int))) : Int).toNat).drop (x5_1 : Int).toNat))) (w.drewN m_) := fun m_ => by
                have h_ := Kd.C_string (P := Tryz.prog) (c := (c0 - x5_1.toNat)) Tryz.underlying29 Tryz.underlying5 Tryz.underlying9 (Kd.C_drewN HR366.out m_)
                rw [List.length_drop, List.length_take, Nat.min_eq_left (by omega)] at h_
                exact h_
              clear hle_
              go_wp2
              go_ret
              exact ⟨by first | rfl | (simp; done) | (simp [*]; done), by repeat (first | exact Drawn0.refl _ | apply Drawn0.step)⟩
            · rw [if_neg c7] at H
              have c7b0 : ((strOfNums ((l0.take ((wrap64 (x5_1 + (a1.size : Int))) : Int).toNat).drop (x5_1 : Int).toNat)).toList == a1.toList) = false := beq_eq_false_iff_ne.mpr c7
              have c7b1 : ((strOfNums ((l0.take ((wrap64 (x5_1 + (a1.size : Int))) : Int).toNat).drop (x5_1 : Int).toNat)).toList != a1.toList) = true := bne_iff_ne.mpr c7
              have H' := ak H
              clear H
              obtain ⟨i010, hi010, _, hsz10, _⟩ := info_parts info5
              obtain ⟨A10, hcut10, hA10, hC10⟩ := print_mid_of (P := Tryz.prog) (Value.int .u8) 0 29 5 .i64 .i64 Tryz.underlying29 hi010 hsz10 A0 c0 l0 x5_1 (wrap64 (x5_1 + (a1.size : Int))) (of_decide_eq_true (by first | (with_reducible assumption) | assumption)) (by first | omega | exact of_decide_eq_true (by first | (with_reducible assumption) | assumption)) (of_decide_eq_true (by first | (with_reducible assumption) | assumption)) HC0.out
              have HR366 := ak (Kd.C_of_reads (h1 := fun _ => rfl) (hA10 _ (Kd.reads_of_C HR0.out)))
              have HC366 := ak hC10
              clear hA10 hC10 hi010 hsz10
              have hle_ : wrap64 (x5_1 + (a1.size : Int)) ≤ (l0.length : Int) := of_decide_eq_true (by first | (with_reducible assumption) | assumption)
              have hcv11 : ∀ m_ : Nat, (convert 29 9 (.slice A10 ((wrap64 (x5_1 + (a1.size : Int))).toNat - x5_1.toNat) (c0 - x5_1.toNat))).run Tryz.prog (w.drewN m_) = .ok (.string (strOfNums ((l0.take ((wrap64 (x5_1 + (a1.size : Int))) : Int).toNat).drop (x5_1 : Int).toNat))) (w.drewN m_) := fun m_ => by
                have h_ := Kd.C_string (P := Tryz.prog) (c := (c0 - x5_1.toNat)) Tryz.underlying29 Tryz.underlying5 Tryz.underlying9 (Kd.C_drewN HR366.out m_)
                rw [List.length_drop, List.length_take, Nat.min_eq_left (by omega)] at h_
                exact h_
              clear hle_
              go_wp2
              go_roundg k1
              case measure => have := HK1.out; omega
              case rel => exact ⟨(wrap64 (x5_1 + 1)), (by first | rfl | (simp; done) | (simp [*]; done)), H', ⟨by have := HK1.out; omega⟩, by repeat (first | exact Drawn0.refl _ | apply Drawn0.step)⟩
          · rw [if_neg c5] at H
            exact absurd H (by simp)
        · rw [if_neg c4] at H
          exact absurd H (by simp)
      · rw [if_neg c3] at H
        have c3b0 : decide ((wrap64 (x5_1 + (a1.size : Int))) ≤ (l0.length : Int)) = false := decide_eq_false c3
        clear c3
        obtain rfl := Option.some.inj H
        go_wp2
        go_ret
        exact ⟨by first | rfl | (simp; done) | (simp [*]; done), by repeat (first | exact Drawn0.refl _ | apply Drawn0.step)⟩
end Go.Proofs.YtdjkdlbokepoaaaGreatDoor.P
namespace Go.Proofs.YtdjkdlbokepoaaaGreatDoor.P
open Go.RowKit Go.Proofs.YtdjkdlbokepoaaaGreatDoorW.PrintWords Go.Proofs.YtdjkdlbokepoaaaGreatDoorW.PrintLast Go.Proofs.YtdjkdlbokepoaaaGreatDoorW.PrintMore
attribute [local go_sem] max2_int min2_int max_two min_two max_three min_three max_four min_four   -- for this text's walks alone
set_option linter.unusedVariables false
set_option linter.unusedSimpArgs false
def mummerlaw08_marked.l0 : Nat → ByteArray → Int → Option (Int)
  | 0, _, _ => none
  | k + 1, x0, x3 => if x3 < (x0.size : Int) then (if 0 ≤ (wrap64 ((wrap64 ((x0.size : Int) - 1)) - x3)) then (if (wrap64 ((wrap64 ((x0.size : Int) - 1)) - x3)) < (x0.size : Int) then (if (bt x0 (wrap64 ((wrap64 ((x0.size : Int) - 1)) - x3))) = 94 then (mummerlaw08_marked.l0 k x0 (wrap64 (x3 + 1))) else (some x3)) else (none)) else (none)) else (some x3)
def mummerlaw08_marked.f (k : Nat) (a0 : ByteArray) : Option (Int) := mummerlaw08_marked.l0 k a0 0
set_option maxHeartbeats 8000000 in
set_option maxRecDepth 100000 in
theorem mummerlaw08_marked.calls (k : Nat) (a0 : ByteArray) (r : Int) (w : World) (h : mummerlaw08_marked.f k a0 = some r) :
    Calls Tryz.prog 30 #[.string a0] w fun e w' => e = .returned (.int .i64 r) ∧ Drawn0 w w' := by
  have H : (mummerlaw08_marked.l0 k a0 0) = some r := h
  clear h
  have H' := ak H
  clear H
  go_enter Tryz.func30, Tryz.ntmps30
  go_wp2
  go_loopg [3] k (fun kq v3 w' => ∃ (x3_1 : Int), v3 = .int .i64 x3_1 ∧ Aside0 (mummerlaw08_marked.l0 kq a0 x3_1 = some r) ∧ Aside0 (kq ≤ k) ∧ Drawn0 w w')
  case atStart => exact ⟨(0), (by first | rfl | (simp; done) | (simp [*]; done)), H', ⟨Nat.le_refl _⟩, by repeat (first | exact Drawn0.refl _ | apply Drawn0.step)⟩
  case round =>
    clear H'
    obtain ⟨x3_1, rfl, HA, HK1, ⟨m1, rfl⟩⟩ := hrel
    cases gk with
    | zero => exact absurd HA.out (by simp [mummerlaw08_marked.l0])
    | succ k1 =>
      have H := HA.out
      clear HA
      simp only [mummerlaw08_marked.l0] at H
      by_cases c2 : x3_1 < (a0.size : Int)
      · rw [if_pos c2] at H
        have c2b0 : decide (x3_1 < (a0.size : Int)) = true := decide_eq_true c2
        clear c2
        obtain ⟨ji3, hji3⟩ : ∃ j_ : Int, (wrap64 ((wrap64 ((a0.size : Int) - 1)) - x3_1)) = j_ := ⟨_, rfl⟩
        replace H : (if 0 ≤ (ji3) then (if (ji3) < (a0.size : Int) then (if (bt a0 (ji3)) = 94 then (mummerlaw08_marked.l0 k1 a0 (wrap64 (x3_1 + 1))) else (some x3_1)) else (none)) else (none)) = some r := by first | (rw [hji3] at H; exact H) | (simp only [hji3] at H ⊢; exact H)
        have hji3w : (IntKind.i64.wrap ((wrap64 ((a0.size : Int) - 1)) - x3_1)) = ji3 := (i64_w _).trans hji3
        by_cases c4 : 0 ≤ (ji3)
        · rw [if_pos c4] at H
          have c4b0 : decide (0 ≤ (ji3)) = true := decide_eq_true c4
          clear c4
          by_cases c5 : (ji3) < (a0.size : Int)
          · rw [if_pos c5] at H
            have c5b0 : decide ((ji3) < (a0.size : Int)) = true := decide_eq_true c5
            clear c5
            by_cases c7 : (bt a0 (ji3)) = 94
            · rw [if_pos c7] at H
              have c7b0 : ((bt a0 (ji3)) == 94) = true := beq_iff_eq.mpr c7
              have c7b1 : ((bt a0 (ji3)) != 94) = false := bne_eq_false_iff_eq.mpr c7
              clear c7
              have H' := ak H
              clear H
              have p6 : 0 ≤ ((ji3) : Int) := of_decide_eq_true (by first | (with_reducible assumption) | assumption)
              have q6 : (ji3) < (a0.size : Int) := of_decide_eq_true (by first | (with_reducible assumption) | assumption)
              have hx6 := bt_at a0 (ji3)
              replace p6 := eq_true p6
              replace q6 := eq_true q6
              go_wp2
              go_roundg k1
              case measure => have := HK1.out; omega
              case rel => exact ⟨(wrap64 (x3_1 + 1)), (by first | rfl | (simp; done) | (simp [*]; done)), H', ⟨by have := HK1.out; omega⟩, by repeat (first | exact Drawn0.refl _ | apply Drawn0.step)⟩
            · rw [if_neg c7] at H
              have c7b0 : ((bt a0 (ji3)) == 94) = false := beq_eq_false_iff_ne.mpr c7
              have c7b1 : ((bt a0 (ji3)) != 94) = true := bne_iff_ne.mpr c7
              obtain rfl := Option.some.inj H
              have p6 : 0 ≤ ((ji3) : Int) := of_decide_eq_true (by first | (with_reducible assumption) | assumption)
              have q6 : (ji3) < (a0.size : Int) := of_decide_eq_true (by first | (with_reducible assumption) | assumption)
              have hx6 := bt_at a0 (ji3)
              replace p6 := eq_true p6
              replace q6 := eq_true q6
              go_wp2
              go_ret
              exact ⟨by first | rfl | (simp; done) | (simp only [← hji3] <;> (first | rfl | simp)) | (simp [*]; done), by repeat (first | exact Drawn0.refl _ | apply Drawn0.step)⟩
          · rw [if_neg c5] at H
            exact absurd H (by simp)
        · rw [if_neg c4] at H
          exact absurd H (by simp)
      · rw [if_neg c2] at H
        have c2b0 : decide (x3_1 < (a0.size : Int)) = false := decide_eq_false c2
        clear c2
        obtain rfl := Option.some.inj H
        go_wp2
        go_ret
        exact ⟨by first | rfl | (simp; done) | (simp [*]; done), by repeat (first | exact Drawn0.refl _ | apply Drawn0.step)⟩
end Go.Proofs.YtdjkdlbokepoaaaGreatDoor.P
namespace Go.Proofs.YtdjkdlbokepoaaaGreatDoor.P
open Go.RowKit Go.Proofs.YtdjkdlbokepoaaaGreatDoorW.PrintWords Go.Proofs.YtdjkdlbokepoaaaGreatDoorW.PrintLast Go.Proofs.YtdjkdlbokepoaaaGreatDoorW.PrintMore
attribute [local go_sem] max2_int min2_int max_two min_two max_three min_three max_four min_four   -- for this text's walks alone
set_option linter.unusedVariables false
set_option linter.unusedSimpArgs false
mutual
def mummerlaw08_FaultsMarks.j0 : Nat → List Int → List (S41) → Int → Bool → Option (Bool)
  | 0, _, _, _, _ => none
  | k + 1, x0, x1, x2, x30 => if x30 = true then ((mummerlaw08_shown.f).bind fun t368 => (some t368)) else ((faults_Picture.f k x0 x1 x2).bind fun bt369 => (if bt369.2 = 0 then ((faults_Chain.f k x1 x2).bind fun bt372 => ((mummerlaw08_lines.f k bt369.1).bind fun t376 => (if bt372.2 = 0 then (if (t376.length : Int) = (wrap64 (3 * (bt372.1.length : Int))) then ((mummerref02_Starts.f k x0).bind fun bt379 => (mummerlaw08_FaultsMarks.l0 k x0 x1 bt372.1 t376 bt379.1 0)) else (some false)) else (some false)))) else (if bt369.1.toList = ([] : List UInt8) then ((mummerlaw08_shown.f).bind fun t371 => (some t371)) else (some false))))
def mummerlaw08_FaultsMarks.l0 : Nat → List Int → List (S41) → List Int → List ByteArray → List Int → Int → Option (Bool)
  | 0, _, _, _, _, _, _ => none
  | k + 1, x0, x1, x9, x11, x12, x14 => if x14 < (x9.length : Int) then (if 0 ≤ x14 then (if 0 ≤ (rd x9 x14) then (if (rd x9 x14) < (x1.length : Int) then ((faults_Place.f k x0 ((rd_T41 x1 (rd x9 x14)).f2.f0)).bind fun bt387 => (mummerlaw08_FaultsMarks.l1 k x0 x1 x9 x11 x12 x14 bt387.2.1 bt387.2.2 0 0 ((rd_T41 x1 (rd x9 x14)).f2.f0) ((rd_T41 x1 (rd x9 x14)).f2.f1))) else (none)) else (none)) else (none)) else ((mummerlaw08_shown.f).bind fun t383 => (some t383))
def mummerlaw08_FaultsMarks.l1 : Nat → List Int → List (S41) → List Int → List ByteArray → List Int → Int → Int → Int → Int → Int → Int → Int → Option (Bool)
  | 0, _, _, _, _, _, _, _, _, _, _, _, _ => none
  | k + 1, x0, x1, x9, x11, x12, x14, x17, x18, x19, x20, x387000, x387001 => if x20 < (x12.length : Int) then (if 0 ≤ x20 then (if (rd x12 x20) ≥ x387000 then (if (rd x12 x20) < x387001 then (if (rd x12 x20) < (x0.length : Int) then ((mummerlaw08_crossed.f k x0 x387000 (wrap64 ((rd x12 x20) + 1))).bind fun t391 => (if t391 = true then (mummerlaw08_FaultsMarks.l1 k x0 x1 x9 x11 x12 x14 x17 x18 x19 (wrap64 (x20 + 1)) x387000 x387001) else (mummerlaw08_FaultsMarks.l1 k x0 x1 x9 x11 x12 x14 x17 x18 (wrap64 (x19 + 1)) (wrap64 (x20 + 1)) x387000 x387001))) else (mummerlaw08_FaultsMarks.l1 k x0 x1 x9 x11 x12 x14 x17 x18 x19 (wrap64 (x20 + 1)) x387000 x387001)) else (mummerlaw08_FaultsMarks.l1 k x0 x1 x9 x11 x12 x14 x17 x18 x19 (wrap64 (x20 + 1)) x387000 x387001)) else (mummerlaw08_FaultsMarks.l1 k x0 x1 x9 x11 x12 x14 x17 x18 x19 (wrap64 (x20 + 1)) x387000 x387001)) else (none)) else (if 0 ≤ (wrap64 ((wrap64 (3 * x14)) + 1)) then (if (wrap64 ((wrap64 (3 * x14)) + 1)) < (x11.length : Int) then (if 0 ≤ (wrap64 ((wrap64 (3 * x14)) + 2)) then (if (wrap64 ((wrap64 (3 * x14)) + 2)) < (x11.length : Int) then (if x18 = 0 then (if ((rdOf ByteArray.empty x11 (wrap64 ((wrap64 (3 * x14)) + 1))).size : Int) < 2 then (some false) else (if 2 ≤ ((rdOf ByteArray.empty x11 (wrap64 ((wrap64 (3 * x14)) + 1))).size : Int) then ((mummerlaw08_part.f k x0 ((rdOf ByteArray.empty x11 (wrap64 ((wrap64 (3 * x14)) + 1))).extract 2 (rdOf ByteArray.empty x11 (wrap64 ((wrap64 (3 * x14)) + 1))).size)).bind fun t394 => (if t394 = true then ((mummerlaw08_marked.f k (rdOf ByteArray.empty x11 (wrap64 ((wrap64 (3 * x14)) + 2)))).bind fun t395 => (if t395 = (mx x19 1) then (if ((rdOf ByteArray.empty x11 (wrap64 ((wrap64 (3 * x14)) + 2))).size : Int) = (wrap64 ((wrap64 ((wrap64 (2 + x17)) - 1)) + (mx x19 1))) then (if ((rdOf ByteArray.empty x11 (wrap64 ((wrap64 (3 * x14)) + 2))).size : Int) > (wrap64 (((rdOf ByteArray.empty x11 (wrap64 ((wrap64 (3 * x14)) + 1))).size : Int) + 1)) then (some false) else (mummerlaw08_FaultsMarks.l0 k x0 x1 x9 x11 x12 (wrap64 (x14 + 1)))) else (some false)) else (some false))) else (some false))) else (none))) else (some false)) else (none)) else (none)) else (none)) else (none))
end
def mummerlaw08_FaultsMarks.f (k : Nat) (l0 : List Int) (l1 : List (S41)) (a2 : Int) : Option (Bool) := if (l0.length : Int) > 300 then (mummerlaw08_FaultsMarks.j0 k l0 l1 a2 true) else ((mummerlaw08_far.f k l1).bind fun t367 => (mummerlaw08_FaultsMarks.j0 k l0 l1 a2 t367))
set_option maxHeartbeats 8000000 in
set_option maxRecDepth 100000 in
theorem mummerlaw08_FaultsMarks.calls (k : Nat) (A0 : Option Addr) (c0 : Nat) (l0 : List Int) (A1 : Option Addr) (c1 : Nat) (l1 : List (S41)) (a2 : Int) (r : Bool) (w : World) (hr0 : Kd.C (Kd.int .u8) w A0 l0.length l0) (hc0 : l0.length ≤ c0) (hr1 : Kd.C k41 w A1 l1.length l1) (hc1 : l1.length ≤ c1) (hrt : Aside0 (r = true)) (h : mummerlaw08_FaultsMarks.f k l0 l1 a2 = some r) (HT : Aside0 (Ft.All w)) :
    Calls Tryz.prog 7 #[.slice A0 l0.length c0, .slice A1 l1.length c1, .int .i64 a2] w fun e w' => e = .returned (.bool r) ∧ Below w.heap.size w w' := by
  have hu39 := Tryz.underlying39
  have HR0 := ak hr0
  have HC0 := ak hc0
  clear hr0 hc0
  have HR1 := ak hr1
  have HC1 := ak hc1
  clear hr1 hc1
  have HB := ak (Below.refl w.heap.size w)
  have H : (if (l0.length : Int) > 300 then (mummerlaw08_FaultsMarks.j0 k l0 l1 a2 true) else ((mummerlaw08_far.f k l1).bind fun t367 => (mummerlaw08_FaultsMarks.j0 k l0 l1 a2 t367))) = some r := h
  clear h
  have HC4 := ak H
  clear H
  go_enter Tryz.func7, Tryz.ntmps7
  go_upto_region 1 with (fail)
  repeat (go_quiet (fail); go_upto_region 1 with (fail))
  go_cut [30] (fun v30 wc => ∃ (kq : Nat) (x30_3 : Bool), v30 = .bool x30_3 ∧ Aside0 (mummerlaw08_FaultsMarks.j0 kq l0 l1 a2 x30_3 = some r) ∧ Aside0 (kq ≤ k) ∧ Aside0 (Below w.heap.size w wc))
  case first =>
    have H := HC4.out
    clear HC4
    by_cases c5 : (l0.length : Int) > 300
    · rw [if_pos c5] at H
      have c5b0 : decide (300 < (l0.length : Int)) = true := decide_eq_true c5
      have c5b1 : decide (300 < l0.length) = true := decide_eq_true (by omega)
      clear c5
      (first | rw [c5b0] | (simp only [i64_w, i32_w]; rw [c5b0]) | skip)
      have H' := ak H
      clear H
      go_wp2
      repeat (go_quiet (fail); try go_wp2)
      go_meet
      case rel => exact ⟨_, (true), (by first | rfl | (simp; done) | (simp [*]; done)), H', ⟨by first | omega | exact Nat.le_refl _⟩, ⟨by repeat (first | (with_reducible first | exact HB.out | apply wA | apply wN | apply wD) | exact HB.out)⟩⟩
    · rw [if_neg c5] at H
      have c5b0 : decide (300 < (l0.length : Int)) = false := decide_eq_false c5
      have c5b1 : decide (300 < l0.length) = false := decide_eq_false (by omega)
      clear c5
      (first | rw [c5b0] | (simp only [i64_w, i32_w]; rw [c5b0]) | skip)
      replace H := Option.bind_eq_some_iff.mp H
      obtain ⟨t367, A60, H⟩ := H
      replace H : (mummerlaw08_FaultsMarks.j0 k l0 l1 a2 t367) = some r := H
      have A6 := ak A60
      clear A60
      have H' := ak H
      clear H
      go_wp2_with (first | (go_at_call 11; (with_reducible refine (mummerlaw08_far.calls k _ _ l1 t367 _ ?side1 ?side2 A6.out).mono ?_); (case side1 => repeat (first | exact (Kd.C_below HR1.out HB.out) | (with_reducible refine Kd.C_alloc ?_ _) | (with_reducible refine Kd.C_drewN ?_ _) | (with_reducible refine Kd.C_drew ?_))); (case side2 => exact HC1.out); rintro e w' ⟨rfl, ⟨nd, rfl⟩⟩; (try first | exact ⟨rfl, _, World.drewN_drewN _ _ _⟩ | exact ⟨rfl, _, Eq.trans (World.drewN_drewN _ _ _) (congrArg (World.drewN _) (Nat.add_assoc _ _ _))⟩)))
      repeat (go_quiet (first | (go_at_call 11; (with_reducible refine (mummerlaw08_far.calls k _ _ l1 t367 _ ?side1 ?side2 A6.out).mono ?_); (case side1 => repeat (first | exact (Kd.C_below HR1.out HB.out) | (with_reducible refine Kd.C_alloc ?_ _) | (with_reducible refine Kd.C_drewN ?_ _) | (with_reducible refine Kd.C_drew ?_))); (case side2 => exact HC1.out); rintro e w' ⟨rfl, ⟨nd, rfl⟩⟩; (try first | exact ⟨rfl, _, World.drewN_drewN _ _ _⟩ | exact ⟨rfl, _, Eq.trans (World.drewN_drewN _ _ _) (congrArg (World.drewN _) (Nat.add_assoc _ _ _))⟩))); try go_wp2_with (first | (go_at_call 11; (with_reducible refine (mummerlaw08_far.calls k _ _ l1 t367 _ ?side1 ?side2 A6.out).mono ?_); (case side1 => repeat (first | exact (Kd.C_below HR1.out HB.out) | (with_reducible refine Kd.C_alloc ?_ _) | (with_reducible refine Kd.C_drewN ?_ _) | (with_reducible refine Kd.C_drew ?_))); (case side2 => exact HC1.out); rintro e w' ⟨rfl, ⟨nd, rfl⟩⟩; (try first | exact ⟨rfl, _, World.drewN_drewN _ _ _⟩ | exact ⟨rfl, _, Eq.trans (World.drewN_drewN _ _ _) (congrArg (World.drewN _) (Nat.add_assoc _ _ _))⟩))))
      go_meet
      case rel => exact ⟨_, (t367), (by first | rfl | (simp; done) | (simp [*]; done)), H', ⟨by first | omega | exact Nat.le_refl _⟩, ⟨by repeat (first | (with_reducible first | exact HB.out | apply wA | apply wN | apply wD) | exact HB.out)⟩⟩
  case rest =>
    clear HC4
    try clear c1
    try clear p2
    try clear c5
    try clear c5b0
    try clear c5b1
    obtain ⟨kq, x30_3, rfl, HA, HJ3, HB⟩ := hcut
    cases kq with
    | zero => exact absurd HA.out (by simp [mummerlaw08_FaultsMarks.j0])
    | succ kj3 =>
      have H := HA.out
      clear HA
      simp only [mummerlaw08_FaultsMarks.j0] at H
      by_cases c7 : x30_3 = true
      · subst c7
        have H1 : ((mummerlaw08_shown.f).bind fun t368 => (some t368)) = some r := by rw [if_pos rfl] at H; exact H
        clear H
        have H := H1
        clear H1
        replace H := Option.bind_eq_some_iff.mp H
        obtain ⟨t368, A80, H⟩ := H
        replace H : (some t368) = some r := H
        have A8 := ak A80
        clear A80
        obtain rfl := Option.some.inj H
        go_wp2_with (first | (go_at_call 12; (with_reducible refine (mummerlaw08_shown.calls  t368 _ hrt A8.out ⟨Ft.All.stay HT.out (by repeat (first | (with_reducible first | exact HB.out | apply wA | apply wN | apply wD) | exact HB.out | (refine below_set ?_ (by assumption)) | (refine below_set ?_ (Aside0.out (by assumption)))))⟩).mono ?_); rintro e w9 ⟨rfl, hb⟩; have n0_ := ak (below_step (by repeat (first | (with_reducible first | exact HB.out | apply wA | apply wN | apply wD) | exact HB.out)) hb); clear HB; have HB := n0_; clear n0_; (try clear hb); (try clear hb2); (try clear hk); (try clear hi)))
        repeat (go_quiet (first | (go_at_call 12; (with_reducible refine (mummerlaw08_shown.calls  t368 _ hrt A8.out ⟨Ft.All.stay HT.out (by repeat (first | (with_reducible first | exact HB.out | apply wA | apply wN | apply wD) | exact HB.out | (refine below_set ?_ (by assumption)) | (refine below_set ?_ (Aside0.out (by assumption)))))⟩).mono ?_); rintro e w9 ⟨rfl, hb⟩; have n0_ := ak (below_step (by repeat (first | (with_reducible first | exact HB.out | apply wA | apply wN | apply wD) | exact HB.out)) hb); clear HB; have HB := n0_; clear n0_; (try clear hb); (try clear hb2); (try clear hk); (try clear hi))); try go_wp2_with (first | (go_at_call 12; (with_reducible refine (mummerlaw08_shown.calls  t368 _ hrt A8.out ⟨Ft.All.stay HT.out (by repeat (first | (with_reducible first | exact HB.out | apply wA | apply wN | apply wD) | exact HB.out | (refine below_set ?_ (by assumption)) | (refine below_set ?_ (Aside0.out (by assumption)))))⟩).mono ?_); rintro e w9 ⟨rfl, hb⟩; have n0_ := ak (below_step (by repeat (first | (with_reducible first | exact HB.out | apply wA | apply wN | apply wD) | exact HB.out)) hb); clear HB; have HB := n0_; clear n0_; (try clear hb); (try clear hb2); (try clear hk); (try clear hi))))
        go_ret
        exact ⟨by first | rfl | (simp [errW_none, errW_some] <;> rfl) | (simp [*, errW_none, errW_some] <;> rfl), by repeat (first | (with_reducible first | exact HB.out | apply wA | apply wN | apply wD) | exact HB.out)⟩
      · replace c7 := Bool.eq_false_iff.mpr c7
        subst c7
        have H1 : ((faults_Picture.f kj3 l0 l1 a2).bind fun bt369 => (if bt369.2 = 0 then ((faults_Chain.f kj3 l1 a2).bind fun bt372 => ((mummerlaw08_lines.f kj3 bt369.1).bind fun t376 => (if bt372.2 = 0 then (if (t376.length : Int) = (wrap64 (3 * (bt372.1.length : Int))) then ((mummerref02_Starts.f kj3 l0).bind fun bt379 => (mummerlaw08_FaultsMarks.l0 kj3 l0 l1 bt372.1 t376 bt379.1 0)) else (some false)) else (some false)))) else (if bt369.1.toList = ([] : List UInt8) then ((mummerlaw08_shown.f).bind fun t371 => (some t371)) else (some false)))) = some r := by rw [if_neg (show ¬ (false = true) by decide)] at H; exact H
        clear H
        have H := H1
        clear H1
        replace H := Option.bind_eq_some_iff.mp H
        obtain ⟨⟨t369, t370⟩, A100, H⟩ := H
        replace H : (if t370 = 0 then ((faults_Chain.f kj3 l1 a2).bind fun bt372 => ((mummerlaw08_lines.f kj3 t369).bind fun t376 => (if bt372.2 = 0 then (if (t376.length : Int) = (wrap64 (3 * (bt372.1.length : Int))) then ((mummerref02_Starts.f kj3 l0).bind fun bt379 => (mummerlaw08_FaultsMarks.l0 kj3 l0 l1 bt372.1 t376 bt379.1 0)) else (some false)) else (some false)))) else (if t369.toList = ([] : List UInt8) then ((mummerlaw08_shown.f).bind fun t371 => (some t371)) else (some false))) = some r := H
        have A10 := ak A100
        clear A100
        by_cases c11 : t370 = 0
        · rw [if_pos c11] at H
          have c11b0 : (t370 == 0) = true := beq_iff_eq.mpr c11
          have c11b1 : (t370 != 0) = false := bne_eq_false_iff_eq.mpr c11
          clear c11
          replace H := Option.bind_eq_some_iff.mp H
          obtain ⟨⟨t372, t373⟩, A120, H⟩ := H
          replace H : ((mummerlaw08_lines.f kj3 t369).bind fun t376 => (if t373 = 0 then (if (t376.length : Int) = (wrap64 (3 * (t372.length : Int))) then ((mummerref02_Starts.f kj3 l0).bind fun bt379 => (mummerlaw08_FaultsMarks.l0 kj3 l0 l1 t372 t376 bt379.1 0)) else (some false)) else (some false))) = some r := H
          have A12 := ak A120
          clear A120
          replace H := Option.bind_eq_some_iff.mp H
          obtain ⟨t376, A130, H⟩ := H
          replace H : (if t373 = 0 then (if (t376.length : Int) = (wrap64 (3 * (t372.length : Int))) then ((mummerref02_Starts.f kj3 l0).bind fun bt379 => (mummerlaw08_FaultsMarks.l0 kj3 l0 l1 t372 t376 bt379.1 0)) else (some false)) else (some false)) = some r := H
          have A13 := ak A130
          clear A130
          by_cases c14 : t373 = 0
          · rw [if_pos c14] at H
            have c14b0 : (t373 == 0) = true := beq_iff_eq.mpr c14
            have c14b1 : (t373 != 0) = false := bne_eq_false_iff_eq.mpr c14
            clear c14
            by_cases c15 : (t376.length : Int) = (wrap64 (3 * (t372.length : Int)))
            · rw [if_pos c15] at H
              have c15b0 : ((t376.length : Int) == (wrap64 (3 * (t372.length : Int)))) = true := beq_iff_eq.mpr c15
              have c15b1 : ((t376.length : Int) != (wrap64 (3 * (t372.length : Int)))) = false := bne_eq_false_iff_eq.mpr c15
              clear c15
              replace H := Option.bind_eq_some_iff.mp H
              obtain ⟨⟨t379, t380⟩, A160, H⟩ := H
              replace H : (mummerlaw08_FaultsMarks.l0 kj3 l0 l1 t372 t376 t379 0) = some r := H
              have A16 := ak A160
              clear A160
              have H' := ak H
              clear H
              go_wp2_with (first | (go_at_call 21; (with_reducible refine (faults_Picture.calls kj3 _ _ l0 _ _ l1 a2 t369 t370 _ ?side1 ?side2 ?side3 ?side4 A10.out ⟨Ft.All.stay HT.out (by repeat (first | (with_reducible first | exact HB.out | apply wA | apply wN | apply wD) | exact HB.out | (refine below_set ?_ (by assumption)) | (refine below_set ?_ (Aside0.out (by assumption)))))⟩).mono ?_); (case side1 => repeat (first | exact (Kd.C_below HR0.out HB.out) | (with_reducible refine Kd.C_alloc ?_ _) | (with_reducible refine Kd.C_drewN ?_ _) | (with_reducible refine Kd.C_drew ?_))); (case side2 => exact HC0.out); (case side3 => repeat (first | exact (Kd.C_below HR1.out HB.out) | (with_reducible refine Kd.C_alloc ?_ _) | (with_reducible refine Kd.C_drewN ?_ _) | (with_reducible refine Kd.C_drew ?_))); (case side4 => exact HC1.out); rintro e w17 ⟨rfl, hb⟩; have n0_ := ak (below_step (by repeat (first | (with_reducible first | exact HB.out | apply wA | apply wN | apply wD) | exact HB.out)) hb); clear HB; have HB := n0_; clear n0_; (try clear hb); (try clear hb2); (try clear hk); (try clear hi)) | (go_at_call 26; (with_reducible refine (faults_Chain.calls kj3 _ _ l1 a2 t372 t373 _ ?side1 ?side2 A12.out ⟨Ft.All.stay HT.out (by repeat (first | (with_reducible first | exact HB.out | apply wA | apply wN | apply wD) | exact HB.out | (refine below_set ?_ (by assumption)) | (refine below_set ?_ (Aside0.out (by assumption)))))⟩).mono ?_); (case side1 => repeat (first | exact (Kd.C_below HR1.out HB.out) | (with_reducible refine Kd.C_alloc ?_ _) | (with_reducible refine Kd.C_drewN ?_ _) | (with_reducible refine Kd.C_drew ?_))); (case side2 => exact HC1.out); rintro e w18 ⟨v374, rfl, ho0, hb⟩; have n0_ := ak (Kd.R_lower ho0 (below_size (by repeat (first | (with_reducible first | exact HB.out | apply wA | apply wN | apply wD) | exact HB.out)))); have n1_ := ak (below_step (by repeat (first | (with_reducible first | exact HB.out | apply wA | apply wN | apply wD) | exact HB.out)) hb); clear HB; have HO375 := n0_; have HB := n1_; clear n0_ n1_; (try clear hb); (try clear hb2); (try clear hk); (try clear hi); (try clear ho0)) | (go_at_call 27; (with_reducible refine (mummerlaw08_lines.calls kj3 t369 t376 _ A13.out).mono ?_); rintro e w19 ⟨v377, rfl, ho0, hb⟩; have n0_ := ak (Kd.R_below (by (with_reducible repeat (first | apply Kd.R_alloc | apply Kd.R_drewN | apply Kd.R_drew)); exact HO375.out) hb); have n1_ := ak (Kd.R_lower ho0 (below_size (by repeat (first | (with_reducible first | exact HB.out | apply wA | apply wN | apply wD) | exact HB.out)))); have n2_ := ak (below_step (by repeat (first | (with_reducible first | exact HB.out | apply wA | apply wN | apply wD) | exact HB.out)) hb); clear HO375; clear HB; have HO375 := n0_; have HO378 := n1_; have HB := n2_; clear n0_ n1_ n2_; (try clear hb); (try clear hb2); (try clear hk); (try clear hi); (try clear ho0); obtain ⟨Ao20, co20, eo20⟩ := Kd.R_slice HO378.out; subst eo20; obtain ⟨Ao21, co21, eo21⟩ := Kd.R_slice HO375.out; subst eo21) | (go_at_call 25; (with_reducible refine (mummerref02_Starts.calls kj3 _ _ l0 t379 t380 _ ?side1 ?side2 A16.out).mono ?_); (case side1 => repeat (first | exact (Kd.C_below HR0.out HB.out) | (with_reducible refine Kd.C_alloc ?_ _) | (with_reducible refine Kd.C_drewN ?_ _) | (with_reducible refine Kd.C_drew ?_))); (case side2 => exact HC0.out); rintro e w22 ⟨v381, rfl, ho0, hb⟩; have n0_ := ak (Kd.R_elder' (by (with_reducible repeat (first | apply Kd.R_alloc | apply Kd.R_drewN | apply Kd.R_drew)); exact HO375.out) (Kd.R_base ho0) hb); have n1_ := ak (Kd.R_below (by (with_reducible repeat (first | apply Kd.R_alloc | apply Kd.R_drewN | apply Kd.R_drew)); exact HO378.out) hb); have n2_ := ak (Kd.R_lower (Kd.R_new' ho0 (Kd.R_lt (by (with_reducible repeat (first | apply Kd.R_alloc | apply Kd.R_drewN | apply Kd.R_drew)); exact HO375.out))) (below_size (by repeat (first | (with_reducible first | exact HB.out | apply wA | apply wN | apply wD) | exact HB.out)))); have n3_ := ak (below_step (by repeat (first | (with_reducible first | exact HB.out | apply wA | apply wN | apply wD) | exact HB.out)) hb); clear HO375; clear HO378; clear HB; have HO375 := n0_; have HO378 := n1_; have HO382 := n2_; have HB := n3_; clear n0_ n1_ n2_ n3_; (try clear hb); (try clear hb2); (try clear hk); (try clear hi); (try clear ho0)))
              repeat (go_quiet (first | (go_at_call 21; (with_reducible refine (faults_Picture.calls kj3 _ _ l0 _ _ l1 a2 t369 t370 _ ?side1 ?side2 ?side3 ?side4 A10.out ⟨Ft.All.stay HT.out (by repeat (first | (with_reducible first | exact HB.out | apply wA | apply wN | apply wD) | exact HB.out | (refine below_set ?_ (by assumption)) | (refine below_set ?_ (Aside0.out (by assumption)))))⟩).mono ?_); (case side1 => repeat (first | exact (Kd.C_below HR0.out HB.out) | (with_reducible refine Kd.C_alloc ?_ _) | (with_reducible refine Kd.C_drewN ?_ _) | (with_reducible refine Kd.C_drew ?_))); (case side2 => exact HC0.out); (case side3 => repeat (first | exact (Kd.C_below HR1.out HB.out) | (with_reducible refine Kd.C_alloc ?_ _) | (with_reducible refine Kd.C_drewN ?_ _) | (with_reducible refine Kd.C_drew ?_))); (case side4 => exact HC1.out); rintro e w17 ⟨rfl, hb⟩; have n0_ := ak (below_step (by repeat (first | (with_reducible first | exact HB.out | apply wA | apply wN | apply wD) | exact HB.out)) hb); clear HB; have HB := n0_; clear n0_; (try clear hb); (try clear hb2); (try clear hk); (try clear hi)) | (go_at_call 26; (with_reducible refine (faults_Chain.calls kj3 _ _ l1 a2 t372 t373 _ ?side1 ?side2 A12.out ⟨Ft.All.stay HT.out (by repeat (first | (with_reducible first | exact HB.out | apply wA | apply wN | apply wD) | exact HB.out | (refine below_set ?_ (by assumption)) | (refine below_set ?_ (Aside0.out (by assumption)))))⟩).mono ?_); (case side1 => repeat (first | exact (Kd.C_below HR1.out HB.out) | (with_reducible refine Kd.C_alloc ?_ _) | (with_reducible refine Kd.C_drewN ?_ _) | (with_reducible refine Kd.C_drew ?_))); (case side2 => exact HC1.out); rintro e w18 ⟨v374, rfl, ho0, hb⟩; have n0_ := ak (Kd.R_lower ho0 (below_size (by repeat (first | (with_reducible first | exact HB.out | apply wA | apply wN | apply wD) | exact HB.out)))); have n1_ := ak (below_step (by repeat (first | (with_reducible first | exact HB.out | apply wA | apply wN | apply wD) | exact HB.out)) hb); clear HB; have HO375 := n0_; have HB := n1_; clear n0_ n1_; (try clear hb); (try clear hb2); (try clear hk); (try clear hi); (try clear ho0)) | (go_at_call 27; (with_reducible refine (mummerlaw08_lines.calls kj3 t369 t376 _ A13.out).mono ?_); rintro e w19 ⟨v377, rfl, ho0, hb⟩; have n0_ := ak (Kd.R_below (by (with_reducible repeat (first | apply Kd.R_alloc | apply Kd.R_drewN | apply Kd.R_drew)); exact HO375.out) hb); have n1_ := ak (Kd.R_lower ho0 (below_size (by repeat (first | (with_reducible first | exact HB.out | apply wA | apply wN | apply wD) | exact HB.out)))); have n2_ := ak (below_step (by repeat (first | (with_reducible first | exact HB.out | apply wA | apply wN | apply wD) | exact HB.out)) hb); clear HO375; clear HB; have HO375 := n0_; have HO378 := n1_; have HB := n2_; clear n0_ n1_ n2_; (try clear hb); (try clear hb2); (try clear hk); (try clear hi); (try clear ho0); obtain ⟨Ao20, co20, eo20⟩ := Kd.R_slice HO378.out; subst eo20; obtain ⟨Ao21, co21, eo21⟩ := Kd.R_slice HO375.out; subst eo21) | (go_at_call 25; (with_reducible refine (mummerref02_Starts.calls kj3 _ _ l0 t379 t380 _ ?side1 ?side2 A16.out).mono ?_); (case side1 => repeat (first | exact (Kd.C_below HR0.out HB.out) | (with_reducible refine Kd.C_alloc ?_ _) | (with_reducible refine Kd.C_drewN ?_ _) | (with_reducible refine Kd.C_drew ?_))); (case side2 => exact HC0.out); rintro e w22 ⟨v381, rfl, ho0, hb⟩; have n0_ := ak (Kd.R_elder' (by (with_reducible repeat (first | apply Kd.R_alloc | apply Kd.R_drewN | apply Kd.R_drew)); exact HO375.out) (Kd.R_base ho0) hb); have n1_ := ak (Kd.R_below (by (with_reducible repeat (first | apply Kd.R_alloc | apply Kd.R_drewN | apply Kd.R_drew)); exact HO378.out) hb); have n2_ := ak (Kd.R_lower (Kd.R_new' ho0 (Kd.R_lt (by (with_reducible repeat (first | apply Kd.R_alloc | apply Kd.R_drewN | apply Kd.R_drew)); exact HO375.out))) (below_size (by repeat (first | (with_reducible first | exact HB.out | apply wA | apply wN | apply wD) | exact HB.out)))); have n3_ := ak (below_step (by repeat (first | (with_reducible first | exact HB.out | apply wA | apply wN | apply wD) | exact HB.out)) hb); clear HO375; clear HO378; clear HB; have HO375 := n0_; have HO378 := n1_; have HO382 := n2_; have HB := n3_; clear n0_ n1_ n2_ n3_; (try clear hb); (try clear hb2); (try clear hk); (try clear hi); (try clear ho0))); try go_wp2_with (first | (go_at_call 21; (with_reducible refine (faults_Picture.calls kj3 _ _ l0 _ _ l1 a2 t369 t370 _ ?side1 ?side2 ?side3 ?side4 A10.out ⟨Ft.All.stay HT.out (by repeat (first | (with_reducible first | exact HB.out | apply wA | apply wN | apply wD) | exact HB.out | (refine below_set ?_ (by assumption)) | (refine below_set ?_ (Aside0.out (by assumption)))))⟩).mono ?_); (case side1 => repeat (first | exact (Kd.C_below HR0.out HB.out) | (with_reducible refine Kd.C_alloc ?_ _) | (with_reducible refine Kd.C_drewN ?_ _) | (with_reducible refine Kd.C_drew ?_))); (case side2 => exact HC0.out); (case side3 => repeat (first | exact (Kd.C_below HR1.out HB.out) | (with_reducible refine Kd.C_alloc ?_ _) | (with_reducible refine Kd.C_drewN ?_ _) | (with_reducible refine Kd.C_drew ?_))); (case side4 => exact HC1.out); rintro e w17 ⟨rfl, hb⟩; have n0_ := ak (below_step (by repeat (first | (with_reducible first | exact HB.out | apply wA | apply wN | apply wD) | exact HB.out)) hb); clear HB; have HB := n0_; clear n0_; (try clear hb); (try clear hb2); (try clear hk); (try clear hi)) | (go_at_call 26; (with_reducible refine (faults_Chain.calls kj3 _ _ l1 a2 t372 t373 _ ?side1 ?side2 A12.out ⟨Ft.All.stay HT.out (by repeat (first | (with_reducible first | exact HB.out | apply wA | apply wN | apply wD) | exact HB.out | (refine below_set ?_ (by assumption)) | (refine below_set ?_ (Aside0.out (by assumption)))))⟩).mono ?_); (case side1 => repeat (first | exact (Kd.C_below HR1.out HB.out) | (with_reducible refine Kd.C_alloc ?_ _) | (with_reducible refine Kd.C_drewN ?_ _) | (with_reducible refine Kd.C_drew ?_))); (case side2 => exact HC1.out); rintro e w18 ⟨v374, rfl, ho0, hb⟩; have n0_ := ak (Kd.R_lower ho0 (below_size (by repeat (first | (with_reducible first | exact HB.out | apply wA | apply wN | apply wD) | exact HB.out)))); have n1_ := ak (below_step (by repeat (first | (with_reducible first | exact HB.out | apply wA | apply wN | apply wD) | exact HB.out)) hb); clear HB; have HO375 := n0_; have HB := n1_; clear n0_ n1_; (try clear hb); (try clear hb2); (try clear hk); (try clear hi); (try clear ho0)) | (go_at_call 27; (with_reducible refine (mummerlaw08_lines.calls kj3 t369 t376 _ A13.out).mono ?_); rintro e w19 ⟨v377, rfl, ho0, hb⟩; have n0_ := ak (Kd.R_below (by (with_reducible repeat (first | apply Kd.R_alloc | apply Kd.R_drewN | apply Kd.R_drew)); exact HO375.out) hb); have n1_ := ak (Kd.R_lower ho0 (below_size (by repeat (first | (with_reducible first | exact HB.out | apply wA | apply wN | apply wD) | exact HB.out)))); have n2_ := ak (below_step (by repeat (first | (with_reducible first | exact HB.out | apply wA | apply wN | apply wD) | exact HB.out)) hb); clear HO375; clear HB; have HO375 := n0_; have HO378 := n1_; have HB := n2_; clear n0_ n1_ n2_; (try clear hb); (try clear hb2); (try clear hk); (try clear hi); (try clear ho0); obtain ⟨Ao20, co20, eo20⟩ := Kd.R_slice HO378.out; subst eo20; obtain ⟨Ao21, co21, eo21⟩ := Kd.R_slice HO375.out; subst eo21) | (go_at_call 25; (with_reducible refine (mummerref02_Starts.calls kj3 _ _ l0 t379 t380 _ ?side1 ?side2 A16.out).mono ?_); (case side1 => repeat (first | exact (Kd.C_below HR0.out HB.out) | (with_reducible refine Kd.C_alloc ?_ _) | (with_reducible refine Kd.C_drewN ?_ _) | (with_reducible refine Kd.C_drew ?_))); (case side2 => exact HC0.out); rintro e w22 ⟨v381, rfl, ho0, hb⟩; have n0_ := ak (Kd.R_elder' (by (with_reducible repeat (first | apply Kd.R_alloc | apply Kd.R_drewN | apply Kd.R_drew)); exact HO375.out) (Kd.R_base ho0) hb); have n1_ := ak (Kd.R_below (by (with_reducible repeat (first | apply Kd.R_alloc | apply Kd.R_drewN | apply Kd.R_drew)); exact HO378.out) hb); have n2_ := ak (Kd.R_lower (Kd.R_new' ho0 (Kd.R_lt (by (with_reducible repeat (first | apply Kd.R_alloc | apply Kd.R_drewN | apply Kd.R_drew)); exact HO375.out))) (below_size (by repeat (first | (with_reducible first | exact HB.out | apply wA | apply wN | apply wD) | exact HB.out)))); have n3_ := ak (below_step (by repeat (first | (with_reducible first | exact HB.out | apply wA | apply wN | apply wD) | exact HB.out)) hb); clear HO375; clear HO378; clear HB; have HO375 := n0_; have HO378 := n1_; have HO382 := n2_; have HB := n3_; clear n0_ n1_ n2_ n3_; (try clear hb); (try clear hb2); (try clear hk); (try clear hi); (try clear ho0))))
              go_loopg [14] kj3 (fun kq v14 w' => ∃ (x14_2 : Int), v14 = .int .i64 x14_2 ∧ Aside0 (mummerlaw08_FaultsMarks.l0 kq l0 l1 t372 t376 t379 x14_2 = some r) ∧ Aside0 (kq ≤ kj3) ∧ Aside0 (Kd.R (Kd.int .i64) 3 w' w.heap.size (fun k_ => some k_ ≠ (v381 : Value).ownBlock) (.slice Ao21 t372.length co21) t372) ∧ Aside0 (Kd.R Kd.string 9 w' w.heap.size (fun _ => True) (.slice Ao20 t376.length co20) t376) ∧ Aside0 (Kd.R (Kd.int .i64) 3 w' w.heap.size (fun k_ => some k_ ≠ ((.slice Ao21 t372.length co21) : Value).ownBlock) v381 t379) ∧ Aside0 (Below w.heap.size w w'))
              case atStart => exact ⟨(0), (by first | rfl | (simp; done) | (simp [*]; done)), H', ⟨Nat.le_refl _⟩, ⟨by (with_reducible repeat (first | apply Kd.R_alloc | apply Kd.R_drewN | apply Kd.R_drew)); exact Kd.R_mono HO375.out (fun _ hk => hk.2)⟩, ⟨by (with_reducible repeat (first | apply Kd.R_alloc | apply Kd.R_drewN | apply Kd.R_drew)); exact HO378.out⟩, ⟨by (with_reducible repeat (first | apply Kd.R_alloc | apply Kd.R_drewN | apply Kd.R_drew)); exact Kd.R_mono HO382.out (fun _ hk => hk.2)⟩, ⟨by repeat (first | (with_reducible first | exact HB.out | apply wA | apply wN | apply wD) | exact HB.out)⟩⟩
              case round =>
                clear H'
                try clear c1
                try clear p2
                try clear c5
                try clear c5b0
                try clear c5b1
                try clear p6
                try clear c7
                try clear c11
                try clear c11b0
                try clear c11b1
                try clear c14
                try clear c14b0
                try clear c14b1
                try clear c15
                try clear c15b0
                try clear c15b1
                try clear p2
                obtain ⟨x14_2, rfl, HA, HK2, HO_9, HO_11, HO_12, HB⟩ := hrel
                cases gk with
                | zero => exact absurd HA.out (by simp [mummerlaw08_FaultsMarks.l0])
                | succ k2 =>
                  have H := HA.out
                  clear HA
                  simp only [mummerlaw08_FaultsMarks.l0] at H
                  by_cases c23 : x14_2 < (t372.length : Int)
                  · rw [if_pos c23] at H
                    have c23b0 : decide (x14_2 < (t372.length : Int)) = true := decide_eq_true c23
                    clear c23
                    by_cases c24 : 0 ≤ x14_2
                    · rw [if_pos c24] at H
                      have c24b0 : decide (0 ≤ x14_2) = true := decide_eq_true c24
                      clear c24
                      by_cases c25 : 0 ≤ (rd t372 x14_2)
                      · rw [if_pos c25] at H
                        have c25b0 : decide (0 ≤ (rd t372 x14_2)) = true := decide_eq_true c25
                        clear c25
                        by_cases c26 : (rd t372 x14_2) < (l1.length : Int)
                        · rw [if_pos c26] at H
                          have c26b0 : decide ((rd t372 x14_2) < (l1.length : Int)) = true := decide_eq_true c26
                          clear c26
                          replace H := Option.bind_eq_some_iff.mp H
                          obtain ⟨⟨t387, t388, t389⟩, A270, H⟩ := H
                          replace H : (mummerlaw08_FaultsMarks.l1 k2 l0 l1 t372 t376 t379 x14_2 t388 t389 0 0 ((rd_T41 l1 (rd t372 x14_2)).f2.f0) ((rd_T41 l1 (rd t372 x14_2)).f2.f1)) = some r := H
                          have A27 := ak A270
                          clear A270
                          have H' := ak H
                          clear H
                          have p384 : 0 ≤ (x14_2 : Int) := of_decide_eq_true (by first | (with_reducible assumption) | assumption)
                          have q384 : x14_2 < (t372.length : Int) := of_decide_eq_true (by first | (with_reducible assumption) | assumption)
                          obtain ⟨ad384, e384, hx384_0⟩ := Kd.at_int (Kd.R_reads' HO_9.out).2.2 x14_2 p384 q384
                          cases e384
                          replace p384 := eq_true p384
                          replace q384 := eq_true q384
                          have p385 : 0 ≤ ((rd t372 x14_2) : Int) := of_decide_eq_true (by first | (with_reducible assumption) | assumption)
                          have q385 : (rd t372 x14_2) < (l1.length : Int) := of_decide_eq_true (by first | (with_reducible assumption) | assumption)
                          obtain ⟨ad385, e385, hx385_0, hx385_1, hx385_2, hx385_3, hx385_4, hx385_5⟩ := at_T41 HR1.out (rd t372 x14_2) p385 q385
                          cases e385
                          replace hx385_0 := (HB.out.cell (World.block_lt_of_cell? w _ hx385_0)).trans hx385_0
                          replace hx385_1 := (HB.out.cell (World.block_lt_of_cell? w _ hx385_1)).trans hx385_1
                          replace hx385_2 := (HB.out.cell (World.block_lt_of_cell? w _ hx385_2)).trans hx385_2
                          replace hx385_3 := (HB.out.cell (World.block_lt_of_cell? w _ hx385_3)).trans hx385_3
                          replace hx385_4 := (HB.out.cell (World.block_lt_of_cell? w _ hx385_4)).trans hx385_4
                          replace hx385_5 := (HB.out.cell (World.block_lt_of_cell? w _ hx385_5)).trans hx385_5
                          replace p385 := eq_true p385
                          replace q385 := eq_true q385
                          go_wp2_with (first | ((with_reducible refine gate_dst (N := 15) rfl ?_); (try (refine gate_guard (by rfl) ?_; dsimp only)); refine box_event ?hg (N := 15) ?hd (cs := #[.int .i64 0, .int .i64 0]) (t := 39) ?hr ?_; (case hd => rfl); (case hg => rfl); (case hr => first | (go_simp; done) | (go_simp; rfl)); intro gb386 hg w28 hbox hb; have n0_ := ak (Kd.R_below (by (with_reducible repeat (first | apply Kd.R_alloc | apply Kd.R_drewN | apply Kd.R_drew)); exact HO_9.out) hb); have n1_ := ak (Kd.R_below (by (with_reducible repeat (first | apply Kd.R_alloc | apply Kd.R_drewN | apply Kd.R_drew)); exact HO_11.out) hb); have n2_ := ak (Kd.R_below (by (with_reducible repeat (first | apply Kd.R_alloc | apply Kd.R_drewN | apply Kd.R_drew)); exact HO_12.out) hb); have n3_ := ak (below_step (by repeat (first | (with_reducible first | exact HB.out | apply wA | apply wN | apply wD) | exact HB.out)) hb); have n4_ := ak (hbox); have n5_ := ak ((by rw [hg]; exact (below_size (by repeat (first | (with_reducible first | exact HB.out | apply wA | apply wN | apply wD) | exact HB.out))) : w.heap.size ≤ gb386)); have n6_ := ak ((by rw [hg]; exact (below_size (by repeat (first | (with_reducible first | exact HB.out | apply wA | apply wN | apply wD) | exact HB.out))) : w.heap.size ≤ gb386)); clear HO_9; clear HO_11; clear HO_12; clear HB; have HO_9 := n0_; have HO_11 := n1_; have HO_12 := n2_; have HB := n3_; have BK386 := n4_; have GW386 := n5_; have GE386 := n6_; clear n0_ n1_ n2_ n3_ n4_ n5_ n6_; clear hb hbox hg; have hcz29_0 : w28.cell? ⟨gb386, 0, none⟩ = some (.int .i64 0) := (blk_cell BK386.out 0).trans rfl; have hcz29_1 : w28.cell? ⟨gb386, 1, none⟩ = some (.int .i64 0) := (blk_cell BK386.out 1).trans rfl; have hfz29_0 := blk_frozen BK386.out 0; have hfz29_1 := blk_frozen BK386.out 1) | (go_at_call 15; (with_reducible refine (faults_Place.calls k2 _ _ l0 ((rd_T41 l1 (rd t372 x14_2)).f2.f0) t387 t388 t389 _ ?side1 ?side2 A27.out ⟨Ft.All.stay HT.out (by repeat (first | (with_reducible first | exact HB.out | apply wA | apply wN | apply wD) | exact HB.out | (refine below_set ?_ (by assumption)) | (refine below_set ?_ (Aside0.out (by assumption)))))⟩).mono ?_); (case side1 => exact Kd.C_below HR0.out (by repeat (first | (with_reducible first | exact HB.out | apply wA | apply wN | apply wD | refine below_set ?_ GE386.out) | exact HB.out))); (case side2 => exact HC0.out); rintro e w30 ⟨rfl, hb⟩; have n0_ := ak (Kd.R_below (by (with_reducible repeat (first | apply Kd.R_alloc | apply Kd.R_drewN | apply Kd.R_drew)); exact (Kd.R_mono (Kd.R_far (p := ⟨gb386, 1, none⟩) (Kd.R_far (p := ⟨gb386, 0, none⟩) (Kd.R_types HO_9.out BK386.out (by decide)) (fun _ hk => hk.2) (.int .i64 ((rd_T41 l1 (rd t372 x14_2)).f2.f0))) (fun _ hk => hk.2) (.int .i64 ((rd_T41 l1 (rd t372 x14_2)).f2.f1))) (fun _ h_ => h_.1))) hb); have n1_ := ak (Kd.R_below (by (with_reducible repeat (first | apply Kd.R_alloc | apply Kd.R_drewN | apply Kd.R_drew)); exact (Kd.R_mono (Kd.R_far (p := ⟨gb386, 1, none⟩) (Kd.R_far (p := ⟨gb386, 0, none⟩) (Kd.R_types HO_11.out BK386.out (by decide)) (fun _ hk => hk.2) (.int .i64 ((rd_T41 l1 (rd t372 x14_2)).f2.f0))) (fun _ hk => hk.2) (.int .i64 ((rd_T41 l1 (rd t372 x14_2)).f2.f1))) (fun _ h_ => h_.1))) hb); have n2_ := ak (Kd.R_below (by (with_reducible repeat (first | apply Kd.R_alloc | apply Kd.R_drewN | apply Kd.R_drew)); exact (Kd.R_mono (Kd.R_far (p := ⟨gb386, 1, none⟩) (Kd.R_far (p := ⟨gb386, 0, none⟩) (Kd.R_types HO_12.out BK386.out (by decide)) (fun _ hk => hk.2) (.int .i64 ((rd_T41 l1 (rd t372 x14_2)).f2.f0))) (fun _ hk => hk.2) (.int .i64 ((rd_T41 l1 (rd t372 x14_2)).f2.f1))) (fun _ h_ => h_.1))) hb); have n3_ := ak (blk_below (g := gb386) (o := .cells #[.int .i64 ((rd_T41 l1 (rd t372 x14_2)).f2.f0), .int .i64 ((rd_T41 l1 (rd t372 x14_2)).f2.f1)] 39 (0, 0)) (by (with_reducible repeat (first | refine bN ?_ _ | refine bD ?_ | refine bA ?_ _)); refine blk_put (cs := #[.int .i64 ((rd_T41 l1 (rd t372 x14_2)).f2.f0), .int .i64 0]) ?_ 1 _ rfl; (with_reducible repeat (first | refine bN ?_ _ | refine bD ?_ | refine bA ?_ _)); refine blk_put (cs := #[.int .i64 0, .int .i64 0]) ?_ 0 _ rfl; (with_reducible repeat (first | refine bN ?_ _ | refine bD ?_ | refine bA ?_ _)); exact BK386.out) hb); have n4_ := ak (below_step (by repeat (first | (with_reducible first | exact HB.out | apply wA | apply wN | apply wD | refine below_set ?_ GE386.out) | exact HB.out)) hb); clear HO_9; clear HO_11; clear HO_12; clear BK386; clear HB; have HO_9 := n0_; have HO_11 := n1_; have HO_12 := n2_; have BK386 := n3_; have HB := n4_; clear n0_ n1_ n2_ n3_ n4_; (try clear hb); (try clear hb2); (try clear hk); (try clear hi)))
                          repeat (go_quiet (first | ((with_reducible refine gate_dst (N := 15) rfl ?_); (try (refine gate_guard (by rfl) ?_; dsimp only)); refine box_event ?hg (N := 15) ?hd (cs := #[.int .i64 0, .int .i64 0]) (t := 39) ?hr ?_; (case hd => rfl); (case hg => rfl); (case hr => first | (go_simp; done) | (go_simp; rfl)); intro gb386 hg w28 hbox hb; have n0_ := ak (Kd.R_below (by (with_reducible repeat (first | apply Kd.R_alloc | apply Kd.R_drewN | apply Kd.R_drew)); exact HO_9.out) hb); have n1_ := ak (Kd.R_below (by (with_reducible repeat (first | apply Kd.R_alloc | apply Kd.R_drewN | apply Kd.R_drew)); exact HO_11.out) hb); have n2_ := ak (Kd.R_below (by (with_reducible repeat (first | apply Kd.R_alloc | apply Kd.R_drewN | apply Kd.R_drew)); exact HO_12.out) hb); have n3_ := ak (below_step (by repeat (first | (with_reducible first | exact HB.out | apply wA | apply wN | apply wD) | exact HB.out)) hb); have n4_ := ak (hbox); have n5_ := ak ((by rw [hg]; exact (below_size (by repeat (first | (with_reducible first | exact HB.out | apply wA | apply wN | apply wD) | exact HB.out))) : w.heap.size ≤ gb386)); have n6_ := ak ((by rw [hg]; exact (below_size (by repeat (first | (with_reducible first | exact HB.out | apply wA | apply wN | apply wD) | exact HB.out))) : w.heap.size ≤ gb386)); clear HO_9; clear HO_11; clear HO_12; clear HB; have HO_9 := n0_; have HO_11 := n1_; have HO_12 := n2_; have HB := n3_; have BK386 := n4_; have GW386 := n5_; have GE386 := n6_; clear n0_ n1_ n2_ n3_ n4_ n5_ n6_; clear hb hbox hg; have hcz29_0 : w28.cell? ⟨gb386, 0, none⟩ = some (.int .i64 0) := (blk_cell BK386.out 0).trans rfl; have hcz29_1 : w28.cell? ⟨gb386, 1, none⟩ = some (.int .i64 0) := (blk_cell BK386.out 1).trans rfl; have hfz29_0 := blk_frozen BK386.out 0; have hfz29_1 := blk_frozen BK386.out 1) | (go_at_call 15; (with_reducible refine (faults_Place.calls k2 _ _ l0 ((rd_T41 l1 (rd t372 x14_2)).f2.f0) t387 t388 t389 _ ?side1 ?side2 A27.out ⟨Ft.All.stay HT.out (by repeat (first | (with_reducible first | exact HB.out | apply wA | apply wN | apply wD) | exact HB.out | (refine below_set ?_ (by assumption)) | (refine below_set ?_ (Aside0.out (by assumption)))))⟩).mono ?_); (case side1 => exact Kd.C_below HR0.out (by repeat (first | (with_reducible first | exact HB.out | apply wA | apply wN | apply wD | refine below_set ?_ GE386.out) | exact HB.out))); (case side2 => exact HC0.out); rintro e w30 ⟨rfl, hb⟩; have n0_ := ak (Kd.R_below (by (with_reducible repeat (first | apply Kd.R_alloc | apply Kd.R_drewN | apply Kd.R_drew)); exact (Kd.R_mono (Kd.R_far (p := ⟨gb386, 1, none⟩) (Kd.R_far (p := ⟨gb386, 0, none⟩) (Kd.R_types HO_9.out BK386.out (by decide)) (fun _ hk => hk.2) (.int .i64 ((rd_T41 l1 (rd t372 x14_2)).f2.f0))) (fun _ hk => hk.2) (.int .i64 ((rd_T41 l1 (rd t372 x14_2)).f2.f1))) (fun _ h_ => h_.1))) hb); have n1_ := ak (Kd.R_below (by (with_reducible repeat (first | apply Kd.R_alloc | apply Kd.R_drewN | apply Kd.R_drew)); exact (Kd.R_mono (Kd.R_far (p := ⟨gb386, 1, none⟩) (Kd.R_far (p := ⟨gb386, 0, none⟩) (Kd.R_types HO_11.out BK386.out (by decide)) (fun _ hk => hk.2) (.int .i64 ((rd_T41 l1 (rd t372 x14_2)).f2.f0))) (fun _ hk => hk.2) (.int .i64 ((rd_T41 l1 (rd t372 x14_2)).f2.f1))) (fun _ h_ => h_.1))) hb); have n2_ := ak (Kd.R_below (by (with_reducible repeat (first | apply Kd.R_alloc | apply Kd.R_drewN | apply Kd.R_drew)); exact (Kd.R_mono (Kd.R_far (p := ⟨gb386, 1, none⟩) (Kd.R_far (p := ⟨gb386, 0, none⟩) (Kd.R_types HO_12.out BK386.out (by decide)) (fun _ hk => hk.2) (.int .i64 ((rd_T41 l1 (rd t372 x14_2)).f2.f0))) (fun _ hk => hk.2) (.int .i64 ((rd_T41 l1 (rd t372 x14_2)).f2.f1))) (fun _ h_ => h_.1))) hb); have n3_ := ak (blk_below (g := gb386) (o := .cells #[.int .i64 ((rd_T41 l1 (rd t372 x14_2)).f2.f0), .int .i64 ((rd_T41 l1 (rd t372 x14_2)).f2.f1)] 39 (0, 0)) (by (with_reducible repeat (first | refine bN ?_ _ | refine bD ?_ | refine bA ?_ _)); refine blk_put (cs := #[.int .i64 ((rd_T41 l1 (rd t372 x14_2)).f2.f0), .int .i64 0]) ?_ 1 _ rfl; (with_reducible repeat (first | refine bN ?_ _ | refine bD ?_ | refine bA ?_ _)); refine blk_put (cs := #[.int .i64 0, .int .i64 0]) ?_ 0 _ rfl; (with_reducible repeat (first | refine bN ?_ _ | refine bD ?_ | refine bA ?_ _)); exact BK386.out) hb); have n4_ := ak (below_step (by repeat (first | (with_reducible first | exact HB.out | apply wA | apply wN | apply wD | refine below_set ?_ GE386.out) | exact HB.out)) hb); clear HO_9; clear HO_11; clear HO_12; clear BK386; clear HB; have HO_9 := n0_; have HO_11 := n1_; have HO_12 := n2_; have BK386 := n3_; have HB := n4_; clear n0_ n1_ n2_ n3_ n4_; (try clear hb); (try clear hb2); (try clear hk); (try clear hi))); try go_wp2_with (first | ((with_reducible refine gate_dst (N := 15) rfl ?_); (try (refine gate_guard (by rfl) ?_; dsimp only)); refine box_event ?hg (N := 15) ?hd (cs := #[.int .i64 0, .int .i64 0]) (t := 39) ?hr ?_; (case hd => rfl); (case hg => rfl); (case hr => first | (go_simp; done) | (go_simp; rfl)); intro gb386 hg w28 hbox hb; have n0_ := ak (Kd.R_below (by (with_reducible repeat (first | apply Kd.R_alloc | apply Kd.R_drewN | apply Kd.R_drew)); exact HO_9.out) hb); have n1_ := ak (Kd.R_below (by (with_reducible repeat (first | apply Kd.R_alloc | apply Kd.R_drewN | apply Kd.R_drew)); exact HO_11.out) hb); have n2_ := ak (Kd.R_below (by (with_reducible repeat (first | apply Kd.R_alloc | apply Kd.R_drewN | apply Kd.R_drew)); exact HO_12.out) hb); have n3_ := ak (below_step (by repeat (first | (with_reducible first | exact HB.out | apply wA | apply wN | apply wD) | exact HB.out)) hb); have n4_ := ak (hbox); have n5_ := ak ((by rw [hg]; exact (below_size (by repeat (first | (with_reducible first | exact HB.out | apply wA | apply wN | apply wD) | exact HB.out))) : w.heap.size ≤ gb386)); have n6_ := ak ((by rw [hg]; exact (below_size (by repeat (first | (with_reducible first | exact HB.out | apply wA | apply wN | apply wD) | exact HB.out))) : w.heap.size ≤ gb386)); clear HO_9; clear HO_11; clear HO_12; clear HB; have HO_9 := n0_; have HO_11 := n1_; have HO_12 := n2_; have HB := n3_; have BK386 := n4_; have GW386 := n5_; have GE386 := n6_; clear n0_ n1_ n2_ n3_ n4_ n5_ n6_; clear hb hbox hg; have hcz29_0 : w28.cell? ⟨gb386, 0, none⟩ = some (.int .i64 0) := (blk_cell BK386.out 0).trans rfl; have hcz29_1 : w28.cell? ⟨gb386, 1, none⟩ = some (.int .i64 0) := (blk_cell BK386.out 1).trans rfl; have hfz29_0 := blk_frozen BK386.out 0; have hfz29_1 := blk_frozen BK386.out 1) | (go_at_call 15; (with_reducible refine (faults_Place.calls k2 _ _ l0 ((rd_T41 l1 (rd t372 x14_2)).f2.f0) t387 t388 t389 _ ?side1 ?side2 A27.out ⟨Ft.All.stay HT.out (by repeat (first | (with_reducible first | exact HB.out | apply wA | apply wN | apply wD) | exact HB.out | (refine below_set ?_ (by assumption)) | (refine below_set ?_ (Aside0.out (by assumption)))))⟩).mono ?_); (case side1 => exact Kd.C_below HR0.out (by repeat (first | (with_reducible first | exact HB.out | apply wA | apply wN | apply wD | refine below_set ?_ GE386.out) | exact HB.out))); (case side2 => exact HC0.out); rintro e w30 ⟨rfl, hb⟩; have n0_ := ak (Kd.R_below (by (with_reducible repeat (first | apply Kd.R_alloc | apply Kd.R_drewN | apply Kd.R_drew)); exact (Kd.R_mono (Kd.R_far (p := ⟨gb386, 1, none⟩) (Kd.R_far (p := ⟨gb386, 0, none⟩) (Kd.R_types HO_9.out BK386.out (by decide)) (fun _ hk => hk.2) (.int .i64 ((rd_T41 l1 (rd t372 x14_2)).f2.f0))) (fun _ hk => hk.2) (.int .i64 ((rd_T41 l1 (rd t372 x14_2)).f2.f1))) (fun _ h_ => h_.1))) hb); have n1_ := ak (Kd.R_below (by (with_reducible repeat (first | apply Kd.R_alloc | apply Kd.R_drewN | apply Kd.R_drew)); exact (Kd.R_mono (Kd.R_far (p := ⟨gb386, 1, none⟩) (Kd.R_far (p := ⟨gb386, 0, none⟩) (Kd.R_types HO_11.out BK386.out (by decide)) (fun _ hk => hk.2) (.int .i64 ((rd_T41 l1 (rd t372 x14_2)).f2.f0))) (fun _ hk => hk.2) (.int .i64 ((rd_T41 l1 (rd t372 x14_2)).f2.f1))) (fun _ h_ => h_.1))) hb); have n2_ := ak (Kd.R_below (by (with_reducible repeat (first | apply Kd.R_alloc | apply Kd.R_drewN | apply Kd.R_drew)); exact (Kd.R_mono (Kd.R_far (p := ⟨gb386, 1, none⟩) (Kd.R_far (p := ⟨gb386, 0, none⟩) (Kd.R_types HO_12.out BK386.out (by decide)) (fun _ hk => hk.2) (.int .i64 ((rd_T41 l1 (rd t372 x14_2)).f2.f0))) (fun _ hk => hk.2) (.int .i64 ((rd_T41 l1 (rd t372 x14_2)).f2.f1))) (fun _ h_ => h_.1))) hb); have n3_ := ak (blk_below (g := gb386) (o := .cells #[.int .i64 ((rd_T41 l1 (rd t372 x14_2)).f2.f0), .int .i64 ((rd_T41 l1 (rd t372 x14_2)).f2.f1)] 39 (0, 0)) (by (with_reducible repeat (first | refine bN ?_ _ | refine bD ?_ | refine bA ?_ _)); refine blk_put (cs := #[.int .i64 ((rd_T41 l1 (rd t372 x14_2)).f2.f0), .int .i64 0]) ?_ 1 _ rfl; (with_reducible repeat (first | refine bN ?_ _ | refine bD ?_ | refine bA ?_ _)); refine blk_put (cs := #[.int .i64 0, .int .i64 0]) ?_ 0 _ rfl; (with_reducible repeat (first | refine bN ?_ _ | refine bD ?_ | refine bA ?_ _)); exact BK386.out) hb); have n4_ := ak (below_step (by repeat (first | (with_reducible first | exact HB.out | apply wA | apply wN | apply wD | refine below_set ?_ GE386.out) | exact HB.out)) hb); clear HO_9; clear HO_11; clear HO_12; clear BK386; clear HB; have HO_9 := n0_; have HO_11 := n1_; have HO_12 := n2_; have BK386 := n3_; have HB := n4_; clear n0_ n1_ n2_ n3_ n4_; (try clear hb); (try clear hb2); (try clear hk); (try clear hi))))
                          go_loopg [19, 20] k2 (fun kq v19 v20 w' => ∃ (x19_3 : Int) (x20_3 : Int), v19 = .int .i64 x19_3 ∧ v20 = .int .i64 x20_3 ∧ Aside0 (mummerlaw08_FaultsMarks.l1 kq l0 l1 t372 t376 t379 x14_2 t388 t389 x19_3 x20_3 ((rd_T41 l1 (rd t372 x14_2)).f2.f0) ((rd_T41 l1 (rd t372 x14_2)).f2.f1) = some r) ∧ Aside0 (kq ≤ k2) ∧ Aside0 (Kd.R (Kd.int .i64) 3 w' w.heap.size (fun k_ => some k_ ≠ (v381 : Value).ownBlock) (.slice (some ad384) t372.length co21) t372) ∧ Aside0 (Kd.R Kd.string 9 w' w.heap.size (fun _ => True) (.slice Ao20 t376.length co20) t376) ∧ Aside0 (Kd.R (Kd.int .i64) 3 w' w.heap.size (fun k_ => some k_ ≠ ((.slice (some ad384) t372.length co21) : Value).ownBlock) v381 t379) ∧ Aside0 (w'.heap[gb386]? = some (.cells #[.int .i64 ((rd_T41 l1 (rd t372 x14_2)).f2.f0), .int .i64 ((rd_T41 l1 (rd t372 x14_2)).f2.f1)] 39 (0, 0))) ∧ Aside0 (Below w.heap.size w w'))
                          case atStart => exact ⟨(0), (0), (by first | rfl | (simp; done) | (simp [*]; done)), (by first | rfl | (simp; done) | (simp [*]; done)), H', ⟨Nat.le_refl _⟩, ⟨by (with_reducible repeat (first | apply Kd.R_alloc | apply Kd.R_drewN | apply Kd.R_drew)); exact HO_9.out⟩, ⟨by (with_reducible repeat (first | apply Kd.R_alloc | apply Kd.R_drewN | apply Kd.R_drew)); exact HO_11.out⟩, ⟨by (with_reducible repeat (first | apply Kd.R_alloc | apply Kd.R_drewN | apply Kd.R_drew)); exact HO_12.out⟩, ⟨by (with_reducible repeat (first | refine bN ?_ _ | refine bD ?_ | refine bA ?_ _)); exact BK386.out⟩, ⟨by repeat (first | (with_reducible first | exact HB.out | apply wA | apply wN | apply wD | refine below_set ?_ GE386.out) | exact HB.out)⟩⟩
                          case round =>
                            clear H'
                            try clear c1
                            try clear c2
                            try clear p2
                            try clear p3
                            try clear q3
                            try clear hx3
                            try clear c5
                            try clear c5b0
                            try clear c5b1
                            try clear p6
                            try clear c7
                            try clear c11
                            try clear c11b0
                            try clear c11b1
                            try clear c14
                            try clear c14b0
                            try clear c14b1
                            try clear c15
                            try clear c15b0
                            try clear c15b1
                            try clear c23
                            try clear c23b0
                            try clear c24
                            try clear c24b0
                            try clear c25
                            try clear c25b0
                            try clear c26
                            try clear c26b0
                            try clear hcz29_0
                            try clear hcz29_1
                            try clear hfz29_0
                            try clear hfz29_1
                            try clear hx384_0
                            try clear hx385_0
                            try clear hx385_1
                            try clear hx385_2
                            try clear hx385_3
                            try clear hx385_4
                            try clear hx385_5
                            try clear p2
                            try clear p384
                            try clear p385
                            try clear p6
                            try clear q384
                            try clear q385
                            obtain ⟨x19_3, x20_3, rfl, rfl, HA, HK3, HO_9, HO_11, HO_12, BK386, HB⟩ := hrel
                            cases gk with
                            | zero => exact absurd HA.out (by simp [mummerlaw08_FaultsMarks.l1])
                            | succ k3 =>
                              have H := HA.out
                              clear HA
                              simp only [mummerlaw08_FaultsMarks.l1] at H
                              by_cases c31 : x20_3 < (t379.length : Int)
                              · rw [if_pos c31] at H
                                have c31b0 : decide (x20_3 < (t379.length : Int)) = true := decide_eq_true c31
                                clear c31
                                by_cases c32 : 0 ≤ x20_3
                                · rw [if_pos c32] at H
                                  have c32b0 : decide (0 ≤ x20_3) = true := decide_eq_true c32
                                  clear c32
                                  by_cases c33 : (rd t379 x20_3) ≥ ((rd_T41 l1 (rd t372 x14_2)).f2.f0)
                                  · rw [if_pos c33] at H
                                    have c33b0 : decide (((rd_T41 l1 (rd t372 x14_2)).f2.f0) ≤ (rd t379 x20_3)) = true := decide_eq_true c33
                                    clear c33
                                    by_cases c34 : (rd t379 x20_3) < ((rd_T41 l1 (rd t372 x14_2)).f2.f1)
                                    · rw [if_pos c34] at H
                                      have c34b0 : decide ((rd t379 x20_3) < ((rd_T41 l1 (rd t372 x14_2)).f2.f1)) = true := decide_eq_true c34
                                      clear c34
                                      by_cases c35 : (rd t379 x20_3) < (l0.length : Int)
                                      · rw [if_pos c35] at H
                                        have c35b0 : decide ((rd t379 x20_3) < (l0.length : Int)) = true := decide_eq_true c35
                                        clear c35
                                        replace H := Option.bind_eq_some_iff.mp H
                                        obtain ⟨t391, A360, H⟩ := H
                                        replace H : (if t391 = true then (mummerlaw08_FaultsMarks.l1 k3 l0 l1 t372 t376 t379 x14_2 t388 t389 x19_3 (wrap64 (x20_3 + 1)) ((rd_T41 l1 (rd t372 x14_2)).f2.f0) ((rd_T41 l1 (rd t372 x14_2)).f2.f1)) else (mummerlaw08_FaultsMarks.l1 k3 l0 l1 t372 t376 t379 x14_2 t388 t389 (wrap64 (x19_3 + 1)) (wrap64 (x20_3 + 1)) ((rd_T41 l1 (rd t372 x14_2)).f2.f0) ((rd_T41 l1 (rd t372 x14_2)).f2.f1))) = some r := H
                                        have A36 := ak A360
                                        clear A360
                                        by_cases c37 : t391 = true
                                        · subst c37
                                          have H1 : (mummerlaw08_FaultsMarks.l1 k3 l0 l1 t372 t376 t379 x14_2 t388 t389 x19_3 (wrap64 (x20_3 + 1)) ((rd_T41 l1 (rd t372 x14_2)).f2.f0) ((rd_T41 l1 (rd t372 x14_2)).f2.f1)) = some r := by rw [if_pos rfl] at H; exact H
                                          clear H
                                          have H := H1
                                          clear H1
                                          have H' := ak H
                                          clear H
                                          obtain ⟨Ao38, co38, eo38⟩ := Kd.R_slice HO_12.out
                                          subst eo38
                                          have p390 : 0 ≤ (x20_3 : Int) := of_decide_eq_true (by first | (with_reducible assumption) | assumption)
                                          have q390 : x20_3 < (t379.length : Int) := of_decide_eq_true (by first | (with_reducible assumption) | assumption)
                                          obtain ⟨ad390, e390, hx390_0⟩ := Kd.at_int (Kd.R_reads' HO_12.out).2.2 x20_3 p390 q390
                                          cases e390
                                          replace p390 := eq_true p390
                                          replace q390 := eq_true q390
                                          have hcz39_0 : wr.cell? ⟨gb386, 0, none⟩ = some (.int .i64 ((rd_T41 l1 (rd t372 x14_2)).f2.f0)) := (blk_cell BK386.out 0).trans rfl
                                          have hcz39_1 : wr.cell? ⟨gb386, 1, none⟩ = some (.int .i64 ((rd_T41 l1 (rd t372 x14_2)).f2.f1)) := (blk_cell BK386.out 1).trans rfl
                                          have hfz39_0 := blk_frozen BK386.out 0
                                          have hfz39_1 := blk_frozen BK386.out 1
                                          go_wp2_with (first | (go_at_call 28; (with_reducible refine (mummerlaw08_crossed.calls k3 _ _ l0 ((rd_T41 l1 (rd t372 x14_2)).f2.f0) (wrap64 ((rd t379 x20_3) + 1)) true _ ?side1 ?side2 A36.out).mono ?_); (case side1 => repeat (first | exact (Kd.C_below HR0.out HB.out) | (with_reducible refine Kd.C_alloc ?_ _) | (with_reducible refine Kd.C_drewN ?_ _) | (with_reducible refine Kd.C_drew ?_))); (case side2 => exact HC0.out); rintro e w' ⟨rfl, ⟨nd, rfl⟩⟩; (try first | exact ⟨rfl, _, World.drewN_drewN _ _ _⟩ | exact ⟨rfl, _, Eq.trans (World.drewN_drewN _ _ _) (congrArg (World.drewN _) (Nat.add_assoc _ _ _))⟩)))
                                          repeat (go_quiet (first | (go_at_call 28; (with_reducible refine (mummerlaw08_crossed.calls k3 _ _ l0 ((rd_T41 l1 (rd t372 x14_2)).f2.f0) (wrap64 ((rd t379 x20_3) + 1)) true _ ?side1 ?side2 A36.out).mono ?_); (case side1 => repeat (first | exact (Kd.C_below HR0.out HB.out) | (with_reducible refine Kd.C_alloc ?_ _) | (with_reducible refine Kd.C_drewN ?_ _) | (with_reducible refine Kd.C_drew ?_))); (case side2 => exact HC0.out); rintro e w' ⟨rfl, ⟨nd, rfl⟩⟩; (try first | exact ⟨rfl, _, World.drewN_drewN _ _ _⟩ | exact ⟨rfl, _, Eq.trans (World.drewN_drewN _ _ _) (congrArg (World.drewN _) (Nat.add_assoc _ _ _))⟩))); try go_wp2_with (first | (go_at_call 28; (with_reducible refine (mummerlaw08_crossed.calls k3 _ _ l0 ((rd_T41 l1 (rd t372 x14_2)).f2.f0) (wrap64 ((rd t379 x20_3) + 1)) true _ ?side1 ?side2 A36.out).mono ?_); (case side1 => repeat (first | exact (Kd.C_below HR0.out HB.out) | (with_reducible refine Kd.C_alloc ?_ _) | (with_reducible refine Kd.C_drewN ?_ _) | (with_reducible refine Kd.C_drew ?_))); (case side2 => exact HC0.out); rintro e w' ⟨rfl, ⟨nd, rfl⟩⟩; (try first | exact ⟨rfl, _, World.drewN_drewN _ _ _⟩ | exact ⟨rfl, _, Eq.trans (World.drewN_drewN _ _ _) (congrArg (World.drewN _) (Nat.add_assoc _ _ _))⟩))))
                                          go_roundg k3
                                          case measure => have := HJ3.out; have := HK2.out; have := HK3.out; omega
                                          case rel => exact ⟨(x19_3), (wrap64 (x20_3 + 1)), (by first | rfl | (simp; done) | (simp [*]; done)), (by first | rfl | (simp; done) | (simp [*]; done)), H', ⟨by have := HJ3.out; have := HK2.out; have := HK3.out; omega⟩, ⟨by (with_reducible repeat (first | apply Kd.R_alloc | apply Kd.R_drewN | apply Kd.R_drew)); exact HO_9.out⟩, ⟨by (with_reducible repeat (first | apply Kd.R_alloc | apply Kd.R_drewN | apply Kd.R_drew)); exact HO_11.out⟩, ⟨by (with_reducible repeat (first | apply Kd.R_alloc | apply Kd.R_drewN | apply Kd.R_drew)); exact HO_12.out⟩, ⟨by (with_reducible repeat (first | refine bN ?_ _ | refine bD ?_ | refine bA ?_ _)); exact BK386.out⟩, ⟨by repeat (first | (with_reducible first | exact HB.out | apply wA | apply wN | apply wD | refine below_set ?_ GE386.out) | exact HB.out)⟩⟩
                                        · replace c37 := Bool.eq_false_iff.mpr c37
                                          subst c37
                                          have H1 : (mummerlaw08_FaultsMarks.l1 k3 l0 l1 t372 t376 t379 x14_2 t388 t389 (wrap64 (x19_3 + 1)) (wrap64 (x20_3 + 1)) ((rd_T41 l1 (rd t372 x14_2)).f2.f0) ((rd_T41 l1 (rd t372 x14_2)).f2.f1)) = some r := by rw [if_neg (show ¬ (false = true) by decide)] at H; exact H
                                          clear H
                                          have H := H1
                                          clear H1
                                          have H' := ak H
                                          clear H
                                          obtain ⟨Ao40, co40, eo40⟩ := Kd.R_slice HO_12.out
                                          subst eo40
                                          have p390 : 0 ≤ (x20_3 : Int) := of_decide_eq_true (by first | (with_reducible assumption) | assumption)
                                          have q390 : x20_3 < (t379.length : Int) := of_decide_eq_true (by first | (with_reducible assumption) | assumption)
                                          obtain ⟨ad390, e390, hx390_0⟩ := Kd.at_int (Kd.R_reads' HO_12.out).2.2 x20_3 p390 q390
                                          cases e390
                                          replace p390 := eq_true p390
                                          replace q390 := eq_true q390
                                          have hcz41_0 : wr.cell? ⟨gb386, 0, none⟩ = some (.int .i64 ((rd_T41 l1 (rd t372 x14_2)).f2.f0)) := (blk_cell BK386.out 0).trans rfl
                                          have hcz41_1 : wr.cell? ⟨gb386, 1, none⟩ = some (.int .i64 ((rd_T41 l1 (rd t372 x14_2)).f2.f1)) := (blk_cell BK386.out 1).trans rfl
                                          have hfz41_0 := blk_frozen BK386.out 0
                                          have hfz41_1 := blk_frozen BK386.out 1
                                          go_wp2_with (first | (go_at_call 28; (with_reducible refine (mummerlaw08_crossed.calls k3 _ _ l0 ((rd_T41 l1 (rd t372 x14_2)).f2.f0) (wrap64 ((rd t379 x20_3) + 1)) false _ ?side1 ?side2 A36.out).mono ?_); (case side1 => repeat (first | exact (Kd.C_below HR0.out HB.out) | (with_reducible refine Kd.C_alloc ?_ _) | (with_reducible refine Kd.C_drewN ?_ _) | (with_reducible refine Kd.C_drew ?_))); (case side2 => exact HC0.out); rintro e w' ⟨rfl, ⟨nd, rfl⟩⟩; (try first | exact ⟨rfl, _, World.drewN_drewN _ _ _⟩ | exact ⟨rfl, _, Eq.trans (World.drewN_drewN _ _ _) (congrArg (World.drewN _) (Nat.add_assoc _ _ _))⟩)))
                                          repeat (go_quiet (first | (go_at_call 28; (with_reducible refine (mummerlaw08_crossed.calls k3 _ _ l0 ((rd_T41 l1 (rd t372 x14_2)).f2.f0) (wrap64 ((rd t379 x20_3) + 1)) false _ ?side1 ?side2 A36.out).mono ?_); (case side1 => repeat (first | exact (Kd.C_below HR0.out HB.out) | (with_reducible refine Kd.C_alloc ?_ _) | (with_reducible refine Kd.C_drewN ?_ _) | (with_reducible refine Kd.C_drew ?_))); (case side2 => exact HC0.out); rintro e w' ⟨rfl, ⟨nd, rfl⟩⟩; (try first | exact ⟨rfl, _, World.drewN_drewN _ _ _⟩ | exact ⟨rfl, _, Eq.trans (World.drewN_drewN _ _ _) (congrArg (World.drewN _) (Nat.add_assoc _ _ _))⟩))); try go_wp2_with (first | (go_at_call 28; (with_reducible refine (mummerlaw08_crossed.calls k3 _ _ l0 ((rd_T41 l1 (rd t372 x14_2)).f2.f0) (wrap64 ((rd t379 x20_3) + 1)) false _ ?side1 ?side2 A36.out).mono ?_); (case side1 => repeat (first | exact (Kd.C_below HR0.out HB.out) | (with_reducible refine Kd.C_alloc ?_ _) | (with_reducible refine Kd.C_drewN ?_ _) | (with_reducible refine Kd.C_drew ?_))); (case side2 => exact HC0.out); rintro e w' ⟨rfl, ⟨nd, rfl⟩⟩; (try first | exact ⟨rfl, _, World.drewN_drewN _ _ _⟩ | exact ⟨rfl, _, Eq.trans (World.drewN_drewN _ _ _) (congrArg (World.drewN _) (Nat.add_assoc _ _ _))⟩))))
                                          go_roundg k3
                                          case measure => have := HJ3.out; have := HK2.out; have := HK3.out; omega
                                          case rel => exact ⟨(wrap64 (x19_3 + 1)), (wrap64 (x20_3 + 1)), (by first | rfl | (simp; done) | (simp [*]; done)), (by first | rfl | (simp; done) | (simp [*]; done)), H', ⟨by have := HJ3.out; have := HK2.out; have := HK3.out; omega⟩, ⟨by (with_reducible repeat (first | apply Kd.R_alloc | apply Kd.R_drewN | apply Kd.R_drew)); exact HO_9.out⟩, ⟨by (with_reducible repeat (first | apply Kd.R_alloc | apply Kd.R_drewN | apply Kd.R_drew)); exact HO_11.out⟩, ⟨by (with_reducible repeat (first | apply Kd.R_alloc | apply Kd.R_drewN | apply Kd.R_drew)); exact HO_12.out⟩, ⟨by (with_reducible repeat (first | refine bN ?_ _ | refine bD ?_ | refine bA ?_ _)); exact BK386.out⟩, ⟨by repeat (first | (with_reducible first | exact HB.out | apply wA | apply wN | apply wD | refine below_set ?_ GE386.out) | exact HB.out)⟩⟩
                                      · rw [if_neg c35] at H
                                        have c35b0 : decide ((rd t379 x20_3) < (l0.length : Int)) = false := decide_eq_false c35
                                        clear c35
                                        have H' := ak H
                                        clear H
                                        obtain ⟨Ao42, co42, eo42⟩ := Kd.R_slice HO_12.out
                                        subst eo42
                                        have p390 : 0 ≤ (x20_3 : Int) := of_decide_eq_true (by first | (with_reducible assumption) | assumption)
                                        have q390 : x20_3 < (t379.length : Int) := of_decide_eq_true (by first | (with_reducible assumption) | assumption)
                                        obtain ⟨ad390, e390, hx390_0⟩ := Kd.at_int (Kd.R_reads' HO_12.out).2.2 x20_3 p390 q390
                                        cases e390
                                        replace p390 := eq_true p390
                                        replace q390 := eq_true q390
                                        have hcz43_0 : wr.cell? ⟨gb386, 0, none⟩ = some (.int .i64 ((rd_T41 l1 (rd t372 x14_2)).f2.f0)) := (blk_cell BK386.out 0).trans rfl
                                        have hcz43_1 : wr.cell? ⟨gb386, 1, none⟩ = some (.int .i64 ((rd_T41 l1 (rd t372 x14_2)).f2.f1)) := (blk_cell BK386.out 1).trans rfl
                                        have hfz43_0 := blk_frozen BK386.out 0
                                        have hfz43_1 := blk_frozen BK386.out 1
                                        go_wp2
                                        repeat (go_quiet (fail); try go_wp2)
                                        go_roundg k3
                                        case measure => have := HJ3.out; have := HK2.out; have := HK3.out; omega
                                        case rel => exact ⟨(x19_3), (wrap64 (x20_3 + 1)), (by first | rfl | (simp; done) | (simp [*]; done)), (by first | rfl | (simp; done) | (simp [*]; done)), H', ⟨by have := HJ3.out; have := HK2.out; have := HK3.out; omega⟩, ⟨by (with_reducible repeat (first | apply Kd.R_alloc | apply Kd.R_drewN | apply Kd.R_drew)); exact HO_9.out⟩, ⟨by (with_reducible repeat (first | apply Kd.R_alloc | apply Kd.R_drewN | apply Kd.R_drew)); exact HO_11.out⟩, ⟨by (with_reducible repeat (first | apply Kd.R_alloc | apply Kd.R_drewN | apply Kd.R_drew)); exact HO_12.out⟩, ⟨by (with_reducible repeat (first | refine bN ?_ _ | refine bD ?_ | refine bA ?_ _)); exact BK386.out⟩, ⟨by repeat (first | (with_reducible first | exact HB.out | apply wA | apply wN | apply wD | refine below_set ?_ GE386.out) | exact HB.out)⟩⟩
                                    · rw [if_neg c34] at H
                                      have c34b0 : decide ((rd t379 x20_3) < ((rd_T41 l1 (rd t372 x14_2)).f2.f1)) = false := decide_eq_false c34
                                      clear c34
                                      have H' := ak H
                                      clear H
                                      obtain ⟨Ao44, co44, eo44⟩ := Kd.R_slice HO_12.out
                                      subst eo44
                                      have p390 : 0 ≤ (x20_3 : Int) := of_decide_eq_true (by first | (with_reducible assumption) | assumption)
                                      have q390 : x20_3 < (t379.length : Int) := of_decide_eq_true (by first | (with_reducible assumption) | assumption)
                                      obtain ⟨ad390, e390, hx390_0⟩ := Kd.at_int (Kd.R_reads' HO_12.out).2.2 x20_3 p390 q390
                                      cases e390
                                      replace p390 := eq_true p390
                                      replace q390 := eq_true q390
                                      have hcz45_0 : wr.cell? ⟨gb386, 0, none⟩ = some (.int .i64 ((rd_T41 l1 (rd t372 x14_2)).f2.f0)) := (blk_cell BK386.out 0).trans rfl
                                      have hcz45_1 : wr.cell? ⟨gb386, 1, none⟩ = some (.int .i64 ((rd_T41 l1 (rd t372 x14_2)).f2.f1)) := (blk_cell BK386.out 1).trans rfl
                                      have hfz45_0 := blk_frozen BK386.out 0
                                      have hfz45_1 := blk_frozen BK386.out 1
                                      go_wp2
                                      repeat (go_quiet (fail); try go_wp2)
                                      go_roundg k3
                                      case measure => have := HJ3.out; have := HK2.out; have := HK3.out; omega
                                      case rel => exact ⟨(x19_3), (wrap64 (x20_3 + 1)), (by first | rfl | (simp; done) | (simp [*]; done)), (by first | rfl | (simp; done) | (simp [*]; done)), H', ⟨by have := HJ3.out; have := HK2.out; have := HK3.out; omega⟩, ⟨by (with_reducible repeat (first | apply Kd.R_alloc | apply Kd.R_drewN | apply Kd.R_drew)); exact HO_9.out⟩, ⟨by (with_reducible repeat (first | apply Kd.R_alloc | apply Kd.R_drewN | apply Kd.R_drew)); exact HO_11.out⟩, ⟨by (with_reducible repeat (first | apply Kd.R_alloc | apply Kd.R_drewN | apply Kd.R_drew)); exact HO_12.out⟩, ⟨by (with_reducible repeat (first | refine bN ?_ _ | refine bD ?_ | refine bA ?_ _)); exact BK386.out⟩, ⟨by repeat (first | (with_reducible first | exact HB.out | apply wA | apply wN | apply wD | refine below_set ?_ GE386.out) | exact HB.out)⟩⟩
                                  · rw [if_neg c33] at H
                                    have c33b0 : decide (((rd_T41 l1 (rd t372 x14_2)).f2.f0) ≤ (rd t379 x20_3)) = false := decide_eq_false c33
                                    clear c33
                                    have H' := ak H
                                    clear H
                                    obtain ⟨Ao46, co46, eo46⟩ := Kd.R_slice HO_12.out
                                    subst eo46
                                    have p390 : 0 ≤ (x20_3 : Int) := of_decide_eq_true (by first | (with_reducible assumption) | assumption)
                                    have q390 : x20_3 < (t379.length : Int) := of_decide_eq_true (by first | (with_reducible assumption) | assumption)
                                    obtain ⟨ad390, e390, hx390_0⟩ := Kd.at_int (Kd.R_reads' HO_12.out).2.2 x20_3 p390 q390
                                    cases e390
                                    replace p390 := eq_true p390
                                    replace q390 := eq_true q390
                                    have hcz47_0 : wr.cell? ⟨gb386, 0, none⟩ = some (.int .i64 ((rd_T41 l1 (rd t372 x14_2)).f2.f0)) := (blk_cell BK386.out 0).trans rfl
                                    have hcz47_1 : wr.cell? ⟨gb386, 1, none⟩ = some (.int .i64 ((rd_T41 l1 (rd t372 x14_2)).f2.f1)) := (blk_cell BK386.out 1).trans rfl
                                    have hfz47_0 := blk_frozen BK386.out 0
                                    have hfz47_1 := blk_frozen BK386.out 1
                                    go_wp2
                                    repeat (go_quiet (fail); try go_wp2)
                                    go_roundg k3
                                    case measure => have := HJ3.out; have := HK2.out; have := HK3.out; omega
                                    case rel => exact ⟨(x19_3), (wrap64 (x20_3 + 1)), (by first | rfl | (simp; done) | (simp [*]; done)), (by first | rfl | (simp; done) | (simp [*]; done)), H', ⟨by have := HJ3.out; have := HK2.out; have := HK3.out; omega⟩, ⟨by (with_reducible repeat (first | apply Kd.R_alloc | apply Kd.R_drewN | apply Kd.R_drew)); exact HO_9.out⟩, ⟨by (with_reducible repeat (first | apply Kd.R_alloc | apply Kd.R_drewN | apply Kd.R_drew)); exact HO_11.out⟩, ⟨by (with_reducible repeat (first | apply Kd.R_alloc | apply Kd.R_drewN | apply Kd.R_drew)); exact HO_12.out⟩, ⟨by (with_reducible repeat (first | refine bN ?_ _ | refine bD ?_ | refine bA ?_ _)); exact BK386.out⟩, ⟨by repeat (first | (with_reducible first | exact HB.out | apply wA | apply wN | apply wD | refine below_set ?_ GE386.out) | exact HB.out)⟩⟩
                                · rw [if_neg c32] at H
                                  exact absurd H (by simp)
                              · rw [if_neg c31] at H
                                have c31b0 : decide (x20_3 < (t379.length : Int)) = false := decide_eq_false c31
                                clear c31
                                obtain ⟨ji48, hji48⟩ : ∃ j_ : Int, (wrap64 ((wrap64 (3 * x14_2)) + 1)) = j_ := ⟨_, rfl⟩
                                replace H : (if 0 ≤ (ji48) then (if (ji48) < (t376.length : Int) then (if 0 ≤ (wrap64 ((wrap64 (3 * x14_2)) + 2)) then (if (wrap64 ((wrap64 (3 * x14_2)) + 2)) < (t376.length : Int) then (if t389 = 0 then (if ((rdOf ByteArray.empty t376 (ji48)).size : Int) < 2 then (some false) else (if 2 ≤ ((rdOf ByteArray.empty t376 (ji48)).size : Int) then ((mummerlaw08_part.f k3 l0 ((rdOf ByteArray.empty t376 (ji48)).extract 2 (rdOf ByteArray.empty t376 (ji48)).size)).bind fun t394 => (if t394 = true then ((mummerlaw08_marked.f k3 (rdOf ByteArray.empty t376 (wrap64 ((wrap64 (3 * x14_2)) + 2)))).bind fun t395 => (if t395 = (mx x19_3 1) then (if ((rdOf ByteArray.empty t376 (wrap64 ((wrap64 (3 * x14_2)) + 2))).size : Int) = (wrap64 ((wrap64 ((wrap64 (2 + t388)) - 1)) + (mx x19_3 1))) then (if ((rdOf ByteArray.empty t376 (wrap64 ((wrap64 (3 * x14_2)) + 2))).size : Int) > (wrap64 (((rdOf ByteArray.empty t376 (ji48)).size : Int) + 1)) then (some false) else (mummerlaw08_FaultsMarks.l0 k3 l0 l1 t372 t376 t379 (wrap64 (x14_2 + 1)))) else (some false)) else (some false))) else (some false))) else (none))) else (some false)) else (none)) else (none)) else (none)) else (none)) = some r := by first | (rw [hji48] at H; exact H) | (simp only [hji48] at H ⊢; exact H)
                                have hji48w : (IntKind.i64.wrap ((wrap64 (3 * x14_2)) + 1)) = ji48 := (i64_w _).trans hji48
                                by_cases c49 : 0 ≤ (ji48)
                                · rw [if_pos c49] at H
                                  have c49b0 : decide (0 ≤ (ji48)) = true := decide_eq_true c49
                                  clear c49
                                  by_cases c50 : (ji48) < (t376.length : Int)
                                  · rw [if_pos c50] at H
                                    have c50b0 : decide ((ji48) < (t376.length : Int)) = true := decide_eq_true c50
                                    clear c50
                                    obtain ⟨ji51, hji51⟩ : ∃ j_ : Int, (wrap64 ((wrap64 (3 * x14_2)) + 2)) = j_ := ⟨_, rfl⟩
                                    replace H : (if 0 ≤ (ji51) then (if (ji51) < (t376.length : Int) then (if t389 = 0 then (if ((rdOf ByteArray.empty t376 (ji48)).size : Int) < 2 then (some false) else (if 2 ≤ ((rdOf ByteArray.empty t376 (ji48)).size : Int) then ((mummerlaw08_part.f k3 l0 ((rdOf ByteArray.empty t376 (ji48)).extract 2 (rdOf ByteArray.empty t376 (ji48)).size)).bind fun t394 => (if t394 = true then ((mummerlaw08_marked.f k3 (rdOf ByteArray.empty t376 (ji51))).bind fun t395 => (if t395 = (mx x19_3 1) then (if ((rdOf ByteArray.empty t376 (ji51)).size : Int) = (wrap64 ((wrap64 ((wrap64 (2 + t388)) - 1)) + (mx x19_3 1))) then (if ((rdOf ByteArray.empty t376 (ji51)).size : Int) > (wrap64 (((rdOf ByteArray.empty t376 (ji48)).size : Int) + 1)) then (some false) else (mummerlaw08_FaultsMarks.l0 k3 l0 l1 t372 t376 t379 (wrap64 (x14_2 + 1)))) else (some false)) else (some false))) else (some false))) else (none))) else (some false)) else (none)) else (none)) = some r := by first | (rw [hji51] at H; exact H) | (simp only [hji51] at H ⊢; exact H)
                                    have hji51w : (IntKind.i64.wrap ((wrap64 (3 * x14_2)) + 2)) = ji51 := (i64_w _).trans hji51
                                    by_cases c52 : 0 ≤ (ji51)
                                    · rw [if_pos c52] at H
                                      have c52b0 : decide (0 ≤ (ji51)) = true := decide_eq_true c52
                                      clear c52
                                      by_cases c53 : (ji51) < (t376.length : Int)
                                      · rw [if_pos c53] at H
                                        have c53b0 : decide ((ji51) < (t376.length : Int)) = true := decide_eq_true c53
                                        clear c53
                                        by_cases c54 : t389 = 0
                                        · rw [if_pos c54] at H
                                          have c54b0 : (t389 == 0) = true := beq_iff_eq.mpr c54
                                          have c54b1 : (t389 != 0) = false := bne_eq_false_iff_eq.mpr c54
                                          clear c54
                                          by_cases c55 : ((rdOf ByteArray.empty t376 (ji48)).size : Int) < 2
                                          · rw [if_pos c55] at H
                                            have c55b0 : decide (((rdOf ByteArray.empty t376 (ji48)).size : Int) < 2) = true := decide_eq_true c55
                                            have c55b1 : decide ((rdOf ByteArray.empty t376 (ji48)).size < 2) = true := decide_eq_true (by omega)
                                            clear c55
                                            exact absurd ((Option.some.inj H).trans hrt.out) (by decide)
                                          · rw [if_neg c55] at H
                                            have c55b0 : decide (((rdOf ByteArray.empty t376 (ji48)).size : Int) < 2) = false := decide_eq_false c55
                                            have c55b1 : decide ((rdOf ByteArray.empty t376 (ji48)).size < 2) = false := decide_eq_false (by omega)
                                            clear c55
                                            by_cases c56 : 2 ≤ ((rdOf ByteArray.empty t376 (ji48)).size : Int)
                                            · rw [if_pos c56] at H
                                              have c56b0 := eq_true c56
                                              have c56b1 : decide (2 ≤ ((rdOf ByteArray.empty t376 (ji48)).size : Int)) = true := decide_eq_true c56
                                              clear c56
                                              replace H := Option.bind_eq_some_iff.mp H
                                              obtain ⟨t394, A570, H⟩ := H
                                              replace H : (if t394 = true then ((mummerlaw08_marked.f k3 (rdOf ByteArray.empty t376 (ji51))).bind fun t395 => (if t395 = (mx x19_3 1) then (if ((rdOf ByteArray.empty t376 (ji51)).size : Int) = (wrap64 ((wrap64 ((wrap64 (2 + t388)) - 1)) + (mx x19_3 1))) then (if ((rdOf ByteArray.empty t376 (ji51)).size : Int) > (wrap64 (((rdOf ByteArray.empty t376 (ji48)).size : Int) + 1)) then (some false) else (mummerlaw08_FaultsMarks.l0 k3 l0 l1 t372 t376 t379 (wrap64 (x14_2 + 1)))) else (some false)) else (some false))) else (some false)) = some r := H
                                              have A57 := ak A570
                                              clear A570
                                              by_cases c58 : t394 = true
                                              · subst c58
                                                have H1 : ((mummerlaw08_marked.f k3 (rdOf ByteArray.empty t376 (ji51))).bind fun t395 => (if t395 = (mx x19_3 1) then (if ((rdOf ByteArray.empty t376 (ji51)).size : Int) = (wrap64 ((wrap64 ((wrap64 (2 + t388)) - 1)) + (mx x19_3 1))) then (if ((rdOf ByteArray.empty t376 (ji51)).size : Int) > (wrap64 (((rdOf ByteArray.empty t376 (ji48)).size : Int) + 1)) then (some false) else (mummerlaw08_FaultsMarks.l0 k3 l0 l1 t372 t376 t379 (wrap64 (x14_2 + 1)))) else (some false)) else (some false))) = some r := by rw [if_pos rfl] at H; exact H
                                                clear H
                                                have H := H1
                                                clear H1
                                                replace H := Option.bind_eq_some_iff.mp H
                                                obtain ⟨t395, A590, H⟩ := H
                                                replace H : (if t395 = (mx x19_3 1) then (if ((rdOf ByteArray.empty t376 (ji51)).size : Int) = (wrap64 ((wrap64 ((wrap64 (2 + t388)) - 1)) + (mx x19_3 1))) then (if ((rdOf ByteArray.empty t376 (ji51)).size : Int) > (wrap64 (((rdOf ByteArray.empty t376 (ji48)).size : Int) + 1)) then (some false) else (mummerlaw08_FaultsMarks.l0 k3 l0 l1 t372 t376 t379 (wrap64 (x14_2 + 1)))) else (some false)) else (some false)) = some r := H
                                                have A59 := ak A590
                                                clear A590
                                                obtain ⟨ji60, hji60⟩ : ∃ j_ : Int, (mx x19_3 1) = j_ := ⟨_, rfl⟩
                                                replace H : (if t395 = (ji60) then (if ((rdOf ByteArray.empty t376 (ji51)).size : Int) = (wrap64 ((wrap64 ((wrap64 (2 + t388)) - 1)) + (ji60))) then (if ((rdOf ByteArray.empty t376 (ji51)).size : Int) > (wrap64 (((rdOf ByteArray.empty t376 (ji48)).size : Int) + 1)) then (some false) else (mummerlaw08_FaultsMarks.l0 k3 l0 l1 t372 t376 t379 (wrap64 (x14_2 + 1)))) else (some false)) else (some false)) = some r := by first | (rw [hji60] at H; exact H) | (simp only [hji60] at H ⊢; exact H)
                                                (try rw [hji60] at A57)
                                                (try rw [hji60] at A59)
                                                have hji60_ : (if x19_3 < 1 then 1 else x19_3) = ji60 := hji60
                                                by_cases c61 : t395 = (ji60)
                                                · rw [if_pos c61] at H
                                                  have c61b0 : (t395 == (ji60)) = true := beq_iff_eq.mpr c61
                                                  have c61b1 : (t395 != (ji60)) = false := bne_eq_false_iff_eq.mpr c61
                                                  clear c61
                                                  by_cases c63 : ((rdOf ByteArray.empty t376 (ji51)).size : Int) = (wrap64 ((wrap64 ((wrap64 (2 + t388)) - 1)) + (ji60)))
                                                  · rw [if_pos c63] at H
                                                    have c63b0 : (((rdOf ByteArray.empty t376 (ji51)).size : Int) == (wrap64 ((wrap64 ((wrap64 (2 + t388)) - 1)) + (ji60)))) = true := beq_iff_eq.mpr c63
                                                    have c63b1 : (((rdOf ByteArray.empty t376 (ji51)).size : Int) != (wrap64 ((wrap64 ((wrap64 (2 + t388)) - 1)) + (ji60)))) = false := bne_eq_false_iff_eq.mpr c63
                                                    clear c63
                                                    by_cases c64 : ((rdOf ByteArray.empty t376 (ji51)).size : Int) > (wrap64 (((rdOf ByteArray.empty t376 (ji48)).size : Int) + 1))
                                                    · rw [if_pos c64] at H
                                                      have c64b0 : decide ((wrap64 (((rdOf ByteArray.empty t376 (ji48)).size : Int) + 1)) < ((rdOf ByteArray.empty t376 (ji51)).size : Int)) = true := decide_eq_true c64
                                                      clear c64
                                                      exact absurd ((Option.some.inj H).trans hrt.out) (by decide)
                                                    · rw [if_neg c64] at H
                                                      have c64b0 : decide ((wrap64 (((rdOf ByteArray.empty t376 (ji48)).size : Int) + 1)) < ((rdOf ByteArray.empty t376 (ji51)).size : Int)) = false := decide_eq_false c64
                                                      clear c64
                                                      have H' := ak H
                                                      clear H
                                                      obtain ⟨Ao65, co65, eo65⟩ := Kd.R_slice HO_12.out
                                                      subst eo65
                                                      have p392 : 0 ≤ ((ji48) : Int) := of_decide_eq_true (by first | (with_reducible assumption) | assumption)
                                                      have q392 : (ji48) < (t376.length : Int) := of_decide_eq_true (by first | (with_reducible assumption) | assumption)
                                                      obtain ⟨ad392, e392, hx392_0⟩ := Kd.at_string (Kd.R_reads' HO_11.out).2.2 (ji48) p392 q392
                                                      cases e392
                                                      replace p392 := eq_true p392
                                                      replace q392 := eq_true q392
                                                      have p393 : 0 ≤ ((ji51) : Int) := of_decide_eq_true (by first | (with_reducible assumption) | assumption)
                                                      have q393 : (ji51) < (t376.length : Int) := of_decide_eq_true (by first | (with_reducible assumption) | assumption)
                                                      obtain ⟨ad393, e393, hx393_0⟩ := Kd.at_string (Kd.R_reads' HO_11.out).2.2 (ji51) p393 q393
                                                      obtain rfl : ad392 = ad393 := (by injection e393)
                                                      replace p393 := eq_true p393
                                                      replace q393 := eq_true q393
                                                      go_wp2_with (first | (go_at_call 29; (with_reducible refine (mummerlaw08_part.calls k3 _ _ l0 ((rdOf ByteArray.empty t376 (ji48)).extract 2 (rdOf ByteArray.empty t376 (ji48)).size) true _ ?side1 ?side2 A57.out).mono ?_); (case side1 => repeat (first | exact (Kd.C_below HR0.out HB.out) | (with_reducible refine Kd.C_alloc ?_ _) | (with_reducible refine Kd.C_drewN ?_ _) | (with_reducible refine Kd.C_drew ?_))); (case side2 => exact HC0.out); rintro e w' ⟨rfl, ⟨nd, rfl⟩⟩; (try first | exact ⟨rfl, _, World.drewN_drewN _ _ _⟩ | exact ⟨rfl, _, Eq.trans (World.drewN_drewN _ _ _) (congrArg (World.drewN _) (Nat.add_assoc _ _ _))⟩)) | (go_at_call 30; (with_reducible refine (mummerlaw08_marked.calls k3 (rdOf ByteArray.empty t376 (ji51)) t395 _ A59.out).mono ?_); rintro e w' ⟨rfl, ⟨nd, rfl⟩⟩; (try first | exact ⟨rfl, _, World.drewN_drewN _ _ _⟩ | exact ⟨rfl, _, Eq.trans (World.drewN_drewN _ _ _) (congrArg (World.drewN _) (Nat.add_assoc _ _ _))⟩)))
                                                      repeat (go_quiet (first | (go_at_call 29; (with_reducible refine (mummerlaw08_part.calls k3 _ _ l0 ((rdOf ByteArray.empty t376 (ji48)).extract 2 (rdOf ByteArray.empty t376 (ji48)).size) true _ ?side1 ?side2 A57.out).mono ?_); (case side1 => repeat (first | exact (Kd.C_below HR0.out HB.out) | (with_reducible refine Kd.C_alloc ?_ _) | (with_reducible refine Kd.C_drewN ?_ _) | (with_reducible refine Kd.C_drew ?_))); (case side2 => exact HC0.out); rintro e w' ⟨rfl, ⟨nd, rfl⟩⟩; (try first | exact ⟨rfl, _, World.drewN_drewN _ _ _⟩ | exact ⟨rfl, _, Eq.trans (World.drewN_drewN _ _ _) (congrArg (World.drewN _) (Nat.add_assoc _ _ _))⟩)) | (go_at_call 30; (with_reducible refine (mummerlaw08_marked.calls k3 (rdOf ByteArray.empty t376 (ji51)) t395 _ A59.out).mono ?_); rintro e w' ⟨rfl, ⟨nd, rfl⟩⟩; (try first | exact ⟨rfl, _, World.drewN_drewN _ _ _⟩ | exact ⟨rfl, _, Eq.trans (World.drewN_drewN _ _ _) (congrArg (World.drewN _) (Nat.add_assoc _ _ _))⟩))); try go_wp2_with (first | (go_at_call 29; (with_reducible refine (mummerlaw08_part.calls k3 _ _ l0 ((rdOf ByteArray.empty t376 (ji48)).extract 2 (rdOf ByteArray.empty t376 (ji48)).size) true _ ?side1 ?side2 A57.out).mono ?_); (case side1 => repeat (first | exact (Kd.C_below HR0.out HB.out) | (with_reducible refine Kd.C_alloc ?_ _) | (with_reducible refine Kd.C_drewN ?_ _) | (with_reducible refine Kd.C_drew ?_))); (case side2 => exact HC0.out); rintro e w' ⟨rfl, ⟨nd, rfl⟩⟩; (try first | exact ⟨rfl, _, World.drewN_drewN _ _ _⟩ | exact ⟨rfl, _, Eq.trans (World.drewN_drewN _ _ _) (congrArg (World.drewN _) (Nat.add_assoc _ _ _))⟩)) | (go_at_call 30; (with_reducible refine (mummerlaw08_marked.calls k3 (rdOf ByteArray.empty t376 (ji51)) t395 _ A59.out).mono ?_); rintro e w' ⟨rfl, ⟨nd, rfl⟩⟩; (try first | exact ⟨rfl, _, World.drewN_drewN _ _ _⟩ | exact ⟨rfl, _, Eq.trans (World.drewN_drewN _ _ _) (congrArg (World.drewN _) (Nat.add_assoc _ _ _))⟩))))
                                                      go_roundg k3
                                                      case measure => have := HJ3.out; have := HK2.out; have := HK3.out; omega
                                                      case rel => exact ⟨(wrap64 (x14_2 + 1)), (by first | rfl | (simp; done) | (simp [*]; done)), H', ⟨by have := HJ3.out; have := HK2.out; have := HK3.out; omega⟩, ⟨by (with_reducible repeat (first | apply Kd.R_alloc | apply Kd.R_drewN | apply Kd.R_drew)); exact HO_9.out⟩, ⟨by (with_reducible repeat (first | apply Kd.R_alloc | apply Kd.R_drewN | apply Kd.R_drew)); exact HO_11.out⟩, ⟨by (with_reducible repeat (first | apply Kd.R_alloc | apply Kd.R_drewN | apply Kd.R_drew)); exact HO_12.out⟩, ⟨by repeat (first | (with_reducible first | exact HB.out | apply wA | apply wN | apply wD | refine below_set ?_ GE386.out) | exact HB.out)⟩⟩
                                                  · rw [if_neg c63] at H
                                                    have c63b0 : (((rdOf ByteArray.empty t376 (ji51)).size : Int) == (wrap64 ((wrap64 ((wrap64 (2 + t388)) - 1)) + (ji60)))) = false := beq_eq_false_iff_ne.mpr c63
                                                    have c63b1 : (((rdOf ByteArray.empty t376 (ji51)).size : Int) != (wrap64 ((wrap64 ((wrap64 (2 + t388)) - 1)) + (ji60)))) = true := bne_iff_ne.mpr c63
                                                    exact absurd ((Option.some.inj H).trans hrt.out) (by decide)
                                                · rw [if_neg c61] at H
                                                  have c61b0 : (t395 == (ji60)) = false := beq_eq_false_iff_ne.mpr c61
                                                  have c61b1 : (t395 != (ji60)) = true := bne_iff_ne.mpr c61
                                                  exact absurd ((Option.some.inj H).trans hrt.out) (by decide)
                                              · replace c58 := Bool.eq_false_iff.mpr c58
                                                subst c58
                                                have H1 : (some false) = some r := by rw [if_neg (show ¬ (false = true) by decide)] at H; exact H
                                                clear H
                                                have H := H1
                                                clear H1
                                                exact absurd ((Option.some.inj H).trans hrt.out) (by decide)
                                            · rw [if_neg c56] at H
                                              exact absurd H (by simp)
                                        · rw [if_neg c54] at H
                                          have c54b0 : (t389 == 0) = false := beq_eq_false_iff_ne.mpr c54
                                          have c54b1 : (t389 != 0) = true := bne_iff_ne.mpr c54
                                          exact absurd ((Option.some.inj H).trans hrt.out) (by decide)
                                      · rw [if_neg c53] at H
                                        exact absurd H (by simp)
                                    · rw [if_neg c52] at H
                                      exact absurd H (by simp)
                                  · rw [if_neg c50] at H
                                    exact absurd H (by simp)
                                · rw [if_neg c49] at H
                                  exact absurd H (by simp)
                        · rw [if_neg c26] at H
                          exact absurd H (by simp)
                      · rw [if_neg c25] at H
                        exact absurd H (by simp)
                    · rw [if_neg c24] at H
                      exact absurd H (by simp)
                  · rw [if_neg c23] at H
                    have c23b0 : decide (x14_2 < (t372.length : Int)) = false := decide_eq_false c23
                    clear c23
                    replace H := Option.bind_eq_some_iff.mp H
                    obtain ⟨t383, A660, H⟩ := H
                    replace H : (some t383) = some r := H
                    have A66 := ak A660
                    clear A660
                    obtain rfl := Option.some.inj H
                    go_wp2_with (first | (go_at_call 12; (with_reducible refine (mummerlaw08_shown.calls  t383 _ hrt A66.out ⟨Ft.All.stay HT.out (by repeat (first | (with_reducible first | exact HB.out | apply wA | apply wN | apply wD) | exact HB.out | (refine below_set ?_ (by assumption)) | (refine below_set ?_ (Aside0.out (by assumption)))))⟩).mono ?_); rintro e w67 ⟨rfl, hb⟩; have n0_ := ak (Kd.R_below (by (with_reducible repeat (first | apply Kd.R_alloc | apply Kd.R_drewN | apply Kd.R_drew)); exact HO_9.out) hb); have n1_ := ak (Kd.R_below (by (with_reducible repeat (first | apply Kd.R_alloc | apply Kd.R_drewN | apply Kd.R_drew)); exact HO_11.out) hb); have n2_ := ak (Kd.R_below (by (with_reducible repeat (first | apply Kd.R_alloc | apply Kd.R_drewN | apply Kd.R_drew)); exact HO_12.out) hb); have n3_ := ak (below_step (by repeat (first | (with_reducible first | exact HB.out | apply wA | apply wN | apply wD) | exact HB.out)) hb); clear HO_9; clear HO_11; clear HO_12; clear HB; have HO_9 := n0_; have HO_11 := n1_; have HO_12 := n2_; have HB := n3_; clear n0_ n1_ n2_ n3_; (try clear hb); (try clear hb2); (try clear hk); (try clear hi)))
                    repeat (go_quiet (first | (go_at_call 12; (with_reducible refine (mummerlaw08_shown.calls  t383 _ hrt A66.out ⟨Ft.All.stay HT.out (by repeat (first | (with_reducible first | exact HB.out | apply wA | apply wN | apply wD) | exact HB.out | (refine below_set ?_ (by assumption)) | (refine below_set ?_ (Aside0.out (by assumption)))))⟩).mono ?_); rintro e w67 ⟨rfl, hb⟩; have n0_ := ak (Kd.R_below (by (with_reducible repeat (first | apply Kd.R_alloc | apply Kd.R_drewN | apply Kd.R_drew)); exact HO_9.out) hb); have n1_ := ak (Kd.R_below (by (with_reducible repeat (first | apply Kd.R_alloc | apply Kd.R_drewN | apply Kd.R_drew)); exact HO_11.out) hb); have n2_ := ak (Kd.R_below (by (with_reducible repeat (first | apply Kd.R_alloc | apply Kd.R_drewN | apply Kd.R_drew)); exact HO_12.out) hb); have n3_ := ak (below_step (by repeat (first | (with_reducible first | exact HB.out | apply wA | apply wN | apply wD) | exact HB.out)) hb); clear HO_9; clear HO_11; clear HO_12; clear HB; have HO_9 := n0_; have HO_11 := n1_; have HO_12 := n2_; have HB := n3_; clear n0_ n1_ n2_ n3_; (try clear hb); (try clear hb2); (try clear hk); (try clear hi))); try go_wp2_with (first | (go_at_call 12; (with_reducible refine (mummerlaw08_shown.calls  t383 _ hrt A66.out ⟨Ft.All.stay HT.out (by repeat (first | (with_reducible first | exact HB.out | apply wA | apply wN | apply wD) | exact HB.out | (refine below_set ?_ (by assumption)) | (refine below_set ?_ (Aside0.out (by assumption)))))⟩).mono ?_); rintro e w67 ⟨rfl, hb⟩; have n0_ := ak (Kd.R_below (by (with_reducible repeat (first | apply Kd.R_alloc | apply Kd.R_drewN | apply Kd.R_drew)); exact HO_9.out) hb); have n1_ := ak (Kd.R_below (by (with_reducible repeat (first | apply Kd.R_alloc | apply Kd.R_drewN | apply Kd.R_drew)); exact HO_11.out) hb); have n2_ := ak (Kd.R_below (by (with_reducible repeat (first | apply Kd.R_alloc | apply Kd.R_drewN | apply Kd.R_drew)); exact HO_12.out) hb); have n3_ := ak (below_step (by repeat (first | (with_reducible first | exact HB.out | apply wA | apply wN | apply wD) | exact HB.out)) hb); clear HO_9; clear HO_11; clear HO_12; clear HB; have HO_9 := n0_; have HO_11 := n1_; have HO_12 := n2_; have HB := n3_; clear n0_ n1_ n2_ n3_; (try clear hb); (try clear hb2); (try clear hk); (try clear hi))))
                    go_ret
                    exact ⟨by first | rfl | (simp [errW_none, errW_some] <;> rfl) | (simp [*, errW_none, errW_some] <;> rfl), by repeat (first | (with_reducible first | exact HB.out | apply wA | apply wN | apply wD) | exact HB.out)⟩
            · rw [if_neg c15] at H
              have c15b0 : ((t376.length : Int) == (wrap64 (3 * (t372.length : Int)))) = false := beq_eq_false_iff_ne.mpr c15
              have c15b1 : ((t376.length : Int) != (wrap64 (3 * (t372.length : Int)))) = true := bne_iff_ne.mpr c15
              exact absurd ((Option.some.inj H).trans hrt.out) (by decide)
          · rw [if_neg c14] at H
            have c14b0 : (t373 == 0) = false := beq_eq_false_iff_ne.mpr c14
            have c14b1 : (t373 != 0) = true := bne_iff_ne.mpr c14
            exact absurd ((Option.some.inj H).trans hrt.out) (by decide)
        · rw [if_neg c11] at H
          have c11b0 : (t370 == 0) = false := beq_eq_false_iff_ne.mpr c11
          have c11b1 : (t370 != 0) = true := bne_iff_ne.mpr c11
          by_cases c68 : t369.toList = ([] : List UInt8)
          · rw [if_pos c68] at H
            have c68b0 : (t369.toList == ([] : List UInt8)) = true := beq_iff_eq.mpr c68
            have c68b1 : (t369.toList != ([] : List UInt8)) = false := bne_eq_false_iff_eq.mpr c68
            clear c68
            replace H := Option.bind_eq_some_iff.mp H
            obtain ⟨t371, A690, H⟩ := H
            replace H : (some t371) = some r := H
            have A69 := ak A690
            clear A690
            obtain rfl := Option.some.inj H
            go_wp2_with (first | (go_at_call 21; (with_reducible refine (faults_Picture.calls kj3 _ _ l0 _ _ l1 a2 t369 t370 _ ?side1 ?side2 ?side3 ?side4 A10.out ⟨Ft.All.stay HT.out (by repeat (first | (with_reducible first | exact HB.out | apply wA | apply wN | apply wD) | exact HB.out | (refine below_set ?_ (by assumption)) | (refine below_set ?_ (Aside0.out (by assumption)))))⟩).mono ?_); (case side1 => repeat (first | exact (Kd.C_below HR0.out HB.out) | (with_reducible refine Kd.C_alloc ?_ _) | (with_reducible refine Kd.C_drewN ?_ _) | (with_reducible refine Kd.C_drew ?_))); (case side2 => exact HC0.out); (case side3 => repeat (first | exact (Kd.C_below HR1.out HB.out) | (with_reducible refine Kd.C_alloc ?_ _) | (with_reducible refine Kd.C_drewN ?_ _) | (with_reducible refine Kd.C_drew ?_))); (case side4 => exact HC1.out); rintro e w70 ⟨rfl, hb⟩; have n0_ := ak (below_step (by repeat (first | (with_reducible first | exact HB.out | apply wA | apply wN | apply wD) | exact HB.out)) hb); clear HB; have HB := n0_; clear n0_; (try clear hb); (try clear hb2); (try clear hk); (try clear hi)) | (go_at_call 12; (with_reducible refine (mummerlaw08_shown.calls  t371 _ hrt A69.out ⟨Ft.All.stay HT.out (by repeat (first | (with_reducible first | exact HB.out | apply wA | apply wN | apply wD) | exact HB.out | (refine below_set ?_ (by assumption)) | (refine below_set ?_ (Aside0.out (by assumption)))))⟩).mono ?_); rintro e w71 ⟨rfl, hb⟩; have n0_ := ak (below_step (by repeat (first | (with_reducible first | exact HB.out | apply wA | apply wN | apply wD) | exact HB.out)) hb); clear HB; have HB := n0_; clear n0_; (try clear hb); (try clear hb2); (try clear hk); (try clear hi)))
            repeat (go_quiet (first | (go_at_call 21; (with_reducible refine (faults_Picture.calls kj3 _ _ l0 _ _ l1 a2 t369 t370 _ ?side1 ?side2 ?side3 ?side4 A10.out ⟨Ft.All.stay HT.out (by repeat (first | (with_reducible first | exact HB.out | apply wA | apply wN | apply wD) | exact HB.out | (refine below_set ?_ (by assumption)) | (refine below_set ?_ (Aside0.out (by assumption)))))⟩).mono ?_); (case side1 => repeat (first | exact (Kd.C_below HR0.out HB.out) | (with_reducible refine Kd.C_alloc ?_ _) | (with_reducible refine Kd.C_drewN ?_ _) | (with_reducible refine Kd.C_drew ?_))); (case side2 => exact HC0.out); (case side3 => repeat (first | exact (Kd.C_below HR1.out HB.out) | (with_reducible refine Kd.C_alloc ?_ _) | (with_reducible refine Kd.C_drewN ?_ _) | (with_reducible refine Kd.C_drew ?_))); (case side4 => exact HC1.out); rintro e w70 ⟨rfl, hb⟩; have n0_ := ak (below_step (by repeat (first | (with_reducible first | exact HB.out | apply wA | apply wN | apply wD) | exact HB.out)) hb); clear HB; have HB := n0_; clear n0_; (try clear hb); (try clear hb2); (try clear hk); (try clear hi)) | (go_at_call 12; (with_reducible refine (mummerlaw08_shown.calls  t371 _ hrt A69.out ⟨Ft.All.stay HT.out (by repeat (first | (with_reducible first | exact HB.out | apply wA | apply wN | apply wD) | exact HB.out | (refine below_set ?_ (by assumption)) | (refine below_set ?_ (Aside0.out (by assumption)))))⟩).mono ?_); rintro e w71 ⟨rfl, hb⟩; have n0_ := ak (below_step (by repeat (first | (with_reducible first | exact HB.out | apply wA | apply wN | apply wD) | exact HB.out)) hb); clear HB; have HB := n0_; clear n0_; (try clear hb); (try clear hb2); (try clear hk); (try clear hi))); try go_wp2_with (first | (go_at_call 21; (with_reducible refine (faults_Picture.calls kj3 _ _ l0 _ _ l1 a2 t369 t370 _ ?side1 ?side2 ?side3 ?side4 A10.out ⟨Ft.All.stay HT.out (by repeat (first | (with_reducible first | exact HB.out | apply wA | apply wN | apply wD) | exact HB.out | (refine below_set ?_ (by assumption)) | (refine below_set ?_ (Aside0.out (by assumption)))))⟩).mono ?_); (case side1 => repeat (first | exact (Kd.C_below HR0.out HB.out) | (with_reducible refine Kd.C_alloc ?_ _) | (with_reducible refine Kd.C_drewN ?_ _) | (with_reducible refine Kd.C_drew ?_))); (case side2 => exact HC0.out); (case side3 => repeat (first | exact (Kd.C_below HR1.out HB.out) | (with_reducible refine Kd.C_alloc ?_ _) | (with_reducible refine Kd.C_drewN ?_ _) | (with_reducible refine Kd.C_drew ?_))); (case side4 => exact HC1.out); rintro e w70 ⟨rfl, hb⟩; have n0_ := ak (below_step (by repeat (first | (with_reducible first | exact HB.out | apply wA | apply wN | apply wD) | exact HB.out)) hb); clear HB; have HB := n0_; clear n0_; (try clear hb); (try clear hb2); (try clear hk); (try clear hi)) | (go_at_call 12; (with_reducible refine (mummerlaw08_shown.calls  t371 _ hrt A69.out ⟨Ft.All.stay HT.out (by repeat (first | (with_reducible first | exact HB.out | apply wA | apply wN | apply wD) | exact HB.out | (refine below_set ?_ (by assumption)) | (refine below_set ?_ (Aside0.out (by assumption)))))⟩).mono ?_); rintro e w71 ⟨rfl, hb⟩; have n0_ := ak (below_step (by repeat (first | (with_reducible first | exact HB.out | apply wA | apply wN | apply wD) | exact HB.out)) hb); clear HB; have HB := n0_; clear n0_; (try clear hb); (try clear hb2); (try clear hk); (try clear hi))))
            go_ret
            exact ⟨by first | rfl | (simp [errW_none, errW_some] <;> rfl) | (simp [*, errW_none, errW_some] <;> rfl), by repeat (first | (with_reducible first | exact HB.out | apply wA | apply wN | apply wD) | exact HB.out)⟩
          · rw [if_neg c68] at H
            have c68b0 : (t369.toList == ([] : List UInt8)) = false := beq_eq_false_iff_ne.mpr c68
            have c68b1 : (t369.toList != ([] : List UInt8)) = true := bne_iff_ne.mpr c68
            exact absurd ((Option.some.inj H).trans hrt.out) (by decide)
end Go.Proofs.YtdjkdlbokepoaaaGreatDoor.P
namespace Go.Proofs.YtdjkdlbokepoaaaGreatDoor.P
open Go.RowKit Go.Proofs.YtdjkdlbokepoaaaGreatDoorW.PrintWords Go.Proofs.YtdjkdlbokepoaaaGreatDoorW.PrintLast Go.Proofs.YtdjkdlbokepoaaaGreatDoorW.PrintMore
attribute [local go_sem] max2_int min2_int max_two min_two max_three min_three max_four min_four   -- for this text's walks alone
set_option linter.unusedVariables false
set_option linter.unusedSimpArgs false
mutual
def mummerref02_Back.j0 : Nat → Int → List Int → Int → Bool → Option (Int × Int)
  | 0, _, _, _, _ => none
  | k + 1, x1, x6, x7, x26 => if x26 = true then (mummerref02_Back.j1 k x1 x6 7) else (mummerref02_Back.j1 k x1 x6 x7)
def mummerref02_Back.j1 : Nat → Int → List Int → Int → Option (Int × Int)
  | 0, _, _, _ => none
  | k + 1, x1, x6, x7 => if x7 = 0 then (mummerref02_Back.l0 k x1 x6 0 0) else (some (0, x7))
def mummerref02_Back.l0 : Nat → Int → List Int → Int → Int → Option (Int × Int)
  | 0, _, _, _, _ => none
  | k + 1, x1, x6, x8, x9 => if x9 < (x6.length : Int) then (if 0 ≤ x9 then (if (rd x6 x9) ≤ x1 then (mummerref02_Back.l0 k x1 x6 (rd x6 x9) (wrap64 (x9 + 1))) else (mummerref02_Back.l0 k x1 x6 x8 (wrap64 (x9 + 1)))) else (none)) else (some (x8, 0))
end
def mummerref02_Back.f (k : Nat) (l0 : List Int) (a1 : Int) : Option (Int × Int) := (mummerref02_Starts.f k l0).bind fun bt225 => (if bt225.2 = 0 then (if a1 < 0 then (mummerref02_Back.j0 k a1 bt225.1 bt225.2 true) else (mummerref02_Back.j0 k a1 bt225.1 bt225.2 (decide (a1 > (l0.length : Int))))) else (mummerref02_Back.j0 k a1 bt225.1 bt225.2 false))
end Go.Proofs.YtdjkdlbokepoaaaGreatDoor.P
namespace Go.Proofs.YtdjkdlbokepoaaaGreatDoor.P
open Go.RowKit Go.Proofs.YtdjkdlbokepoaaaGreatDoorW.PrintWords Go.Proofs.YtdjkdlbokepoaaaGreatDoorW.PrintLast Go.Proofs.YtdjkdlbokepoaaaGreatDoorW.PrintMore
attribute [local go_sem] max2_int min2_int max_two min_two max_three min_three max_four min_four   -- for this text's walks alone
set_option linter.unusedVariables false
set_option linter.unusedSimpArgs false
mutual
def mummerref08_one.j0 : Nat → Int → Bool → Int → Int → Int → Int → ByteArray → Int → Option (Int)
  | 0, _, _, _, _, _, _, _, _ => none
  | k + 1, x2, x49, x200000, x200001, x200002, x200003, x200004, x200005 => if x49 = true then (some 7) else (if (x200004.size : Int) > 60 then (some 3) else ((conv9to29.f x200004).bind fun t200 => ((mummerref02_Check.f k t200).bind fun bt203 => (if bt203.2 = 0 then (mummerref08_one.l0 k x2 0 x200000 x200001 x200002 x200003 x200004 x200005) else (some 6)))))
def mummerref08_one.l0 : Nat → Int → Int → Int → Int → Int → Int → ByteArray → Int → Option (Int)
  | 0, _, _, _, _, _, _, _, _ => none
  | k + 1, x2, x9, x200000, x200001, x200002, x200003, x200004, x200005 => if x9 < (x200004.size : Int) then (if 0 ≤ x9 then (if (bt x200004 x9) < 32 then (some 6) else (mummerref08_one.l0 k x2 (wrap64 (x9 + 1)) x200000 x200001 x200002 x200003 x200004 x200005)) else (none)) else (if x200005 < (-1) then (some 4) else (if x200005 ≥ x2 then (some 4) else (some 0)))
end
def mummerref08_one.f (k : Nat) (a0 : Int) (a1_0 : Int) (a1_1 : Int) (a1_2 : Int) (a1_3 : Int) (a1_4 : ByteArray) (a1_5 : Int) (a2 : Int) : Option (Int) := if a1_0 < 1 then (mummerref08_one.j0 k a2 true a1_0 a1_1 a1_2 a1_3 a1_4 a1_5) else (if a1_0 > 999 then (mummerref08_one.j0 k a2 true a1_0 a1_1 a1_2 a1_3 a1_4 a1_5) else (if a1_1 < 1 then (mummerref08_one.j0 k a2 true a1_0 a1_1 a1_2 a1_3 a1_4 a1_5) else (if a1_1 > 8 then (mummerref08_one.j0 k a2 true a1_0 a1_1 a1_2 a1_3 a1_4 a1_5) else (if a1_2 < 0 then (mummerref08_one.j0 k a2 true a1_0 a1_1 a1_2 a1_3 a1_4 a1_5) else (if a1_2 > a1_3 then (mummerref08_one.j0 k a2 true a1_0 a1_1 a1_2 a1_3 a1_4 a1_5) else (mummerref08_one.j0 k a2 (decide (a1_3 > a0)) a1_0 a1_1 a1_2 a1_3 a1_4 a1_5))))))
end Go.Proofs.YtdjkdlbokepoaaaGreatDoor.P
namespace Go.Proofs.YtdjkdlbokepoaaaGreatDoor.P
open Go.RowKit Go.Proofs.YtdjkdlbokepoaaaGreatDoorW.PrintWords Go.Proofs.YtdjkdlbokepoaaaGreatDoorW.PrintLast Go.Proofs.YtdjkdlbokepoaaaGreatDoorW.PrintMore
attribute [local go_sem] max2_int min2_int max_two min_two max_three min_three max_four min_four   -- for this text's walks alone
set_option linter.unusedVariables false
set_option linter.unusedSimpArgs false
def mummerref08_Check.l0 : Nat → Int → List (S41) → Int → Option (Int × Int)
  | 0, _, _, _ => none
  | k + 1, x0, x1, x6 => if x6 < (x1.length : Int) then (if 0 ≤ x6 then ((mummerref08_one.f k x0 ((rd_T41 x1 x6).f0) ((rd_T41 x1 x6).f1) ((rd_T41 x1 x6).f2.f0) ((rd_T41 x1 x6).f2.f1) ((rd_T41 x1 x6).f3) ((rd_T41 x1 x6).f4) x6).bind fun t206 => (if t206 = 0 then (mummerref08_Check.l0 k x0 x1 (wrap64 (x6 + 1))) else (some (x6, t206)))) else (none)) else (some (0, 0))
def mummerref08_Check.f (k : Nat) (a0 : Int) (l1 : List (S41)) : Option (Int × Int) := if (l1.length : Int) > 50 then (some (0, 3)) else (mummerref08_Check.l0 k a0 l1 0)
end Go.Proofs.YtdjkdlbokepoaaaGreatDoor.P
namespace Go.Proofs.YtdjkdlbokepoaaaGreatDoor.P
open Go.RowKit Go.Proofs.YtdjkdlbokepoaaaGreatDoorW.PrintWords Go.Proofs.YtdjkdlbokepoaaaGreatDoorW.PrintLast Go.Proofs.YtdjkdlbokepoaaaGreatDoorW.PrintMore
attribute [local go_sem] max2_int min2_int max_two min_two max_three min_three max_four min_four   -- for this text's walks alone
set_option linter.unusedVariables false
set_option linter.unusedSimpArgs false
mutual
def mummerref01_Digits.j0 : Nat → Int → Bool → Option (ByteArray)
  | 0, _, _ => none
  | k + 1, x0, x9 => if x9 = true then (if (Int.tmod x0 10) < 0 then (mummerref01_Digits.j1 k x0 (wrap64 (-(Int.tmod x0 10)))) else (mummerref01_Digits.j1 k x0 (Int.tmod x0 10))) else (if x0 < 0 then ((mummerref01_Digits.f k (wrap64 (-x0))).bind fun t257 => (if 1 + t257.size ≤ 9223372036854775807 then (some ((⟨#[45]⟩ : ByteArray) ++ t257)) else (none))) else (some (strOfNums (([(wrap64 (48 + x0)) % 256] : List Int)))))
def mummerref01_Digits.j1 : Nat → Int → Int → Option (ByteArray)
  | 0, _, _ => none
  | k + 1, x0, x3 => (mummerref01_Digits.f k (wrap64 (Int.tdiv x0 10))).bind fun t253 => ((some (([(wrap64 (48 + x3)) % 256] : List Int) : List Int)).bind fun y254 => (if t253.size + (strOfNums y254).size ≤ 9223372036854775807 then (some (t253 ++ (strOfNums y254))) else (none)))
def mummerref01_Digits.f : Nat → Int → Option (ByteArray)
  | 0, _ => none
  | k + 1, a0 => if a0 > 9 then (mummerref01_Digits.j0 k a0 true) else (mummerref01_Digits.j0 k a0 (decide (a0 < (-9))))
end
end Go.Proofs.YtdjkdlbokepoaaaGreatDoor.P
namespace Go.Proofs.YtdjkdlbokepoaaaGreatDoor.P
open Go.RowKit Go.Proofs.YtdjkdlbokepoaaaGreatDoorW.PrintWords Go.Proofs.YtdjkdlbokepoaaaGreatDoorW.PrintLast Go.Proofs.YtdjkdlbokepoaaaGreatDoorW.PrintMore
attribute [local go_sem] max2_int min2_int max_two min_two max_three min_three max_four min_four   -- for this text's walks alone
set_option linter.unusedVariables false
set_option linter.unusedSimpArgs false
def mummerref08_Word.j0 : Nat → Int → Bool → Option (ByteArray × Int)
  | 0, _, _ => none
  | k + 1, x0, x10 => if x10 = true then (some ((⟨#[]⟩ : ByteArray), 2)) else ((some (([(⟨#[]⟩ : ByteArray), (⟨#[110, 105, 108]⟩ : ByteArray), (⟨#[97, 114, 103, 117, 109, 101, 110, 116]⟩ : ByteArray), (⟨#[116, 111, 111, 32, 108, 111, 110, 103]⟩ : ByteArray), (⟨#[110, 111, 110, 101]⟩ : ByteArray), (⟨#[102, 117, 101, 108]⟩ : ByteArray), (⟨#[102, 111, 114, 109]⟩ : ByteArray), (⟨#[114, 97, 110, 103, 101]⟩ : ByteArray), (⟨#[116, 119, 105, 99, 101]⟩ : ByteArray), (⟨#[115, 116, 97, 116, 101]⟩ : ByteArray), (⟨#[117, 110, 98, 111, 117, 110, 100]⟩ : ByteArray), (⟨#[97, 109, 98, 105, 103, 117, 111, 117, 115]⟩ : ByteArray), (⟨#[112, 108, 97, 99, 101]⟩ : ByteArray), (⟨#[109, 97, 99, 114, 111]⟩ : ByteArray), (⟨#[109, 97, 116, 99, 104]⟩ : ByteArray), (⟨#[101, 97, 114, 108, 121]⟩ : ByteArray), (⟨#[108, 101, 116, 114, 101, 99]⟩ : ByteArray), (⟨#[97, 112, 112, 108, 121]⟩ : ByteArray), (⟨#[97, 114, 105, 116, 121]⟩ : ByteArray), (⟨#[116, 121, 112, 101]⟩ : ByteArray), (⟨#[111, 118, 101, 114, 102, 108, 111, 119]⟩ : ByteArray), (⟨#[100, 105, 118, 105, 100, 101]⟩ : ByteArray)] : List ByteArray) : List ByteArray)).bind fun y261 => (if x0 < (y261.length : Int) then (if 0 ≤ x0 then (some (rdOf ByteArray.empty y261 x0, 0)) else (none)) else ((mummerref01_Digits.f k x0).bind fun t265 => (if 6 + t265.size ≤ 9223372036854775807 then (some ((⟨#[101, 114, 114, 111, 114, 32]⟩ : ByteArray) ++ t265, 0)) else (none)))))
def mummerref08_Word.f (k : Nat) (a0 : Int) : Option (ByteArray × Int) := if a0 < 1 then (mummerref08_Word.j0 k a0 true) else (mummerref08_Word.j0 k a0 (decide (a0 > 999)))
end Go.Proofs.YtdjkdlbokepoaaaGreatDoor.P
namespace Go.Proofs.YtdjkdlbokepoaaaGreatDoor.P
open Go.RowKit Go.Proofs.YtdjkdlbokepoaaaGreatDoorW.PrintWords Go.Proofs.YtdjkdlbokepoaaaGreatDoorW.PrintLast Go.Proofs.YtdjkdlbokepoaaaGreatDoorW.PrintMore
attribute [local go_sem] max2_int min2_int max_two min_two max_three min_three max_four min_four   -- for this text's walks alone
set_option linter.unusedVariables false
set_option linter.unusedSimpArgs false
def mummerref08_Pass.f (a0 : Int) : Option (ByteArray × Int) := if a0 < 1 then (some ((⟨#[]⟩ : ByteArray), 2)) else (if a0 > 8 then (some ((⟨#[]⟩ : ByteArray), 2)) else ((some (([(⟨#[]⟩ : ByteArray), (⟨#[108, 101, 120]⟩ : ByteArray), (⟨#[114, 101, 97, 100]⟩ : ByteArray), (⟨#[101, 120, 112, 97, 110, 100]⟩ : ByteArray), (⟨#[115, 117, 114, 102, 97, 99, 101]⟩ : ByteArray), (⟨#[115, 117, 103, 97, 114]⟩ : ByteArray), (⟨#[115, 116, 101, 112]⟩ : ByteArray), (⟨#[108, 105, 102, 116]⟩ : ByteArray), (⟨#[109, 111, 100, 101, 108]⟩ : ByteArray)] : List ByteArray) : List ByteArray)).bind fun y266 => (if 0 ≤ a0 then (if a0 < (y266.length : Int) then (some (rdOf ByteArray.empty y266 a0, 0)) else (none)) else (none))))
end Go.Proofs.YtdjkdlbokepoaaaGreatDoor.P
namespace Go.Proofs.YtdjkdlbokepoaaaGreatDoor.P
open Go.RowKit Go.Proofs.YtdjkdlbokepoaaaGreatDoorW.PrintWords Go.Proofs.YtdjkdlbokepoaaaGreatDoorW.PrintLast Go.Proofs.YtdjkdlbokepoaaaGreatDoorW.PrintMore
attribute [local go_sem] max2_int min2_int max_two min_two max_three min_three max_four min_four   -- for this text's walks alone
set_option linter.unusedVariables false
set_option linter.unusedSimpArgs false
def mummerref02_Runes.l0 : Nat → List Int → List Int → Int → Option (List Int × Int)
  | 0, _, _, _ => none
  | k + 1, x0, x6, x7 => if x7 < (x0.length : Int) then ((mummerref02_Decode.f k x0 x7).bind fun bt233 => (if x6.length < 35184372088832 then (mummerref02_Runes.l0 k x0 (x6 ++ [bt233.1]) (wrap64 (x7 + bt233.2.1))) else (none))) else (some (x6, 0))
def mummerref02_Runes.f (k : Nat) (l0 : List Int) : Option (List Int × Int) := (mummerref02_Check.f k l0).bind fun bt231 => (if bt231.2 = 0 then (mummerref02_Runes.l0 k l0 ([] : List Int) 0) else (some (([] : List Int), bt231.2)))
end Go.Proofs.YtdjkdlbokepoaaaGreatDoor.P
namespace Go.Proofs.YtdjkdlbokepoaaaGreatDoor.P
open Go.RowKit Go.Proofs.YtdjkdlbokepoaaaGreatDoorW.PrintWords Go.Proofs.YtdjkdlbokepoaaaGreatDoorW.PrintLast Go.Proofs.YtdjkdlbokepoaaaGreatDoorW.PrintMore
attribute [local go_sem] max2_int min2_int max_two min_two max_three min_three max_four min_four   -- for this text's walks alone
set_option linter.unusedVariables false
set_option linter.unusedSimpArgs false
def mummerref02_Count.f (k : Nat) (l0 : List Int) : Option (Int × Int) := (mummerref02_Runes.f k l0).bind fun bt239 => (some ((bt239.1.length : Int), bt239.2))
end Go.Proofs.YtdjkdlbokepoaaaGreatDoor.P
namespace Go.Proofs.YtdjkdlbokepoaaaGreatDoor.P
open Go.RowKit Go.Proofs.YtdjkdlbokepoaaaGreatDoorW.PrintWords Go.Proofs.YtdjkdlbokepoaaaGreatDoorW.PrintLast Go.Proofs.YtdjkdlbokepoaaaGreatDoorW.PrintMore
attribute [local go_sem] max2_int min2_int max_two min_two max_three min_three max_four min_four   -- for this text's walks alone
set_option linter.unusedVariables false
set_option linter.unusedSimpArgs false
def mummerref08_begin.l0 : Nat → List Int → Int → Option (Int)
  | 0, _, _ => none
  | k + 1, x0, x1 => if x1 > 0 then (if 0 ≤ (wrap64 (x1 - 1)) then (if (wrap64 (x1 - 1)) < (x0.length : Int) then (if (rd x0 (wrap64 (x1 - 1))) = 10 then (some x1) else (mummerref08_begin.l0 k x0 (wrap64 (x1 - 1)))) else (none)) else (none)) else (some x1)
def mummerref08_begin.f (k : Nat) (l0 : List Int) (a1 : Int) : Option (Int) := mummerref08_begin.l0 k l0 a1
end Go.Proofs.YtdjkdlbokepoaaaGreatDoor.P
namespace Go.Proofs.YtdjkdlbokepoaaaGreatDoor.P
open Go.RowKit Go.Proofs.YtdjkdlbokepoaaaGreatDoorW.PrintWords Go.Proofs.YtdjkdlbokepoaaaGreatDoorW.PrintLast Go.Proofs.YtdjkdlbokepoaaaGreatDoorW.PrintMore
attribute [local go_sem] max2_int min2_int max_two min_two max_three min_three max_four min_four   -- for this text's walks alone
set_option linter.unusedVariables false
set_option linter.unusedSimpArgs false
mutual
def mummerref08_Place.j0 : Nat → List Int → Int → Int → Bool → Option (Int × Int × Int)
  | 0, _, _, _, _ => none
  | k + 1, x0, x1, x8, x31 => if x31 = true then (mummerref08_Place.j1 k x0 x1 7) else (mummerref08_Place.j1 k x0 x1 x8)
def mummerref08_Place.j1 : Nat → List Int → Int → Int → Option (Int × Int × Int)
  | 0, _, _, _ => none
  | k + 1, x0, x1, x8 => if x8 = 0 then (mummerref08_Place.l0 k x0 x1 1 0) else (some (0, 0, x8))
def mummerref08_Place.l0 : Nat → List Int → Int → Int → Int → Option (Int × Int × Int)
  | 0, _, _, _, _ => none
  | k + 1, x0, x1, x9, x10 => if x10 < x1 then (if 0 ≤ x10 then (if x10 < (x0.length : Int) then (if (rd x0 x10) = 10 then (mummerref08_Place.l0 k x0 x1 (wrap64 (x9 + 1)) (wrap64 (x10 + 1))) else (mummerref08_Place.l0 k x0 x1 x9 (wrap64 (x10 + 1)))) else (none)) else (none)) else ((mummerref02_Back.f k x0 x1).bind fun bt247 => ((mummerref08_begin.f k x0 x1).bind fun t249 => (if 0 ≤ t249 then (if t249 ≤ bt247.1 then (if bt247.1 ≤ (x0.length : Int) then ((mummerref02_Count.f k ((x0.take (bt247.1 : Int).toNat).drop (t249 : Int).toNat)).bind fun bt251 => (some (x9, wrap64 (bt251.1 + 1), 0))) else (none)) else (none)) else (none))))
end
def mummerref08_Place.f (k : Nat) (l0 : List Int) (a1 : Int) : Option (Int × Int × Int) := (mummerref02_Check.f k l0).bind fun bt244 => (if bt244.2 = 0 then (if a1 < 0 then (mummerref08_Place.j0 k l0 a1 bt244.2 true) else (mummerref08_Place.j0 k l0 a1 bt244.2 (decide (a1 > (l0.length : Int))))) else (mummerref08_Place.j0 k l0 a1 bt244.2 false))
end Go.Proofs.YtdjkdlbokepoaaaGreatDoor.P
namespace Go.Proofs.YtdjkdlbokepoaaaGreatDoor.P
open Go.RowKit Go.Proofs.YtdjkdlbokepoaaaGreatDoorW.PrintWords Go.Proofs.YtdjkdlbokepoaaaGreatDoorW.PrintLast Go.Proofs.YtdjkdlbokepoaaaGreatDoorW.PrintMore
attribute [local go_sem] max2_int min2_int max_two min_two max_three min_three max_four min_four   -- for this text's walks alone
set_option linter.unusedVariables false
set_option linter.unusedSimpArgs false
def mummerref08_Message.f (k : Nat) (l0 : List Int) (a1_0 : Int) (a1_1 : Int) (a1_2 : Int) (a1_3 : Int) (a1_4 : ByteArray) (a1_5 : Int) : Option (ByteArray × Int) := (mummerref02_Check.f k l0).bind fun bt291 => (if bt291.2 = 0 then ((mummerref08_Check.f k (l0.length : Int) (([(⟨a1_0, a1_1, (⟨a1_2, a1_3⟩ : S39), a1_4, (-1)⟩ : S41)] : List (S41)))).bind fun bt296 => (if bt296.2 = 0 then ((mummerref08_Place.f k l0 a1_2).bind fun bt298 => ((mummerref08_Pass.f a1_1).bind fun bt301 => ((mummerref08_Word.f k a1_0).bind fun bt303 => ((mummerref01_Digits.f k bt298.1).bind fun t305 => (if t305.size + 1 ≤ 9223372036854775807 then ((mummerref01_Digits.f k bt298.2.1).bind fun t306 => (if (t305 ++ (⟨#[58]⟩ : ByteArray)).size + t306.size ≤ 9223372036854775807 then (if ((t305 ++ (⟨#[58]⟩ : ByteArray)) ++ t306).size + 2 ≤ 9223372036854775807 then (if (((t305 ++ (⟨#[58]⟩ : ByteArray)) ++ t306) ++ (⟨#[58, 32]⟩ : ByteArray)).size + bt301.1.size ≤ 9223372036854775807 then (if ((((t305 ++ (⟨#[58]⟩ : ByteArray)) ++ t306) ++ (⟨#[58, 32]⟩ : ByteArray)) ++ bt301.1).size + 2 ≤ 9223372036854775807 then (if (((((t305 ++ (⟨#[58]⟩ : ByteArray)) ++ t306) ++ (⟨#[58, 32]⟩ : ByteArray)) ++ bt301.1) ++ (⟨#[58, 32]⟩ : ByteArray)).size + bt303.1.size ≤ 9223372036854775807 then (if a1_4.toList = ([] : List UInt8) then (some ((((((t305 ++ (⟨#[58]⟩ : ByteArray)) ++ t306) ++ (⟨#[58, 32]⟩ : ByteArray)) ++ bt301.1) ++ (⟨#[58, 32]⟩ : ByteArray)) ++ bt303.1, 0)) else (if ((((((t305 ++ (⟨#[58]⟩ : ByteArray)) ++ t306) ++ (⟨#[58, 32]⟩ : ByteArray)) ++ bt301.1) ++ (⟨#[58, 32]⟩ : ByteArray)) ++ bt303.1).size + 1 ≤ 9223372036854775807 then (if (((((((t305 ++ (⟨#[58]⟩ : ByteArray)) ++ t306) ++ (⟨#[58, 32]⟩ : ByteArray)) ++ bt301.1) ++ (⟨#[58, 32]⟩ : ByteArray)) ++ bt303.1) ++ (⟨#[32]⟩ : ByteArray)).size + a1_4.size ≤ 9223372036854775807 then (some ((((((((t305 ++ (⟨#[58]⟩ : ByteArray)) ++ t306) ++ (⟨#[58, 32]⟩ : ByteArray)) ++ bt301.1) ++ (⟨#[58, 32]⟩ : ByteArray)) ++ bt303.1) ++ (⟨#[32]⟩ : ByteArray)) ++ a1_4, 0)) else (none)) else (none))) else (none)) else (none)) else (none)) else (none)) else (none))) else (none)))))) else (some ((⟨#[]⟩ : ByteArray), bt296.2)))) else (some ((⟨#[]⟩ : ByteArray), bt291.2)))
end Go.Proofs.YtdjkdlbokepoaaaGreatDoor.P
namespace Go.Proofs.YtdjkdlbokepoaaaGreatDoor.P
open Go.RowKit Go.Proofs.YtdjkdlbokepoaaaGreatDoorW.PrintWords Go.Proofs.YtdjkdlbokepoaaaGreatDoorW.PrintLast Go.Proofs.YtdjkdlbokepoaaaGreatDoorW.PrintMore
attribute [local go_sem] max2_int min2_int max_two min_two max_three min_three max_four min_four   -- for this text's walks alone
set_option linter.unusedVariables false
set_option linter.unusedSimpArgs false
def mummerref08_many.l0 : Nat → ByteArray → Int → ByteArray → Int → Option (ByteArray)
  | 0, _, _, _, _ => none
  | k + 1, x0, x1, x5, x6 => if x6 < x1 then (if x5.size + x0.size ≤ 9223372036854775807 then (mummerref08_many.l0 k x0 x1 (x5 ++ x0) (wrap64 (x6 + 1))) else (none)) else (some x5)
def mummerref08_many.f (k : Nat) (a0 : ByteArray) (a1 : Int) : Option (ByteArray) := mummerref08_many.l0 k a0 a1 (⟨#[]⟩ : ByteArray) 0
end Go.Proofs.YtdjkdlbokepoaaaGreatDoor.P
namespace Go.Proofs.YtdjkdlbokepoaaaGreatDoor.P
open Go.RowKit Go.Proofs.YtdjkdlbokepoaaaGreatDoorW.PrintWords Go.Proofs.YtdjkdlbokepoaaaGreatDoorW.PrintLast Go.Proofs.YtdjkdlbokepoaaaGreatDoorW.PrintMore
attribute [local go_sem] max2_int min2_int max_two min_two max_three min_three max_four min_four   -- for this text's walks alone
set_option linter.unusedVariables false
set_option linter.unusedSimpArgs false
mutual
def mummerref08_picture.j1 : Nat → List Int → ByteArray → Int → Int → Int → Int → Int → Int → ByteArray → Int → Option (ByteArray)
  | 0, _, _, _, _, _, _, _, _, _, _ => none
  | k + 1, x0, x5, x7, x8, x308000, x308001, x308002, x308003, x308004, x308005 => (mummerref08_Place.f k x0 x308002).bind fun bt312 => ((mummerref02_Starts.f k x0).bind fun bt315 => (mummerref08_picture.l1 k x0 x5 x7 x8 bt312.2.1 bt315.1 0 0 x308000 x308001 x308002 x308003 x308004 x308005))
def mummerref08_picture.l1 : Nat → List Int → ByteArray → Int → Int → Int → List Int → Int → Int → Int → Int → Int → Int → ByteArray → Int → Option (ByteArray)
  | 0, _, _, _, _, _, _, _, _, _, _, _, _, _, _ => none
  | k + 1, x0, x5, x7, x8, x10, x12, x14, x15, x308000, x308001, x308002, x308003, x308004, x308005 => if x15 < (x12.length : Int) then (if 0 ≤ x15 then (if (rd x12 x15) ≥ x308002 then (if (rd x12 x15) < x308003 then (if (rd x12 x15) < x8 then (mummerref08_picture.l1 k x0 x5 x7 x8 x10 x12 (wrap64 (x14 + 1)) (wrap64 (x15 + 1)) x308000 x308001 x308002 x308003 x308004 x308005) else (mummerref08_picture.l1 k x0 x5 x7 x8 x10 x12 x14 (wrap64 (x15 + 1)) x308000 x308001 x308002 x308003 x308004 x308005)) else (mummerref08_picture.l1 k x0 x5 x7 x8 x10 x12 x14 (wrap64 (x15 + 1)) x308000 x308001 x308002 x308003 x308004 x308005)) else (mummerref08_picture.l1 k x0 x5 x7 x8 x10 x12 x14 (wrap64 (x15 + 1)) x308000 x308001 x308002 x308003 x308004 x308005)) else (none)) else (if x5.size + 3 ≤ 9223372036854775807 then (if 0 ≤ x7 then (if x7 ≤ x8 then (if x8 ≤ (x0.length : Int) then (if (x5 ++ (⟨#[10, 32, 32]⟩ : ByteArray)).size + (strOfNums ((x0.take (x8 : Int).toNat).drop (x7 : Int).toNat)).size ≤ 9223372036854775807 then (if ((x5 ++ (⟨#[10, 32, 32]⟩ : ByteArray)) ++ (strOfNums ((x0.take (x8 : Int).toNat).drop (x7 : Int).toNat))).size + 3 ≤ 9223372036854775807 then ((mummerref08_many.f k (⟨#[32]⟩ : ByteArray) (wrap64 (x10 - 1))).bind fun t323 => (if (((x5 ++ (⟨#[10, 32, 32]⟩ : ByteArray)) ++ (strOfNums ((x0.take (x8 : Int).toNat).drop (x7 : Int).toNat))) ++ (⟨#[10, 32, 32]⟩ : ByteArray)).size + t323.size ≤ 9223372036854775807 then ((mummerref08_many.f k (⟨#[94]⟩ : ByteArray) (mx x14 1)).bind fun t324 => (if ((((x5 ++ (⟨#[10, 32, 32]⟩ : ByteArray)) ++ (strOfNums ((x0.take (x8 : Int).toNat).drop (x7 : Int).toNat))) ++ (⟨#[10, 32, 32]⟩ : ByteArray)) ++ t323).size + t324.size ≤ 9223372036854775807 then (if (((((x5 ++ (⟨#[10, 32, 32]⟩ : ByteArray)) ++ (strOfNums ((x0.take (x8 : Int).toNat).drop (x7 : Int).toNat))) ++ (⟨#[10, 32, 32]⟩ : ByteArray)) ++ t323) ++ t324).size + 1 ≤ 9223372036854775807 then (some ((((((x5 ++ (⟨#[10, 32, 32]⟩ : ByteArray)) ++ (strOfNums ((x0.take (x8 : Int).toNat).drop (x7 : Int).toNat))) ++ (⟨#[10, 32, 32]⟩ : ByteArray)) ++ t323) ++ t324) ++ (⟨#[10]⟩ : ByteArray))) else (none)) else (none))) else (none))) else (none)) else (none)) else (none)) else (none)) else (none)) else (none))
def mummerref08_picture.l0 : Nat → List Int → ByteArray → Int → Int → Int → Int → Int → Int → ByteArray → Int → Option (ByteArray)
  | 0, _, _, _, _, _, _, _, _, _, _ => none
  | k + 1, x0, x5, x7, x8, x308000, x308001, x308002, x308003, x308004, x308005 => if x8 < (x0.length : Int) then (if 0 ≤ x8 then (if (rd x0 x8) = 10 then (mummerref08_picture.j1 k x0 x5 x7 x8 x308000 x308001 x308002 x308003 x308004 x308005) else (mummerref08_picture.l0 k x0 x5 x7 (wrap64 (x8 + 1)) x308000 x308001 x308002 x308003 x308004 x308005)) else (none)) else (mummerref08_picture.j1 k x0 x5 x7 x8 x308000 x308001 x308002 x308003 x308004 x308005)
end
def mummerref08_picture.f (k : Nat) (l0 : List Int) (a1_0 : Int) (a1_1 : Int) (a1_2 : Int) (a1_3 : Int) (a1_4 : ByteArray) (a1_5 : Int) : Option (ByteArray) := (mummerref08_Message.f k l0 a1_0 a1_1 a1_2 a1_3 a1_4 a1_5).bind fun bt308 => ((mummerref08_begin.f k l0 a1_2).bind fun t310 => (mummerref08_picture.l0 k l0 bt308.1 t310 a1_2 a1_0 a1_1 a1_2 a1_3 a1_4 a1_5))
end Go.Proofs.YtdjkdlbokepoaaaGreatDoor.P
