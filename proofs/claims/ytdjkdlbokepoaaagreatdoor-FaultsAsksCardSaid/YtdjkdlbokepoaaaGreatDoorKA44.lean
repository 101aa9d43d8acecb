import Derived.Test.YtdjkdlbokepoaaaGreatDoorKA36
import Derived.Test.YtdjkdlbokepoaaaGreatDoorKA41
import Derived.Test.YtdjkdlbokepoaaaGreatDoorKA37
namespace Go.Proofs.YtdjkdlbokepoaaaGreatDoor.P
open Go.RowKit YtdjkdlbokepoaaaGreatDoorW.PrintWords YtdjkdlbokepoaaaGreatDoorW.PrintLast YtdjkdlbokepoaaaGreatDoorW.PrintMore
attribute [local go_sem] max2_int min2_int max_two min_two max_three min_three max_four min_four
set_option linter.unusedVariables false
set_option linter.unusedSimpArgs false
mutual
def mummerref08_Order.l0 : Nat → List (S41) → List Int → Int → Option (List Int × Int)
 | 0, _, _, _ => none
 | k + 1, x0, x6, x7 => if x7 < (x0.length : Int) then (mummerref08_Order.l1 k x0 x6 x7 (x6.length : Int)) else (some (x6, 0))
def mummerref08_Order.l1 : Nat → List (S41) → List Int → Int → Int → Option (List Int × Int)
 | 0, _, _, _, _ => none
 | k + 1, x0, x6, x7, x8 => if x8 > 0 then (if 0 ≤ x7 then (if x7 < (x0.length : Int) then (if 0 ≤ (wrap64 (x8 - 1)) then (if (wrap64 (x8 - 1)) < (x6.length : Int) then (if 0 ≤ (rd x6 (wrap64 (x8 - 1))) then (if (rd x6 (wrap64 (x8 - 1))) < (x0.length : Int) then ((mummerref08_before.f ((rd_T41 x0 x7).f2.f0) ((rd_T41 x0 x7).f2.f1) ((rd_T41 x0 (rd x6 (wrap64 (x8 - 1)))).f2.f0) ((rd_T41 x0 (rd x6 (wrap64 (x8 - 1)))).f2.f1)).bind fun t458 => (if t458 = true then (mummerref08_Order.l1 k x0 x6 x7 (wrap64 (x8 - 1))) else ((some (([x7] : List Int) : List Int)).bind fun y459 => (if 0 ≤ x8 then (if x8 ≤ (x6.length : Int) then ((some (x6.drop (x8 : Int).toNat : List Int)).bind fun y462 => (if y459.length + y462.length < 17592186044416 then ((some (y459 ++ y462 : List Int)).bind fun y466 => ((some (([] : List Int) : List Int)).bind fun y469 => ((some (x6.take (x8 : Int).toNat : List Int)).bind fun y472 => (if y469.length + y472.length < 17592186044416 then ((some (y469 ++ y472 : List Int)).bind fun y476 => (if y476.length + y466.length < 17592186044416 then (mummerref08_Order.l0 k x0 (y476 ++ y466) (wrap64 (x7 + 1))) else (none))) else (none))))) else (none))) else (none)) else (none))))) else (none)) else (none)) else (none)) else (none)) else (none)) else (none)) else ((some (([x7] : List Int) : List Int)).bind fun y482 => (if 0 ≤ x8 then (if x8 ≤ (x6.length : Int) then ((some (x6.drop (x8 : Int).toNat : List Int)).bind fun y485 => (if y482.length + y485.length < 17592186044416 then ((some (y482 ++ y485 : List Int)).bind fun y489 => ((some (([] : List Int) : List Int)).bind fun y492 => ((some (x6.take (x8 : Int).toNat : List Int)).bind fun y495 => (if y492.length + y495.length < 17592186044416 then ((some (y492 ++ y495 : List Int)).bind fun y499 => (if y499.length + y489.length < 17592186044416 then (mummerref08_Order.l0 k x0 (y499 ++ y489) (wrap64 (x7 + 1))) else (none))) else (none))))) else (none))) else (none)) else (none)))
end
def mummerref08_Order.f (k : Nat) (l0 : List (S41)) : Option (List Int × Int) := (mummerref08_Check.f k 8000 l0).bind fun bt453 => (if bt453.2 = 0 then (mummerref08_Order.l0 k l0 ([] : List Int) 0) else (some (([] : List Int), bt453.2)))
def mummerref08_Order.T9 : Bool × List (List Nat × List Nat) := (true, [([], []), ([0], [0]), ([1], [1]), ([2], [2]), ([2], [2]), ([3, 4, 2], [2, 3, 4]), ([5, 2], [2, 5]), ([6, 2], [2, 6]), ([2], [2]), ([2], [2]), ([2], [2]), ([10, 2], [2, 10]), ([9, 11, 2], [2, 9, 11]), ([12, 2], [2, 12]), ([8, 13, 2], [2, 8, 13]), ([14, 2], [2, 14]), ([15, 2], [2, 15]), ([7, 16, 2, 2], [2, 7, 16]), ([2, 17], [2, 17])])
def mummerref08_Order.B9 : List Nat := [0, 1, 3, 7, 7, 31, 63, 127, 7, 7, 7, 1031, 3591, 7687, 16135, 32519, 65287, 131071, 262143]
theorem mummerref08_Order.tab9 : rtab .any (opsOf Tryz.f37 9) = mummerref08_Order.T9 := by kernel_rfl
theorem mummerref08_Order.bits9 : waitsOk mummerref08_Order.T9.2 mummerref08_Order.B9 = true := by kernel_rfl
set_option maxHeartbeats 8000000 in
set_option maxRecDepth 100000 in
theorem mummerref08_Order.calls (k : Nat) (A0 : Option Addr) (c0 : Nat) (l0 : List (S41)) (r1 : List Int) (r2 : Int) (w : World) (hr0 : Kd.C k41 w A0 l0.length l0) (hc0 : l0.length ≤ c0) (h : mummerref08_Order.f k l0 = some (r1, r2)) :
  Calls Tryz.prog 37 #[.slice A0 l0.length c0] w fun e w' => ∃ v0_ : Value, e = .returned (.tuple #[v0_, .int .i64 r2]) ∧ Kd.R (Kd.int .i64) 3 w' w.heap.size (fun _ => True) v0_ r1 ∧ Below w.heap.size w w' := by
 have hu39 := Tryz.underlying39
 have HR0 := ak hr0
 have HC0 := ak hc0
 clear hr0 hc0
 have HB := ak (Below.refl w.heap.size w)
 have H : ((mummerref08_Check.f k 8000 l0).bind fun bt453 => (if bt453.2 = 0 then (mummerref08_Order.l0 k l0 ([] : List Int) 0) else (some (([] : List Int), bt453.2)))) = some (r1, r2) := h
 clear h
 replace H := Option.bind_eq_some_iff.mp H
 obtain ⟨⟨t453, t454⟩, A20, H⟩ := H
 try dsimp only at H
 have A2 := ak A20
 clear A20
 by_cases c3 : t454 = 0
 ·rw [if_pos c3] at H
  have c3b0 : (t454 == 0) = true := beq_iff_eq.mpr c3
  have c3b1 : (t454 != 0) = false := bne_eq_false_iff_eq.mpr c3
  clear c3
  have H' := ak H
  clear H
  go_enter Tryz.func37, Tryz.ntmps37
  go_wp2_with (first | ((with_reducible refine gate_callee (f := 14) rfl ?_); refine goesL_ (some 12) rfl rfl Tryz.func14 (by kernel_rfl) rfl #[.int .i64 8000, .slice A0 l0.length c0] rfl (by (try simp only [List.map_toArray, List.map_cons, List.map_nil]); first | done | rfl | (simp only [List.length_drop, List.length_take]; rfl)) ?_; (with_reducible refine (mummerref08_Check.calls k 8000 _ _ l0 t453 t454 _ ?side1 ?side2 A2.out).mono ?_); (case side1 => repeat (first | exact HR0.out | (with_reducible refine Kd.C_alloc ?_ _) | (with_reducible refine Kd.C_drewN ?_ _) | (with_reducible refine Kd.C_drew ?_))); (case side2 => exact HC0.out); rintro e w4 ⟨rfl, hb⟩; refine ⟨_, rfl, ?_⟩; have n0_ := ak (below_step (by repeat (first | (with_reducible first | exact HB.out | apply wA | apply wN | apply wD) | exact HB.out)) hb); clear HB; have HB := n0_; clear n0_; (try clear hb); (try clear hb2); (try clear hk); (try clear hi)))
  go_loopg [6, 7] k (fun kq v6 v7 w' => ∃ (x6_1 : List Int) (x7_1 : Int), v7 = .int .i64 x7_1 ∧ Aside0 (mummerref08_Order.l0 kq l0 x6_1 x7_1 = some (r1, r2)) ∧ Aside0 (kq ≤ k) ∧ Aside0 (Kd.R (Kd.int .i64) 3 w' w.heap.size (fun _ => True) v6 x6_1) ∧ Aside0 (Below w.heap.size w w'))
  case atStart => exact ⟨(([] : List Int)), (0), (by first | rfl | (simp; done) | (simp [*]; done)), H', ⟨Nat.le_refl _⟩, ⟨by first | exact Kd.R_nil _ _ _ _ _ | exact Kd.N_nil _ _ _ _ _ | exact Kd.V_nil _ _ _ _ _ | exact Kd.Q_nil _ _ _ _ _ | exact Kd.S_nil _ _ _ _ _⟩, ⟨by repeat (first | (with_reducible first | exact HB.out | apply wA | apply wN | apply wD) | exact HB.out)⟩⟩
  case round =>
   clear H'
   try clear c1
   try clear p2
   try clear c3
   try clear c3b0
   try clear c3b1
   obtain ⟨x6_1, x7_1, rfl, HA, HK1, HO_6, HB⟩ := hrel
   cases gk with
   | zero => exact absurd HA.out (by simp [mummerref08_Order.l0])
   | succ k1 =>
    have H := HA.out
    clear HA
    simp only [mummerref08_Order.l0] at H
    by_cases c5 : x7_1 < (l0.length : Int)
    ·rw [if_pos c5] at H
     have c5b0 : decide (x7_1 < (l0.length : Int)) = true := decide_eq_true c5
     clear c5
     have H' := ak H
     clear H
     obtain ⟨Ao6, co6, eo6⟩ := Kd.R_slice HO_6.out
     subst eo6
     go_wp2
     go_loopg [8] k1 (fun kq v8 w' => ∃ (x8_2 : Int), v8 = .int .i64 x8_2 ∧ Aside0 (mummerref08_Order.l1 kq l0 x6_1 x7_1 x8_2 = some (r1, r2)) ∧ Aside0 (kq ≤ k1) ∧ Aside0 (Kd.R (Kd.int .i64) 3 w' w.heap.size (fun _ => True) (.slice Ao6 x6_1.length co6) x6_1) ∧ Aside0 (Below w.heap.size w w'))
     case atStart => exact ⟨((x6_1.length : Int)), (by first | rfl | (simp; done) | (simp [*]; done)), H', ⟨Nat.le_refl _⟩, ⟨by (with_reducible repeat (first | apply Kd.R_alloc | apply Kd.R_drewN | apply Kd.R_drew)); exact HO_6.out⟩, ⟨by repeat (first | (with_reducible first | exact HB.out | apply wA | apply wN | apply wD) | exact HB.out)⟩⟩
     case round =>
      clear H'
      try clear c1
      try clear p2
      try clear c3
      try clear c3b0
      try clear c3b1
      try clear c5
      try clear c5b0
      try clear p2
      obtain ⟨x8_2, rfl, HA, HK2, HO_6, HB⟩ := hrel
      cases gk with
      | zero => exact absurd HA.out (by simp [mummerref08_Order.l1])
      | succ k2 =>
       have H := HA.out
       clear HA
       simp only [mummerref08_Order.l1] at H
       by_cases c7 : x8_2 > 0
       ·rw [if_pos c7] at H
        have c7b0 : decide (0 < x8_2) = true := decide_eq_true c7
        clear c7
        by_cases c8 : 0 ≤ x7_1
        ·rw [if_pos c8] at H
         have c8b0 : decide (0 ≤ x7_1) = true := decide_eq_true c8
         clear c8
         by_cases c9 : x7_1 < (l0.length : Int)
         ·rw [if_pos c9] at H
          have c9b0 : decide (x7_1 < (l0.length : Int)) = true := decide_eq_true c9
          clear c9
          obtain ⟨ji10, hji10⟩ : ∃ j_ : Int, (wrap64 (x8_2 - 1)) = j_ := ⟨_, rfl⟩
          replace H : (if 0 ≤ (ji10) then (if (ji10) < (x6_1.length : Int) then (if 0 ≤ (rd x6_1 (ji10)) then (if (rd x6_1 (ji10)) < (l0.length : Int) then ((mummerref08_before.f ((rd_T41 l0 x7_1).f2.f0) ((rd_T41 l0 x7_1).f2.f1) ((rd_T41 l0 (rd x6_1 (ji10))).f2.f0) ((rd_T41 l0 (rd x6_1 (ji10))).f2.f1)).bind fun t458 => (if t458 = true then (mummerref08_Order.l1 k2 l0 x6_1 x7_1 ji10) else ((some (([x7_1] : List Int) : List Int)).bind fun y459 => (if 0 ≤ x8_2 then (if x8_2 ≤ (x6_1.length : Int) then ((some (x6_1.drop (x8_2 : Int).toNat : List Int)).bind fun y462 => (if y459.length + y462.length < 17592186044416 then ((some (y459 ++ y462 : List Int)).bind fun y466 => ((some (([] : List Int) : List Int)).bind fun y469 => ((some (x6_1.take (x8_2 : Int).toNat : List Int)).bind fun y472 => (if y469.length + y472.length < 17592186044416 then ((some (y469 ++ y472 : List Int)).bind fun y476 => (if y476.length + y466.length < 17592186044416 then (mummerref08_Order.l0 k2 l0 (y476 ++ y466) (wrap64 (x7_1 + 1))) else (none))) else (none))))) else (none))) else (none)) else (none))))) else (none)) else (none)) else (none)) else (none)) = some (r1, r2) := by first | (rw [hji10] at H; exact H) | (simp only [hji10] at H ⊢; exact H)
          have hji10w : (IntKind.i64.wrap (x8_2 - 1)) = ji10 := (i64_w _).trans hji10
          by_cases c11 : 0 ≤ (ji10)
          ·rw [if_pos c11] at H
           have c11b0 : decide (0 ≤ (ji10)) = true := decide_eq_true c11
           clear c11
           by_cases c12 : (ji10) < (x6_1.length : Int)
           ·rw [if_pos c12] at H
            have c12b0 : decide ((ji10) < (x6_1.length : Int)) = true := decide_eq_true c12
            clear c12
            by_cases c13 : 0 ≤ (rd x6_1 (ji10))
            ·rw [if_pos c13] at H
             have c13b0 : decide (0 ≤ (rd x6_1 (ji10))) = true := decide_eq_true c13
             clear c13
             by_cases c14 : (rd x6_1 (ji10)) < (l0.length : Int)
             ·rw [if_pos c14] at H
              have c14b0 : decide ((rd x6_1 (ji10)) < (l0.length : Int)) = true := decide_eq_true c14
              clear c14
              replace H := Option.bind_eq_some_iff.mp H
              obtain ⟨t458, A150, H⟩ := H
              try dsimp only at H
              have A15 := ak A150
              clear A150
              by_cases c16 : t458 = true
              ·subst c16
               have H1 : (mummerref08_Order.l1 k2 l0 x6_1 x7_1 ji10) = some (r1, r2) := by rw [if_pos rfl] at H; exact H
               clear H
               have H := H1
               clear H1
               have H' := ak H
               clear H
               try go_wp2
               have n0_ := ak (Kd.R_drew HO_6.out)
               have n1_ := ak (wD HB.out)
               clear HO_6 HB
               have HO_6 := n0_
               have HB := n1_
               clear n0_ n1_
               have p455 : 0 ≤ (x7_1 : Int) := of_decide_eq_true (by first | (with_reducible assumption) | assumption)
               have q455 : x7_1 < (l0.length : Int) := of_decide_eq_true (by first | (with_reducible assumption) | assumption)
               obtain ⟨ad455, e455, hx455_0, hx455_1, hx455_2, hx455_3, hx455_4, hx455_5⟩ := at_T41 HR0.out x7_1 p455 q455
               have hw455_5 := hx455_5
               have hw455_4 := hx455_4
               have hw455_3 := hx455_3
               have hw455_2 := hx455_2
               have hw455_1 := hx455_1
               have hw455_0 := hx455_0
               cases e455
               replace hx455_0 := (HB.out.cell (World.block_lt_of_cell? w _ hx455_0)).trans hx455_0
               replace hx455_1 := (HB.out.cell (World.block_lt_of_cell? w _ hx455_1)).trans hx455_1
               replace hx455_2 := (HB.out.cell (World.block_lt_of_cell? w _ hx455_2)).trans hx455_2
               replace hx455_3 := (HB.out.cell (World.block_lt_of_cell? w _ hx455_3)).trans hx455_3
               replace hx455_4 := (HB.out.cell (World.block_lt_of_cell? w _ hx455_4)).trans hx455_4
               replace hx455_5 := (HB.out.cell (World.block_lt_of_cell? w _ hx455_5)).trans hx455_5
               replace p455 := eq_true p455
               replace q455 := eq_true q455
               have p456 : 0 ≤ ((ji10) : Int) := of_decide_eq_true (by first | (with_reducible assumption) | assumption)
               have q456 : (ji10) < (x6_1.length : Int) := of_decide_eq_true (by first | (with_reducible assumption) | assumption)
               obtain ⟨ad456, e456, hx456_0⟩ := Kd.at_int (Kd.R_reads' HO_6.out).2.2 (ji10) p456 q456
               cases e456
               replace p456 := eq_true p456
               replace q456 := eq_true q456
               have p457 : 0 ≤ ((rd x6_1 (ji10)) : Int) := of_decide_eq_true (by first | (with_reducible assumption) | assumption)
               have q457 : (rd x6_1 (ji10)) < (l0.length : Int) := of_decide_eq_true (by first | (with_reducible assumption) | assumption)
               obtain ⟨ad457, e457, hx457_0, hx457_1, hx457_2, hx457_3, hx457_4, hx457_5⟩ := at_T41 HR0.out (rd x6_1 (ji10)) p457 q457
               have hw457_5 := hx457_5
               have hw457_4 := hx457_4
               have hw457_3 := hx457_3
               have hw457_2 := hx457_2
               have hw457_1 := hx457_1
               have hw457_0 := hx457_0
               obtain rfl : ad455 = ad457 := (by injection e457)
               replace hx457_0 := (HB.out.cell (World.block_lt_of_cell? w _ hx457_0)).trans hx457_0
               replace hx457_1 := (HB.out.cell (World.block_lt_of_cell? w _ hx457_1)).trans hx457_1
               replace hx457_2 := (HB.out.cell (World.block_lt_of_cell? w _ hx457_2)).trans hx457_2
               replace hx457_3 := (HB.out.cell (World.block_lt_of_cell? w _ hx457_3)).trans hx457_3
               replace hx457_4 := (HB.out.cell (World.block_lt_of_cell? w _ hx457_4)).trans hx457_4
               replace hx457_5 := (HB.out.cell (World.block_lt_of_cell? w _ hx457_5)).trans hx457_5
               replace p457 := eq_true p457
               replace q457 := eq_true q457
               refine start_ (n := 19) (S := fun w' => w'.cell? (ad455.add ((x7_1).toNat * 6)) = some (.int .i64 ((rd_T41 l0 x7_1).f0)) ∧ w'.cell? ⟨(ad455.add ((x7_1).toNat * 6)).block, (ad455.add ((x7_1).toNat * 6)).off + 1, none⟩ = some (.int .i64 ((rd_T41 l0 x7_1).f1)) ∧ w'.cell? ⟨(ad455.add ((x7_1).toNat * 6)).block, (ad455.add ((x7_1).toNat * 6)).off + 2, none⟩ = some (.int .i64 ((rd_T41 l0 x7_1).f2.f0)) ∧ w'.cell? ⟨(ad455.add ((x7_1).toNat * 6)).block, (ad455.add ((x7_1).toNat * 6)).off + 3, none⟩ = some (.int .i64 ((rd_T41 l0 x7_1).f2.f1)) ∧ w'.cell? ⟨(ad455.add ((x7_1).toNat * 6)).block, (ad455.add ((x7_1).toNat * 6)).off + 4, none⟩ = some (.string ((rd_T41 l0 x7_1).f3)) ∧ w'.cell? ⟨(ad455.add ((x7_1).toNat * 6)).block, (ad455.add ((x7_1).toNat * 6)).off + 5, none⟩ = some (.int .i64 ((rd_T41 l0 x7_1).f4)) ∧ w'.cell? (ad456.add ((ji10)).toNat) = some (.int .i64 (rd x6_1 (ji10))) ∧ w'.cell? (ad455.add (((rd x6_1 (ji10))).toNat * 6)) = some (.int .i64 ((rd_T41 l0 (rd x6_1 (ji10))).f0)) ∧ w'.cell? ⟨(ad455.add (((rd x6_1 (ji10))).toNat * 6)).block, (ad455.add (((rd x6_1 (ji10))).toNat * 6)).off + 1, none⟩ = some (.int .i64 ((rd_T41 l0 (rd x6_1 (ji10))).f1)) ∧ w'.cell? ⟨(ad455.add (((rd x6_1 (ji10))).toNat * 6)).block, (ad455.add (((rd x6_1 (ji10))).toNat * 6)).off + 2, none⟩ = some (.int .i64 ((rd_T41 l0 (rd x6_1 (ji10))).f2.f0)) ∧ w'.cell? ⟨(ad455.add (((rd x6_1 (ji10))).toNat * 6)).block, (ad455.add (((rd x6_1 (ji10))).toNat * 6)).off + 3, none⟩ = some (.int .i64 ((rd_T41 l0 (rd x6_1 (ji10))).f2.f1)) ∧ w'.cell? ⟨(ad455.add (((rd x6_1 (ji10))).toNat * 6)).block, (ad455.add (((rd x6_1 (ji10))).toNat * 6)).off + 4, none⟩ = some (.string ((rd_T41 l0 (rd x6_1 (ji10))).f3)) ∧ w'.cell? ⟨(ad455.add (((rd x6_1 (ji10))).toNat * 6)).block, (ad455.add (((rd x6_1 (ji10))).toNat * 6)).off + 5, none⟩ = some (.int .i64 ((rd_T41 l0 (rd x6_1 (ji10))).f4))) (ds := []) #[false, false, false, false, false, false, false, false, false, false, false, false, false, false, false, false, false, false, false] (by kernel_rfl) rfl rfl ⟨((HB.out.cell (World.block_lt_of_cell? w _ hw455_0)).trans hw455_0), ((HB.out.cell (World.block_lt_of_cell? w _ hw455_1)).trans hw455_1), ((HB.out.cell (World.block_lt_of_cell? w _ hw455_2)).trans hw455_2), ((HB.out.cell (World.block_lt_of_cell? w _ hw455_3)).trans hw455_3), ((HB.out.cell (World.block_lt_of_cell? w _ hw455_4)).trans hw455_4), ((HB.out.cell (World.block_lt_of_cell? w _ hw455_5)).trans hw455_5), hx456_0, ((HB.out.cell (World.block_lt_of_cell? w _ hw457_0)).trans hw457_0), ((HB.out.cell (World.block_lt_of_cell? w _ hw457_1)).trans hw457_1), ((HB.out.cell (World.block_lt_of_cell? w _ hw457_2)).trans hw457_2), ((HB.out.cell (World.block_lt_of_cell? w _ hw457_3)).trans hw457_3), ((HB.out.cell (World.block_lt_of_cell? w _ hw457_4)).trans hw457_4), ((HB.out.cell (World.block_lt_of_cell? w _ hw457_5)).trans hw457_5)⟩ (fun hHeld => ?_); refine with_tabW mummerref08_Order.tab9 mummerref08_Order.bits9 (fun HT_ HW_ => ?_)
               generalize wr.drew = w17 at HO_6 HB hx455_0 hx455_1 hx455_2 hx455_3 hx455_4 hx455_5 hx456_0 hx457_0 hx457_1 hx457_2 hx457_3 hx457_4 hx457_5 hHeld ⊢
               refine pure_ (i := 0) (N := some 26) (v := ?_) (a' := ?_) #[true, false, false, false, false, false, false, false, false, false, false, false, false, false, false, false, false, false, false] rfl rfl (any_of HT_.out (by kernel_rfl)) (fun _ _ _ h => h) (Or.inl ⟨by rfl, ?_⟩) ?_ ?_
               rotate_left
               ·intro w'
                go_simp
                with_reducible rfl
               rotate_left
               ·simp only [Act.put, List.setIfInBounds_toArray, List.set_cons_zero, List.set_cons_succ, i64_w, i32_w]
                rfl
               refine pure_ (i := 1) (N := some 27) (v := ?_) (a' := ?_) #[true, true, false, false, false, false, false, false, false, false, false, false, false, false, false, false, false, false, false] rfl rfl (any_of HT_.out (by kernel_rfl)) (fun _ _ _ h => h) (Or.inl ⟨by rfl, ?_⟩) ?_ ?_
               rotate_left
               ·intro w'
                go_simp
                with_reducible rfl
               rotate_left
               ·simp only [Act.put, List.setIfInBounds_toArray, List.set_cons_zero, List.set_cons_succ, i64_w, i32_w]
                rfl
               refine pure_ (i := 2) (N := some 28) (v := ?_) (a' := ?_) #[true, true, true, false, false, false, false, false, false, false, false, false, false, false, false, false, false, false, false] rfl rfl (any_of HT_.out (by kernel_rfl)) (fun _ _ _ h => h) (Or.inl ⟨by rfl, ?_⟩) ?_ ?_
               rotate_left
               ·intro w'
                go_simp
                with_reducible rfl
               rotate_left
               ·simp only [Act.put, List.setIfInBounds_toArray, List.set_cons_zero, List.set_cons_succ, i64_w, i32_w]
                rfl
               refine pure_ (i := 3) (N := some 29) (v := ?_) (a' := ?_) #[true, true, true, true, false, false, false, false, false, false, false, false, false, false, false, false, false, false, false] rfl rfl (any_of HT_.out (by kernel_rfl)) (fun _ _ _ h => h) (Or.inl ⟨by rfl, ?_⟩) ?_ ?_
               rotate_left
               ·intro w'
                go_simp
                with_reducible rfl
               rotate_left
               ·simp only [Act.put, List.setIfInBounds_toArray, List.set_cons_zero, List.set_cons_succ, i64_w, i32_w]
                rfl
               refine pure_ (i := 4) (N := some 30) (v := ?_) (a' := ?_) #[true, true, true, true, true, false, false, false, false, false, false, false, false, false, false, false, false, false, false] rfl rfl (any_of HT_.out (by kernel_rfl)) (fun _ _ _ h => h) (Or.inl ⟨by rfl, ?_⟩) ?_ ?_
               rotate_left
               ·intro w'
                go_simp
                with_reducible rfl
               rotate_left
               ·simp only [Act.put, List.setIfInBounds_toArray, List.set_cons_zero, List.set_cons_succ, i64_w, i32_w]
                rfl
               refine pure_ (i := 5) (N := some 31) (v := ?_) (a' := ?_) #[true, true, true, true, true, true, false, false, false, false, false, false, false, false, false, false, false, false, false] rfl rfl (any_of HT_.out (by kernel_rfl)) (fun _ _ _ h => h) (Or.inl ⟨by rfl, ?_⟩) ?_ ?_
               rotate_left
               ·intro w'
                go_simp
                with_reducible rfl
               rotate_left
               ·simp only [Act.put, List.setIfInBounds_toArray, List.set_cons_zero, List.set_cons_succ, i64_w, i32_w]
                rfl
               refine pure_ (i := 6) (N := some 32) (v := ?_) (a' := ?_) #[true, true, true, true, true, true, true, false, false, false, false, false, false, false, false, false, false, false, false] rfl rfl (any_of HT_.out (by kernel_rfl)) (fun _ _ _ h => h) (Or.inl ⟨by rfl, ?_⟩) ?_ ?_
               rotate_left
               ·intro w'
                go_simp
                with_reducible rfl
               rotate_left
               ·simp only [Act.put, List.setIfInBounds_toArray, List.set_cons_zero, List.set_cons_succ, i64_w, i32_w]
                rfl
               refine pure_ (i := 8) (N := some 34) (v := ?_) (a' := ?_) #[true, true, true, true, true, true, true, false, true, false, false, false, false, false, false, false, false, false, false] rfl rfl (any_of HT_.out (by kernel_rfl)) (fun _ _ _ h => h) (Or.inl ⟨by rfl, ?_⟩) ?_ ?_
               rotate_left
               ·intro w'
                go_simp
                with_reducible rfl
               rotate_left
               ·simp only [Act.put, List.setIfInBounds_toArray, List.set_cons_zero, List.set_cons_succ, i64_w, i32_w]
                rfl
               refine pure_ (i := 9) (N := some 35) (v := ?_) (a' := ?_) #[true, true, true, true, true, true, true, false, true, true, false, false, false, false, false, false, false, false, false] rfl rfl (any_of HT_.out (by kernel_rfl)) (fun _ _ _ h => h) (Or.inl ⟨by rfl, ?_⟩) ?_ ?_
               rotate_left
               ·intro w'
                go_simp
                with_reducible rfl
               rotate_left
               ·simp only [Act.put, List.setIfInBounds_toArray, List.set_cons_zero, List.set_cons_succ, i64_w, i32_w]
                rfl
               refine pure_ (i := 10) (N := some 36) (v := ?_) (a' := ?_) #[true, true, true, true, true, true, true, false, true, true, true, false, false, false, false, false, false, false, false] rfl rfl (any_of HT_.out (by kernel_rfl)) (fun _ _ _ h => h) (Or.inl ⟨by rfl, ?_⟩) ?_ ?_
               rotate_left
               ·intro w'
                go_simp
                with_reducible rfl
               rotate_left
               ·simp only [Act.put, List.setIfInBounds_toArray, List.set_cons_zero, List.set_cons_succ, i64_w, i32_w]
                rfl
               refine pure_ (i := 11) (N := some 37) (v := ?_) (a' := ?_) #[true, true, true, true, true, true, true, false, true, true, true, true, false, false, false, false, false, false, false] rfl rfl (any_of HT_.out (by kernel_rfl)) (fun _ _ _ h => h) (Or.inl ⟨by rfl, ?_⟩) ?_ ?_
               rotate_left
               ·intro w'
                go_simp
                with_reducible rfl
               rotate_left
               ·simp only [Act.put, List.setIfInBounds_toArray, List.set_cons_zero, List.set_cons_succ, i64_w, i32_w]
                rfl
               refine pure_ (i := 12) (N := some 38) (v := ?_) (a' := ?_) #[true, true, true, true, true, true, true, false, true, true, true, true, true, false, false, false, false, false, false] rfl rfl (any_of HT_.out (by kernel_rfl)) (fun _ _ _ h => h) (Or.inl ⟨by rfl, ?_⟩) ?_ ?_
               rotate_left
               ·intro w'
                go_simp
                with_reducible rfl
               rotate_left
               ·simp only [Act.put, List.setIfInBounds_toArray, List.set_cons_zero, List.set_cons_succ, i64_w, i32_w]
                rfl
               refine take_ (i := 7) (N := some 33) (v := ?_) (a' := ?_) #[true, true, true, true, true, true, true, true, true, true, true, true, true, false, false, false, false, false, false] rfl rfl (take_ofW HT_.out HW_.out (by kernel_rfl)) (fun _ _ _ h => h) (Or.inl ⟨by rfl, ?_⟩) hHeld ?_ ?_
               rotate_left
               ·rintro w' ⟨s0, s1, s2, s3, s4, s5, s6, s7, s8, s9, s10, s11, s12⟩
                go_simp
                with_reducible rfl
               rotate_left
               ·simp only [Act.put, List.setIfInBounds_toArray, List.set_cons_zero, List.set_cons_succ, i64_w, i32_w]
                rfl
               refine take_ (i := 13) (N := some 39) (v := ?_) (a' := ?_) #[true, true, true, true, true, true, true, true, true, true, true, true, true, true, false, false, false, false, false] rfl rfl (take_ofW HT_.out HW_.out (by kernel_rfl)) (fun _ _ _ h => h) (Or.inl ⟨by rfl, ?_⟩) hHeld ?_ ?_
               rotate_left
               ·rintro w' ⟨s0, s1, s2, s3, s4, s5, s6, s7, s8, s9, s10, s11, s12⟩
                go_simp
                with_reducible rfl
               rotate_left
               ·simp only [Act.put, List.setIfInBounds_toArray, List.set_cons_zero, List.set_cons_succ, i64_w, i32_w]
                rfl
               refine pure_ (i := 14) (N := some 40) (v := ?_) (a' := ?_) #[true, true, true, true, true, true, true, true, true, true, true, true, true, true, true, false, false, false, false] rfl rfl (any_of HT_.out (by kernel_rfl)) (fun _ _ _ h => h) (Or.inl ⟨by rfl, ?_⟩) ?_ ?_
               rotate_left
               ·intro w'
                go_simp
                with_reducible rfl
               rotate_left
               ·simp only [Act.put, List.setIfInBounds_toArray, List.set_cons_zero, List.set_cons_succ, i64_w, i32_w]
                rfl
               refine pure_ (i := 15) (N := some 41) (v := ?_) (a' := ?_) #[true, true, true, true, true, true, true, true, true, true, true, true, true, true, true, true, false, false, false] rfl rfl (any_of HT_.out (by kernel_rfl)) (fun _ _ _ h => h) (Or.inl ⟨by rfl, ?_⟩) ?_ ?_
               rotate_left
               ·intro w'
                go_simp
                with_reducible rfl
               rotate_left
               ·simp only [Act.put, List.setIfInBounds_toArray, List.set_cons_zero, List.set_cons_succ, i64_w, i32_w]
                rfl
               refine take_ (i := 16) (N := some 42) (v := ?_) (a' := ?_) #[true, true, true, true, true, true, true, true, true, true, true, true, true, true, true, true, true, false, false] rfl rfl (take_ofW HT_.out HW_.out (by kernel_rfl)) (fun _ _ _ h => h) (Or.inl ⟨by rfl, ?_⟩) hHeld ?_ ?_
               rotate_left
               ·rintro w' ⟨s0, s1, s2, s3, s4, s5, s6, s7, s8, s9, s10, s11, s12⟩
                go_simp
                with_reducible rfl
               rotate_left
               ·simp only [Act.put, List.setIfInBounds_toArray, List.set_cons_zero, List.set_cons_succ, i64_w, i32_w]
                rfl
               refine one_ (i := 17) (N := some 43) #[true, true, true, true, true, true, true, true, true, true, true, true, true, true, true, true, true, true, false] rfl rfl (one_of HT_.out (by kernel_rfl)) (by decide) (fun K hK => ?_)
               refine goes_ Tryz.func72 (by kernel_rfl) rfl #[.agg #[.int .i64 ((rd_T41 l0 x7_1).f2.f0), .int .i64 ((rd_T41 l0 x7_1).f2.f1)], .agg #[.int .i64 ((rd_T41 l0 (rd x6_1 (ji10))).f2.f0), .int .i64 ((rd_T41 l0 (rd x6_1 (ji10))).f2.f1)]] (by rfl) rfl rfl (by (try simp only [List.map_toArray, List.map_cons, List.map_nil]); first | done | (simp only [hji10]; rfl) | rfl | (simp only [List.length_drop, List.length_take]; rfl)) ?_
               with_reducible refine (mummerref08_before.calls ((rd_T41 l0 x7_1).f2.f0) ((rd_T41 l0 x7_1).f2.f1) ((rd_T41 l0 (rd x6_1 (ji10))).f2.f0) ((rd_T41 l0 (rd x6_1 (ji10))).f2.f1) true _ A15.out).mono ?_
               rintro e w18 ⟨rfl, hb⟩
               have HS6_ := (hb.cell (World.block_lt_of_cell? _ _ (hHeld.2.2.2.2.2.2.1))).trans (hHeld.2.2.2.2.2.2.1)
               refine ⟨_, rfl, ?_⟩
               have n0_ := ak (Kd.R_below (by (with_reducible repeat (first | apply Kd.R_alloc | apply Kd.R_drewN | apply Kd.R_drew)); exact HO_6.out) hb)
               have n1_ := ak (below_step (by repeat (first | (with_reducible first | exact HB.out | apply wA | apply wN | apply wD) | exact HB.out)) hb)
               clear HO_6 HB
               have HO_6 := n0_
               have HB := n1_
               clear n0_ n1_
               (try clear hb)
               (try clear hb2)
               (try clear hk)
               (try clear hi)
               refine hK.out _ _ ⟨((HB.out.cell (World.block_lt_of_cell? w _ hw455_0)).trans hw455_0), ((HB.out.cell (World.block_lt_of_cell? w _ hw455_1)).trans hw455_1), ((HB.out.cell (World.block_lt_of_cell? w _ hw455_2)).trans hw455_2), ((HB.out.cell (World.block_lt_of_cell? w _ hw455_3)).trans hw455_3), ((HB.out.cell (World.block_lt_of_cell? w _ hw455_4)).trans hw455_4), ((HB.out.cell (World.block_lt_of_cell? w _ hw455_5)).trans hw455_5), HS6_, ((HB.out.cell (World.block_lt_of_cell? w _ hw457_0)).trans hw457_0), ((HB.out.cell (World.block_lt_of_cell? w _ hw457_1)).trans hw457_1), ((HB.out.cell (World.block_lt_of_cell? w _ hw457_2)).trans hw457_2), ((HB.out.cell (World.block_lt_of_cell? w _ hw457_3)).trans hw457_3), ((HB.out.cell (World.block_lt_of_cell? w _ hw457_4)).trans hw457_4), ((HB.out.cell (World.block_lt_of_cell? w _ hw457_5)).trans hw457_5)⟩ (fun hHeld => ?_)
               clear hK K
               refine norm_ (a' := ?_) ?_ ?_
               rotate_left
               ·show Act.put _ (some 43) _ = _
                simp only [Act.put, List.setIfInBounds_toArray, List.set_cons_zero, List.set_cons_succ, i64_w, i32_w]
                rfl
               refine pure_ (i := 18) (N := some 44) (v := ?_) (a' := ?_) #[true, true, true, true, true, true, true, true, true, true, true, true, true, true, true, true, true, true, true] rfl rfl (any_of HT_.out (by kernel_rfl)) (fun _ _ _ h => h) (Or.inl ⟨by rfl, ?_⟩) ?_ ?_
               rotate_left
               ·intro w'
                go_simp
                with_reducible rfl
               rotate_left
               ·simp only [Act.put, List.setIfInBounds_toArray, List.set_cons_zero, List.set_cons_succ, i64_w, i32_w]
                rfl
               refine done_ (done_of HT_.out (by kernel_rfl)) ?_
               try go_wp2
               go_roundg k2
               case measure => have := HK1.out; have := HK2.out; omega
               case rel => exact ⟨(ji10), (by first | rfl | (simp; done) | (simp only [← hji10] <;> (first | rfl | simp)) | (simp [*]; done)), H', ⟨by have := HK1.out; have := HK2.out; omega⟩, ⟨by (with_reducible repeat (first | apply Kd.R_alloc | apply Kd.R_drewN | apply Kd.R_drew)); exact HO_6.out⟩, ⟨by repeat (first | (with_reducible first | exact HB.out | apply wA | apply wN | apply wD) | exact HB.out)⟩⟩
              ·replace c16 := Bool.eq_false_iff.mpr c16
               subst c16
               have H1 : ((some (([x7_1] : List Int) : List Int)).bind fun y459 => (if 0 ≤ x8_2 then (if x8_2 ≤ (x6_1.length : Int) then ((some (x6_1.drop (x8_2 : Int).toNat : List Int)).bind fun y462 => (if y459.length + y462.length < 17592186044416 then ((some (y459 ++ y462 : List Int)).bind fun y466 => ((some (([] : List Int) : List Int)).bind fun y469 => ((some (x6_1.take (x8_2 : Int).toNat : List Int)).bind fun y472 => (if y469.length + y472.length < 17592186044416 then ((some (y469 ++ y472 : List Int)).bind fun y476 => (if y476.length + y466.length < 17592186044416 then (mummerref08_Order.l0 k2 l0 (y476 ++ y466) (wrap64 (x7_1 + 1))) else (none))) else (none))))) else (none))) else (none)) else (none))) = some (r1, r2) := by rw [if_neg (show ¬ (false = true) by decide)] at H; exact H
               clear H
               have H := H1
               clear H1
               obtain ⟨y459, hy459⟩ : ∃ y_ : List Int, y_ = (([x7_1] : List Int)) := ⟨_, rfl⟩
               replace H : (if 0 ≤ x8_2 then (if x8_2 ≤ (x6_1.length : Int) then ((some (x6_1.drop (x8_2 : Int).toNat : List Int)).bind fun y462 => (if y459.length + y462.length < 17592186044416 then ((some (y459 ++ y462 : List Int)).bind fun y466 => ((some (([] : List Int) : List Int)).bind fun y469 => ((some (x6_1.take (x8_2 : Int).toNat : List Int)).bind fun y472 => (if y469.length + y472.length < 17592186044416 then ((some (y469 ++ y472 : List Int)).bind fun y476 => (if y476.length + y466.length < 17592186044416 then (mummerref08_Order.l0 k2 l0 (y476 ++ y466) (wrap64 (x7_1 + 1))) else (none))) else (none))))) else (none))) else (none)) else (none)) = some (r1, r2) := by first | (rw [hy459]; with_reducible exact H) | (have H2_ := (Option.bind_some _ _).symm.trans H; rw [hy459]; with_reducible exact H2_) | (have H2_ := (Option.bind_some _ _).symm.trans H; with_reducible exact H2_) | with_reducible exact H | (rw [hy459]; exact H) | exact H
               have Ny459 := ak hy459
               clear hy459
               by_cases c19 : 0 ≤ x8_2
               ·rw [if_pos c19] at H
                have c19b0 := eq_true c19
                have c19b1 : decide (0 ≤ x8_2) = true := decide_eq_true c19
                clear c19
                by_cases c20 : x8_2 ≤ (x6_1.length : Int)
                ·rw [if_pos c20] at H
                 have c20b0 := eq_true c20
                 have c20b1 : decide (x8_2 ≤ (x6_1.length : Int)) = true := decide_eq_true c20
                 clear c20
                 obtain ⟨y462, hy462⟩ : ∃ y_ : List Int, y_ = (x6_1.drop (x8_2 : Int).toNat) := ⟨_, rfl⟩
                 replace H : (if y459.length + y462.length < 17592186044416 then ((some (y459 ++ y462 : List Int)).bind fun y466 => ((some (([] : List Int) : List Int)).bind fun y469 => ((some (x6_1.take (x8_2 : Int).toNat : List Int)).bind fun y472 => (if y469.length + y472.length < 17592186044416 then ((some (y469 ++ y472 : List Int)).bind fun y476 => (if y476.length + y466.length < 17592186044416 then (mummerref08_Order.l0 k2 l0 (y476 ++ y466) (wrap64 (x7_1 + 1))) else (none))) else (none))))) else (none)) = some (r1, r2) := by first | (rw [hy462]; with_reducible exact H) | (have H2_ := (Option.bind_some _ _).symm.trans H; rw [hy462]; with_reducible exact H2_) | (have H2_ := (Option.bind_some _ _).symm.trans H; with_reducible exact H2_) | with_reducible exact H | (rw [hy462]; exact H) | exact H
                 have Ny462 := ak hy462
                 clear hy462
                 by_cases c21 : y459.length + y462.length < 17592186044416
                 ·rw [if_pos c21] at H
                  have LMc21 := ak c21
                  clear c21
                  obtain ⟨y466, hy466⟩ : ∃ y_ : List Int, y_ = (y459 ++ y462) := ⟨_, rfl⟩
                  replace H : ((some (([] : List Int) : List Int)).bind fun y469 => ((some (x6_1.take (x8_2 : Int).toNat : List Int)).bind fun y472 => (if y469.length + y472.length < 17592186044416 then ((some (y469 ++ y472 : List Int)).bind fun y476 => (if y476.length + y466.length < 17592186044416 then (mummerref08_Order.l0 k2 l0 (y476 ++ y466) (wrap64 (x7_1 + 1))) else (none))) else (none)))) = some (r1, r2) := by first | (rw [hy466]; with_reducible exact H) | (have H2_ := (Option.bind_some _ _).symm.trans H; rw [hy466]; with_reducible exact H2_) | (have H2_ := (Option.bind_some _ _).symm.trans H; with_reducible exact H2_) | with_reducible exact H | (rw [hy466]; exact H) | exact H
                  have Ny466 := ak hy466
                  clear hy466
                  obtain ⟨y469, hy469⟩ : ∃ y_ : List Int, y_ = (([] : List Int)) := ⟨_, rfl⟩
                  replace H : ((some (x6_1.take (x8_2 : Int).toNat : List Int)).bind fun y472 => (if y469.length + y472.length < 17592186044416 then ((some (y469 ++ y472 : List Int)).bind fun y476 => (if y476.length + y466.length < 17592186044416 then (mummerref08_Order.l0 k2 l0 (y476 ++ y466) (wrap64 (x7_1 + 1))) else (none))) else (none))) = some (r1, r2) := by first | (rw [hy469]; with_reducible exact H) | (have H2_ := (Option.bind_some _ _).symm.trans H; rw [hy469]; with_reducible exact H2_) | (have H2_ := (Option.bind_some _ _).symm.trans H; with_reducible exact H2_) | with_reducible exact H | (rw [hy469]; exact H) | exact H
                  have Ny469 := ak hy469
                  clear hy469
                  have c22b0 := eq_true (of_decide_eq_true (by first | (with_reducible assumption) | assumption) : 0 ≤ x8_2)
                  have c23b0 := eq_true (of_decide_eq_true (by first | (with_reducible assumption) | assumption) : x8_2 ≤ (x6_1.length : Int))
                  obtain ⟨y472, hy472⟩ : ∃ y_ : List Int, y_ = (x6_1.take (x8_2 : Int).toNat) := ⟨_, rfl⟩
                  replace H : (if y469.length + y472.length < 17592186044416 then ((some (y469 ++ y472 : List Int)).bind fun y476 => (if y476.length + y466.length < 17592186044416 then (mummerref08_Order.l0 k2 l0 (y476 ++ y466) (wrap64 (x7_1 + 1))) else (none))) else (none)) = some (r1, r2) := by first | (rw [hy472]; with_reducible exact H) | (have H2_ := (Option.bind_some _ _).symm.trans H; rw [hy472]; with_reducible exact H2_) | (have H2_ := (Option.bind_some _ _).symm.trans H; with_reducible exact H2_) | with_reducible exact H | (rw [hy472]; exact H) | exact H
                  have Ny472 := ak hy472
                  clear hy472
                  by_cases c24 : y469.length + y472.length < 17592186044416
                  ·rw [if_pos c24] at H
                   have LMc24 := ak c24
                   clear c24
                   obtain ⟨y476, hy476⟩ : ∃ y_ : List Int, y_ = (y469 ++ y472) := ⟨_, rfl⟩
                   replace H : (if y476.length + y466.length < 17592186044416 then (mummerref08_Order.l0 k2 l0 (y476 ++ y466) (wrap64 (x7_1 + 1))) else (none)) = some (r1, r2) := by first | (rw [hy476]; with_reducible exact H) | (have H2_ := (Option.bind_some _ _).symm.trans H; rw [hy476]; with_reducible exact H2_) | (have H2_ := (Option.bind_some _ _).symm.trans H; with_reducible exact H2_) | with_reducible exact H | (rw [hy476]; exact H) | exact H
                   have Ny476 := ak hy476
                   clear hy476
                   by_cases c25 : y476.length + y466.length < 17592186044416
                   ·rw [if_pos c25] at H
                    have LMc25 := ak c25
                    clear c25
                    obtain ⟨y479, hy479⟩ : ∃ y_ : List Int, y_ = (y476 ++ y466) := ⟨_, rfl⟩
                    replace H : (mummerref08_Order.l0 k2 l0 y479 (wrap64 (x7_1 + 1))) = some (r1, r2) := by first | (rw [hy479]; with_reducible exact H) | (have H2_ := (Option.bind_some _ _).symm.trans H; rw [hy479]; with_reducible exact H2_) | (have H2_ := (Option.bind_some _ _).symm.trans H; with_reducible exact H2_) | with_reducible exact H | (rw [hy479]; exact H) | exact H
                    have Ny479 := ak hy479
                    clear hy479
                    have H' := ak H
                    clear H
                    try go_wp2
                    have n0_ := ak (Kd.R_drew HO_6.out)
                    have n1_ := ak (wD HB.out)
                    clear HO_6 HB
                    have HO_6 := n0_
                    have HB := n1_
                    clear n0_ n1_
                    have p455 : 0 ≤ (x7_1 : Int) := of_decide_eq_true (by first | (with_reducible assumption) | assumption)
                    have q455 : x7_1 < (l0.length : Int) := of_decide_eq_true (by first | (with_reducible assumption) | assumption)
                    obtain ⟨ad455, e455, hx455_0, hx455_1, hx455_2, hx455_3, hx455_4, hx455_5⟩ := at_T41 HR0.out x7_1 p455 q455
                    have hw455_5 := hx455_5
                    have hw455_4 := hx455_4
                    have hw455_3 := hx455_3
                    have hw455_2 := hx455_2
                    have hw455_1 := hx455_1
                    have hw455_0 := hx455_0
                    cases e455
                    replace hx455_0 := (HB.out.cell (World.block_lt_of_cell? w _ hx455_0)).trans hx455_0
                    replace hx455_1 := (HB.out.cell (World.block_lt_of_cell? w _ hx455_1)).trans hx455_1
                    replace hx455_2 := (HB.out.cell (World.block_lt_of_cell? w _ hx455_2)).trans hx455_2
                    replace hx455_3 := (HB.out.cell (World.block_lt_of_cell? w _ hx455_3)).trans hx455_3
                    replace hx455_4 := (HB.out.cell (World.block_lt_of_cell? w _ hx455_4)).trans hx455_4
                    replace hx455_5 := (HB.out.cell (World.block_lt_of_cell? w _ hx455_5)).trans hx455_5
                    replace p455 := eq_true p455
                    replace q455 := eq_true q455
                    have p456 : 0 ≤ ((ji10) : Int) := of_decide_eq_true (by first | (with_reducible assumption) | assumption)
                    have q456 : (ji10) < (x6_1.length : Int) := of_decide_eq_true (by first | (with_reducible assumption) | assumption)
                    obtain ⟨ad456, e456, hx456_0⟩ := Kd.at_int (Kd.R_reads' HO_6.out).2.2 (ji10) p456 q456
                    cases e456
                    replace p456 := eq_true p456
                    replace q456 := eq_true q456
                    have p457 : 0 ≤ ((rd x6_1 (ji10)) : Int) := of_decide_eq_true (by first | (with_reducible assumption) | assumption)
                    have q457 : (rd x6_1 (ji10)) < (l0.length : Int) := of_decide_eq_true (by first | (with_reducible assumption) | assumption)
                    obtain ⟨ad457, e457, hx457_0, hx457_1, hx457_2, hx457_3, hx457_4, hx457_5⟩ := at_T41 HR0.out (rd x6_1 (ji10)) p457 q457
                    have hw457_5 := hx457_5
                    have hw457_4 := hx457_4
                    have hw457_3 := hx457_3
                    have hw457_2 := hx457_2
                    have hw457_1 := hx457_1
                    have hw457_0 := hx457_0
                    obtain rfl : ad455 = ad457 := (by injection e457)
                    replace hx457_0 := (HB.out.cell (World.block_lt_of_cell? w _ hx457_0)).trans hx457_0
                    replace hx457_1 := (HB.out.cell (World.block_lt_of_cell? w _ hx457_1)).trans hx457_1
                    replace hx457_2 := (HB.out.cell (World.block_lt_of_cell? w _ hx457_2)).trans hx457_2
                    replace hx457_3 := (HB.out.cell (World.block_lt_of_cell? w _ hx457_3)).trans hx457_3
                    replace hx457_4 := (HB.out.cell (World.block_lt_of_cell? w _ hx457_4)).trans hx457_4
                    replace hx457_5 := (HB.out.cell (World.block_lt_of_cell? w _ hx457_5)).trans hx457_5
                    replace p457 := eq_true p457
                    replace q457 := eq_true q457
                    refine start_ (n := 19) (S := fun w' => w'.cell? (ad455.add ((x7_1).toNat * 6)) = some (.int .i64 ((rd_T41 l0 x7_1).f0)) ∧ w'.cell? ⟨(ad455.add ((x7_1).toNat * 6)).block, (ad455.add ((x7_1).toNat * 6)).off + 1, none⟩ = some (.int .i64 ((rd_T41 l0 x7_1).f1)) ∧ w'.cell? ⟨(ad455.add ((x7_1).toNat * 6)).block, (ad455.add ((x7_1).toNat * 6)).off + 2, none⟩ = some (.int .i64 ((rd_T41 l0 x7_1).f2.f0)) ∧ w'.cell? ⟨(ad455.add ((x7_1).toNat * 6)).block, (ad455.add ((x7_1).toNat * 6)).off + 3, none⟩ = some (.int .i64 ((rd_T41 l0 x7_1).f2.f1)) ∧ w'.cell? ⟨(ad455.add ((x7_1).toNat * 6)).block, (ad455.add ((x7_1).toNat * 6)).off + 4, none⟩ = some (.string ((rd_T41 l0 x7_1).f3)) ∧ w'.cell? ⟨(ad455.add ((x7_1).toNat * 6)).block, (ad455.add ((x7_1).toNat * 6)).off + 5, none⟩ = some (.int .i64 ((rd_T41 l0 x7_1).f4)) ∧ w'.cell? (ad456.add ((ji10)).toNat) = some (.int .i64 (rd x6_1 (ji10))) ∧ w'.cell? (ad455.add (((rd x6_1 (ji10))).toNat * 6)) = some (.int .i64 ((rd_T41 l0 (rd x6_1 (ji10))).f0)) ∧ w'.cell? ⟨(ad455.add (((rd x6_1 (ji10))).toNat * 6)).block, (ad455.add (((rd x6_1 (ji10))).toNat * 6)).off + 1, none⟩ = some (.int .i64 ((rd_T41 l0 (rd x6_1 (ji10))).f1)) ∧ w'.cell? ⟨(ad455.add (((rd x6_1 (ji10))).toNat * 6)).block, (ad455.add (((rd x6_1 (ji10))).toNat * 6)).off + 2, none⟩ = some (.int .i64 ((rd_T41 l0 (rd x6_1 (ji10))).f2.f0)) ∧ w'.cell? ⟨(ad455.add (((rd x6_1 (ji10))).toNat * 6)).block, (ad455.add (((rd x6_1 (ji10))).toNat * 6)).off + 3, none⟩ = some (.int .i64 ((rd_T41 l0 (rd x6_1 (ji10))).f2.f1)) ∧ w'.cell? ⟨(ad455.add (((rd x6_1 (ji10))).toNat * 6)).block, (ad455.add (((rd x6_1 (ji10))).toNat * 6)).off + 4, none⟩ = some (.string ((rd_T41 l0 (rd x6_1 (ji10))).f3)) ∧ w'.cell? ⟨(ad455.add (((rd x6_1 (ji10))).toNat * 6)).block, (ad455.add (((rd x6_1 (ji10))).toNat * 6)).off + 5, none⟩ = some (.int .i64 ((rd_T41 l0 (rd x6_1 (ji10))).f4))) (ds := []) #[false, false, false, false, false, false, false, false, false, false, false, false, false, false, false, false, false, false, false] (by kernel_rfl) rfl rfl ⟨((HB.out.cell (World.block_lt_of_cell? w _ hw455_0)).trans hw455_0), ((HB.out.cell (World.block_lt_of_cell? w _ hw455_1)).trans hw455_1), ((HB.out.cell (World.block_lt_of_cell? w _ hw455_2)).trans hw455_2), ((HB.out.cell (World.block_lt_of_cell? w _ hw455_3)).trans hw455_3), ((HB.out.cell (World.block_lt_of_cell? w _ hw455_4)).trans hw455_4), ((HB.out.cell (World.block_lt_of_cell? w _ hw455_5)).trans hw455_5), hx456_0, ((HB.out.cell (World.block_lt_of_cell? w _ hw457_0)).trans hw457_0), ((HB.out.cell (World.block_lt_of_cell? w _ hw457_1)).trans hw457_1), ((HB.out.cell (World.block_lt_of_cell? w _ hw457_2)).trans hw457_2), ((HB.out.cell (World.block_lt_of_cell? w _ hw457_3)).trans hw457_3), ((HB.out.cell (World.block_lt_of_cell? w _ hw457_4)).trans hw457_4), ((HB.out.cell (World.block_lt_of_cell? w _ hw457_5)).trans hw457_5)⟩ (fun hHeld => ?_); refine with_tabW mummerref08_Order.tab9 mummerref08_Order.bits9 (fun HT_ HW_ => ?_)
                    generalize wr.drew = w26 at HO_6 HB hx455_0 hx455_1 hx455_2 hx455_3 hx455_4 hx455_5 hx456_0 hx457_0 hx457_1 hx457_2 hx457_3 hx457_4 hx457_5 hHeld ⊢
                    refine pure_ (i := 0) (N := some 26) (v := ?_) (a' := ?_) #[true, false, false, false, false, false, false, false, false, false, false, false, false, false, false, false, false, false, false] rfl rfl (any_of HT_.out (by kernel_rfl)) (fun _ _ _ h => h) (Or.inl ⟨by rfl, ?_⟩) ?_ ?_
                    rotate_left
                    ·intro w'
                     go_simp
                     with_reducible rfl
                    rotate_left
                    ·simp only [Act.put, List.setIfInBounds_toArray, List.set_cons_zero, List.set_cons_succ, i64_w, i32_w]
                     rfl
                    refine pure_ (i := 1) (N := some 27) (v := ?_) (a' := ?_) #[true, true, false, false, false, false, false, false, false, false, false, false, false, false, false, false, false, false, false] rfl rfl (any_of HT_.out (by kernel_rfl)) (fun _ _ _ h => h) (Or.inl ⟨by rfl, ?_⟩) ?_ ?_
                    rotate_left
                    ·intro w'
                     go_simp
                     with_reducible rfl
                    rotate_left
                    ·simp only [Act.put, List.setIfInBounds_toArray, List.set_cons_zero, List.set_cons_succ, i64_w, i32_w]
                     rfl
                    refine pure_ (i := 2) (N := some 28) (v := ?_) (a' := ?_) #[true, true, true, false, false, false, false, false, false, false, false, false, false, false, false, false, false, false, false] rfl rfl (any_of HT_.out (by kernel_rfl)) (fun _ _ _ h => h) (Or.inl ⟨by rfl, ?_⟩) ?_ ?_
                    rotate_left
                    ·intro w'
                     go_simp
                     with_reducible rfl
                    rotate_left
                    ·simp only [Act.put, List.setIfInBounds_toArray, List.set_cons_zero, List.set_cons_succ, i64_w, i32_w]
                     rfl
                    refine pure_ (i := 3) (N := some 29) (v := ?_) (a' := ?_) #[true, true, true, true, false, false, false, false, false, false, false, false, false, false, false, false, false, false, false] rfl rfl (any_of HT_.out (by kernel_rfl)) (fun _ _ _ h => h) (Or.inl ⟨by rfl, ?_⟩) ?_ ?_
                    rotate_left
                    ·intro w'
                     go_simp
                     with_reducible rfl
                    rotate_left
                    ·simp only [Act.put, List.setIfInBounds_toArray, List.set_cons_zero, List.set_cons_succ, i64_w, i32_w]
                     rfl
                    refine pure_ (i := 4) (N := some 30) (v := ?_) (a' := ?_) #[true, true, true, true, true, false, false, false, false, false, false, false, false, false, false, false, false, false, false] rfl rfl (any_of HT_.out (by kernel_rfl)) (fun _ _ _ h => h) (Or.inl ⟨by rfl, ?_⟩) ?_ ?_
                    rotate_left
                    ·intro w'
                     go_simp
                     with_reducible rfl
                    rotate_left
                    ·simp only [Act.put, List.setIfInBounds_toArray, List.set_cons_zero, List.set_cons_succ, i64_w, i32_w]
                     rfl
                    refine pure_ (i := 5) (N := some 31) (v := ?_) (a' := ?_) #[true, true, true, true, true, true, false, false, false, false, false, false, false, false, false, false, false, false, false] rfl rfl (any_of HT_.out (by kernel_rfl)) (fun _ _ _ h => h) (Or.inl ⟨by rfl, ?_⟩) ?_ ?_
                    rotate_left
                    ·intro w'
                     go_simp
                     with_reducible rfl
                    rotate_left
                    ·simp only [Act.put, List.setIfInBounds_toArray, List.set_cons_zero, List.set_cons_succ, i64_w, i32_w]
                     rfl
                    refine pure_ (i := 6) (N := some 32) (v := ?_) (a' := ?_) #[true, true, true, true, true, true, true, false, false, false, false, false, false, false, false, false, false, false, false] rfl rfl (any_of HT_.out (by kernel_rfl)) (fun _ _ _ h => h) (Or.inl ⟨by rfl, ?_⟩) ?_ ?_
                    rotate_left
                    ·intro w'
                     go_simp
                     with_reducible rfl
                    rotate_left
                    ·simp only [Act.put, List.setIfInBounds_toArray, List.set_cons_zero, List.set_cons_succ, i64_w, i32_w]
                     rfl
                    refine pure_ (i := 8) (N := some 34) (v := ?_) (a' := ?_) #[true, true, true, true, true, true, true, false, true, false, false, false, false, false, false, false, false, false, false] rfl rfl (any_of HT_.out (by kernel_rfl)) (fun _ _ _ h => h) (Or.inl ⟨by rfl, ?_⟩) ?_ ?_
                    rotate_left
                    ·intro w'
                     go_simp
                     with_reducible rfl
                    rotate_left
                    ·simp only [Act.put, List.setIfInBounds_toArray, List.set_cons_zero, List.set_cons_succ, i64_w, i32_w]
                     rfl
                    refine pure_ (i := 9) (N := some 35) (v := ?_) (a' := ?_) #[true, true, true, true, true, true, true, false, true, true, false, false, false, false, false, false, false, false, false] rfl rfl (any_of HT_.out (by kernel_rfl)) (fun _ _ _ h => h) (Or.inl ⟨by rfl, ?_⟩) ?_ ?_
                    rotate_left
                    ·intro w'
                     go_simp
                     with_reducible rfl
                    rotate_left
                    ·simp only [Act.put, List.setIfInBounds_toArray, List.set_cons_zero, List.set_cons_succ, i64_w, i32_w]
                     rfl
                    refine pure_ (i := 10) (N := some 36) (v := ?_) (a' := ?_) #[true, true, true, true, true, true, true, false, true, true, true, false, false, false, false, false, false, false, false] rfl rfl (any_of HT_.out (by kernel_rfl)) (fun _ _ _ h => h) (Or.inl ⟨by rfl, ?_⟩) ?_ ?_
                    rotate_left
                    ·intro w'
                     go_simp
                     with_reducible rfl
                    rotate_left
                    ·simp only [Act.put, List.setIfInBounds_toArray, List.set_cons_zero, List.set_cons_succ, i64_w, i32_w]
                     rfl
                    refine pure_ (i := 11) (N := some 37) (v := ?_) (a' := ?_) #[true, true, true, true, true, true, true, false, true, true, true, true, false, false, false, false, false, false, false] rfl rfl (any_of HT_.out (by kernel_rfl)) (fun _ _ _ h => h) (Or.inl ⟨by rfl, ?_⟩) ?_ ?_
                    rotate_left
                    ·intro w'
                     go_simp
                     with_reducible rfl
                    rotate_left
                    ·simp only [Act.put, List.setIfInBounds_toArray, List.set_cons_zero, List.set_cons_succ, i64_w, i32_w]
                     rfl
                    refine pure_ (i := 12) (N := some 38) (v := ?_) (a' := ?_) #[true, true, true, true, true, true, true, false, true, true, true, true, true, false, false, false, false, false, false] rfl rfl (any_of HT_.out (by kernel_rfl)) (fun _ _ _ h => h) (Or.inl ⟨by rfl, ?_⟩) ?_ ?_
                    rotate_left
                    ·intro w'
                     go_simp
                     with_reducible rfl
                    rotate_left
                    ·simp only [Act.put, List.setIfInBounds_toArray, List.set_cons_zero, List.set_cons_succ, i64_w, i32_w]
                     rfl
                    refine take_ (i := 7) (N := some 33) (v := ?_) (a' := ?_) #[true, true, true, true, true, true, true, true, true, true, true, true, true, false, false, false, false, false, false] rfl rfl (take_ofW HT_.out HW_.out (by kernel_rfl)) (fun _ _ _ h => h) (Or.inl ⟨by rfl, ?_⟩) hHeld ?_ ?_
                    rotate_left
                    ·rintro w' ⟨s0, s1, s2, s3, s4, s5, s6, s7, s8, s9, s10, s11, s12⟩
                     go_simp
                     with_reducible rfl
                    rotate_left
                    ·simp only [Act.put, List.setIfInBounds_toArray, List.set_cons_zero, List.set_cons_succ, i64_w, i32_w]
                     rfl
                    refine take_ (i := 13) (N := some 39) (v := ?_) (a' := ?_) #[true, true, true, true, true, true, true, true, true, true, true, true, true, true, false, false, false, false, false] rfl rfl (take_ofW HT_.out HW_.out (by kernel_rfl)) (fun _ _ _ h => h) (Or.inl ⟨by rfl, ?_⟩) hHeld ?_ ?_
                    rotate_left
                    ·rintro w' ⟨s0, s1, s2, s3, s4, s5, s6, s7, s8, s9, s10, s11, s12⟩
                     go_simp
                     with_reducible rfl
                    rotate_left
                    ·simp only [Act.put, List.setIfInBounds_toArray, List.set_cons_zero, List.set_cons_succ, i64_w, i32_w]
                     rfl
                    refine pure_ (i := 14) (N := some 40) (v := ?_) (a' := ?_) #[true, true, true, true, true, true, true, true, true, true, true, true, true, true, true, false, false, false, false] rfl rfl (any_of HT_.out (by kernel_rfl)) (fun _ _ _ h => h) (Or.inl ⟨by rfl, ?_⟩) ?_ ?_
                    rotate_left
                    ·intro w'
                     go_simp
                     with_reducible rfl
                    rotate_left
                    ·simp only [Act.put, List.setIfInBounds_toArray, List.set_cons_zero, List.set_cons_succ, i64_w, i32_w]
                     rfl
                    refine pure_ (i := 15) (N := some 41) (v := ?_) (a' := ?_) #[true, true, true, true, true, true, true, true, true, true, true, true, true, true, true, true, false, false, false] rfl rfl (any_of HT_.out (by kernel_rfl)) (fun _ _ _ h => h) (Or.inl ⟨by rfl, ?_⟩) ?_ ?_
                    rotate_left
                    ·intro w'
                     go_simp
                     with_reducible rfl
                    rotate_left
                    ·simp only [Act.put, List.setIfInBounds_toArray, List.set_cons_zero, List.set_cons_succ, i64_w, i32_w]
                     rfl
                    refine take_ (i := 16) (N := some 42) (v := ?_) (a' := ?_) #[true, true, true, true, true, true, true, true, true, true, true, true, true, true, true, true, true, false, false] rfl rfl (take_ofW HT_.out HW_.out (by kernel_rfl)) (fun _ _ _ h => h) (Or.inl ⟨by rfl, ?_⟩) hHeld ?_ ?_
                    rotate_left
                    ·rintro w' ⟨s0, s1, s2, s3, s4, s5, s6, s7, s8, s9, s10, s11, s12⟩
                     go_simp
                     with_reducible rfl
                    rotate_left
                    ·simp only [Act.put, List.setIfInBounds_toArray, List.set_cons_zero, List.set_cons_succ, i64_w, i32_w]
                     rfl
                    refine one_ (i := 17) (N := some 43) #[true, true, true, true, true, true, true, true, true, true, true, true, true, true, true, true, true, true, false] rfl rfl (one_of HT_.out (by kernel_rfl)) (by decide) (fun K hK => ?_)
                    refine goes_ Tryz.func72 (by kernel_rfl) rfl #[.agg #[.int .i64 ((rd_T41 l0 x7_1).f2.f0), .int .i64 ((rd_T41 l0 x7_1).f2.f1)], .agg #[.int .i64 ((rd_T41 l0 (rd x6_1 (ji10))).f2.f0), .int .i64 ((rd_T41 l0 (rd x6_1 (ji10))).f2.f1)]] (by rfl) rfl rfl (by (try simp only [List.map_toArray, List.map_cons, List.map_nil]); first | done | (simp only [hji10]; rfl) | rfl | (simp only [List.length_drop, List.length_take]; rfl)) ?_
                    with_reducible refine (mummerref08_before.calls ((rd_T41 l0 x7_1).f2.f0) ((rd_T41 l0 x7_1).f2.f1) ((rd_T41 l0 (rd x6_1 (ji10))).f2.f0) ((rd_T41 l0 (rd x6_1 (ji10))).f2.f1) false _ A15.out).mono ?_
                    rintro e w27 ⟨rfl, hb⟩
                    have HS6_ := (hb.cell (World.block_lt_of_cell? _ _ (hHeld.2.2.2.2.2.2.1))).trans (hHeld.2.2.2.2.2.2.1)
                    refine ⟨_, rfl, ?_⟩
                    have n0_ := ak (Kd.R_below (by (with_reducible repeat (first | apply Kd.R_alloc | apply Kd.R_drewN | apply Kd.R_drew)); exact HO_6.out) hb)
                    have n1_ := ak (below_step (by repeat (first | (with_reducible first | exact HB.out | apply wA | apply wN | apply wD) | exact HB.out)) hb)
                    clear HO_6 HB
                    have HO_6 := n0_
                    have HB := n1_
                    clear n0_ n1_
                    (try clear hb)
                    (try clear hb2)
                    (try clear hk)
                    (try clear hi)
                    refine hK.out _ _ ⟨((HB.out.cell (World.block_lt_of_cell? w _ hw455_0)).trans hw455_0), ((HB.out.cell (World.block_lt_of_cell? w _ hw455_1)).trans hw455_1), ((HB.out.cell (World.block_lt_of_cell? w _ hw455_2)).trans hw455_2), ((HB.out.cell (World.block_lt_of_cell? w _ hw455_3)).trans hw455_3), ((HB.out.cell (World.block_lt_of_cell? w _ hw455_4)).trans hw455_4), ((HB.out.cell (World.block_lt_of_cell? w _ hw455_5)).trans hw455_5), HS6_, ((HB.out.cell (World.block_lt_of_cell? w _ hw457_0)).trans hw457_0), ((HB.out.cell (World.block_lt_of_cell? w _ hw457_1)).trans hw457_1), ((HB.out.cell (World.block_lt_of_cell? w _ hw457_2)).trans hw457_2), ((HB.out.cell (World.block_lt_of_cell? w _ hw457_3)).trans hw457_3), ((HB.out.cell (World.block_lt_of_cell? w _ hw457_4)).trans hw457_4), ((HB.out.cell (World.block_lt_of_cell? w _ hw457_5)).trans hw457_5)⟩ (fun hHeld => ?_)
                    clear hK K
                    refine norm_ (a' := ?_) ?_ ?_
                    rotate_left
                    ·show Act.put _ (some 43) _ = _
                     simp only [Act.put, List.setIfInBounds_toArray, List.set_cons_zero, List.set_cons_succ, i64_w, i32_w]
                     rfl
                    refine pure_ (i := 18) (N := some 44) (v := ?_) (a' := ?_) #[true, true, true, true, true, true, true, true, true, true, true, true, true, true, true, true, true, true, true] rfl rfl (any_of HT_.out (by kernel_rfl)) (fun _ _ _ h => h) (Or.inl ⟨by rfl, ?_⟩) ?_ ?_
                    rotate_left
                    ·intro w'
                     go_simp
                     with_reducible rfl
                    rotate_left
                    ·simp only [Act.put, List.setIfInBounds_toArray, List.set_cons_zero, List.set_cons_succ, i64_w, i32_w]
                     rfl
                    refine done_ (done_of HT_.out (by kernel_rfl)) ?_
                    try go_wp2_with (first | ((with_reducible refine gate_dst (N := 48) rfl ?_); refine Kd.R_lit (Kd.int .i64) _ 3 ?hg (N := 48) ?hd (xs := ([x7_1] : List Int)) (inner := [.int .i64 x7_1]) (ok := fun _ => True) (okp := fun _ => True) ?hr ?hp (fun _ hk => hk) trivial (Below.refl _ _) (Nat.le_refl _) (by simp) ?_; (case hd => rfl); (case hg => rfl); (case hr => first | (go_simp; done) | (go_simp; rfl)); (case hp => exact (Reps.one (show Kd.M (Kd.int .i64) _ _ _ x7_1 [.int .i64 x7_1] from rfl) (Reps.none _ _))); intro v460 w28 ho29 hb hg_ hnew_; clear hg_ hnew_; (first | rw [← Ny459.out] at ho29 | (simp only [Int.reduceToNat] at ho29; rw [← Ny459.out] at ho29)); have n0_ := ak (Kd.R_elder' (by (with_reducible repeat (first | apply Kd.R_alloc | apply Kd.R_drewN | apply Kd.R_drew)); exact HO_6.out) (Kd.R_base ho29) hb); have n1_ := ak (Kd.R_lower (Kd.R_new' ho29 (Kd.R_lt (by (with_reducible repeat (first | apply Kd.R_alloc | apply Kd.R_drewN | apply Kd.R_drew)); exact HO_6.out))) (below_size (by repeat (first | (with_reducible first | exact HB.out | apply wA | apply wN | apply wD) | exact HB.out)))); have n2_ := ak (below_step (by repeat (first | (with_reducible first | exact HB.out | apply wA | apply wN | apply wD) | exact HB.out)) hb); clear HO_6; clear HB; have HO_6 := n0_; have HO461 := n1_; have HB := n2_; clear n0_ n1_ n2_; clear hb ho29; have q30 : (x8_2 : Int) ≤ ((x6_1.length : Int) : Int) := of_decide_eq_true (by first | (with_reducible assumption) | assumption); obtain ⟨i030, hi030, _, hsz30, _⟩ := info_parts info3; have hroom30 : x6_1.length ≤ co6 := (Kd.R_reads' HO_6.out).2.1; have hC30 : Kd.C (Kd.int .i64) _ (some ad456) x6_1.length x6_1 := (Kd.R_reads' HO_6.out).2.2; have q030 : (0 : Int) ≤ (x8_2 : Int) := of_decide_eq_true (by first | (with_reducible assumption) | assumption); have hcut30 := cut_from (P := Tryz.prog) 43 3 .i64 Tryz.underlying43 hi030 1 hsz30 (some ad456) x6_1.length co6 x8_2 q030 q30; have hr30 := Kd.C_drop (m := (x8_2 : Int).toNat) (c := co6) hC30 (by omega) hroom30; obtain ⟨A30, hA30⟩ : ∃ A1, A1 = (if co6 = (x8_2 : Int).toNat then (some ad456) else ((some ad456) : Option Addr).map (·.add ((x8_2 : Int).toNat * 1))) := ⟨_, rfl⟩; obtain ⟨c30, hc30⟩ : ∃ c1, c1 = co6 - (x8_2 : Int).toNat := ⟨_, rfl⟩; have hy30 : y462.length = x6_1.length - (x8_2 : Int).toNat := (by rw [Ny462.out, List.length_drop] <;> omega); rw [show (x6_1).drop (x8_2 : Int).toNat = y462 from Ny462.out.symm] at hr30; replace hr30 : Kd.C (Kd.int .i64) _ A30 y462.length y462 := (by rw [hA30]; exact hr30); rw [← hy30, ← hA30, ← hc30] at hcut30; have HR465 := ak hr30; have HC465 := ak (show y462.length ≤ c30 from by rw [hy30, hc30]; exact Nat.sub_le_sub_right hroom30 _); clear hr30 hC30 hroom30 hi030 hsz30 hc30; have KY30 := ak hy30; have KA30 := ak hA30; clear hy30 hA30; have KL30 := ak (show (x8_2 : Int).toNat ≤ x6_1.length from by omega); replace q30 := eq_true q30) | ((with_reducible refine gate_builtin (b := .append) (xs := #[.tmp 48, .tmp 51]) rfl ?_); at_builtin; refine Kd.R_append_rows (Kd.int .i64) (w0 := w) w.heap.size rfl (.tmp 48) (.tmp 51) 43 3 (.int .i64 0) 8 rfl Tryz.underlying43 info3 rfl (by decide) (by omega) v460 y459 y462 _ _ _ (fun k_ => some k_ ≠ (.slice (some ad456) x6_1.length co6 : Value).ownBlock) (fun _ => False) rfl rfl ?aO ?aR (fun _ _ h => h) (fun _ h => h.elim) ?aF ?aB ?aS ?aL ?_; (case aR => repeat (first | exact (by repeat (first | (with_reducible exact HR465.out) | (with_reducible refine Kd.C_alloc ?_ _) | (with_reducible refine Kd.C_drewN ?_ _) | (with_reducible refine Kd.C_drew ?_) | exact HR465.out)) | (with_reducible refine Kd.C_alloc ?_ _) | (with_reducible refine Kd.C_drewN ?_ _) | (with_reducible refine Kd.C_drew ?_))); (case aB => exact (by repeat (first | (with_reducible first | exact HB.out | apply wA | apply wN | apply wD) | exact HB.out))); (case aF => exact (fun k_ hk => Kd.fresh' (Kd.R_lt (by (with_reducible repeat (first | apply Kd.R_alloc | apply Kd.R_drewN | apply Kd.R_drew)); exact HO_6.out)) k_ hk)); (case aO => exact (by (with_reducible repeat (first | apply Kd.R_alloc | apply Kd.R_drewN | apply Kd.R_drew)); exact Kd.R_mono HO461.out (fun _ hk => hk.2))); (case aS => exact (below_size (by repeat (first | (with_reducible first | exact HB.out | apply wA | apply wN | apply wD) | exact HB.out)))); (case aL => have := LMc21.out; omega); intro v467 w31 ho hb hg hat; rw [← Ny466.out] at ho; have n0_ := ak (Kd.R_after (ok := (fun _ => True)) (by (with_reducible repeat (first | apply Kd.R_alloc | apply Kd.R_drewN | apply Kd.R_drew)); exact HO_6.out) hg hat); have n1_ := ak (hb); have n2_ := ak ((show Kd.C (Kd.int .i64) w31 A30 y462.length y462 from by rw [Ny462.out, KA30.out]; exact Kd.C_drop (m := (x8_2 : Int).toNat) (c := co6) ((Kd.R_reads' (Kd.R_after (ok := (fun _ => True)) (by (with_reducible repeat (first | apply Kd.R_alloc | apply Kd.R_drewN | apply Kd.R_drew)); exact HO_6.out) hg hat)).2.2) KL30.out ((Kd.R_reads' (Kd.R_after (ok := (fun _ => True)) (by (with_reducible repeat (first | apply Kd.R_alloc | apply Kd.R_drewN | apply Kd.R_drew)); exact HO_6.out) hg hat)).2.1))); have n3_ := ak (ho); clear HO_6; clear HB; clear HR465; clear HO461; have HO_6 := n0_; have HB := n1_; have HR465 := n2_; have HO468 := n3_; clear n0_ n1_ n2_ n3_; clear ho hb hg hat) | ((with_reducible refine gate_dst (N := 53) rfl ?_); refine Kd.R_lit (Kd.int .i64) _ 3 ?hg (N := 53) ?hd (xs := ([] : List Int)) (inner := []) (ok := fun _ => True) (okp := fun _ => True) ?hr ?hp (fun _ hk => hk) trivial (Below.refl _ _) (Nat.le_refl _) (by simp) ?_; (case hd => rfl); (case hg => rfl); (case hr => first | (go_simp; done) | (go_simp; rfl)); (case hp => exact (Reps.none _ _)); intro v470 w32 ho33 hb hg_ hnew_; clear hg_ hnew_; (first | rw [← Ny469.out] at ho33 | (simp only [Int.reduceToNat] at ho33; rw [← Ny469.out] at ho33)); have n0_ := ak (Kd.R_elder' (by (with_reducible repeat (first | apply Kd.R_alloc | apply Kd.R_drewN | apply Kd.R_drew)); exact HO_6.out) (Kd.R_base ho33) hb); have n1_ := ak (Kd.R_elder' (by (with_reducible repeat (first | apply Kd.R_alloc | apply Kd.R_drewN | apply Kd.R_drew)); exact HO468.out) (Kd.R_base ho33) hb); have n2_ := ak (Kd.R_lower (Kd.R_new' (Kd.R_new' ho33 (Kd.R_lt (by (with_reducible repeat (first | apply Kd.R_alloc | apply Kd.R_drewN | apply Kd.R_drew)); exact HO_6.out))) (Kd.R_lt (by (with_reducible repeat (first | apply Kd.R_alloc | apply Kd.R_drewN | apply Kd.R_drew)); exact HO468.out))) (below_size (by repeat (first | (with_reducible first | exact HB.out | apply wA | apply wN | apply wD) | exact HB.out)))); have n3_ := ak (Kd.C_below (by repeat (first | (with_reducible exact HR465.out) | (with_reducible refine Kd.C_alloc ?_ _) | (with_reducible refine Kd.C_drewN ?_ _) | (with_reducible refine Kd.C_drew ?_) | exact HR465.out)) hb); have n4_ := ak (below_step (by repeat (first | (with_reducible first | exact HB.out | apply wA | apply wN | apply wD) | exact HB.out)) hb); clear HO_6; clear HO468; clear HR465; clear HB; have HO_6 := n0_; have HO468 := n1_; have HO471 := n2_; have HR465 := n3_; have HB := n4_; clear n0_ n1_ n2_ n3_ n4_; clear hb ho33; have q34 : (x8_2 : Int) ≤ ((x6_1.length : Int) : Int) := of_decide_eq_true (by first | (with_reducible assumption) | assumption); obtain ⟨i034, hi034, _, hsz34, _⟩ := info_parts info3; have hroom34 : x6_1.length ≤ co6 := (Kd.R_reads' HO_6.out).2.1; have hC34 : Kd.C (Kd.int .i64) _ (some ad456) x6_1.length x6_1 := (Kd.R_reads' HO_6.out).2.2; have hcut34 := cut_to (P := Tryz.prog) 43 3 .i64 Tryz.underlying43 hi034 (some ad456) x6_1.length co6 x8_2 (of_decide_eq_true (by first | (with_reducible assumption) | assumption)) q34 hroom34; have hr34 := Kd.C_take (m := (x8_2 : Int).toNat) hC34 (by omega); have hy34 : y472.length = (x8_2 : Int).toNat := (by rw [Ny472.out, List.length_take]; omega); rw [← Ny472.out] at hr34; rw [← hy34] at hcut34; have HR475 := ak hr34; have HC475 := ak (show y472.length ≤ co6 from by omega); clear hr34 hC34 hroom34 hi034 hsz34; have KY34 := ak hy34; clear hy34; have KL34 := ak (show (x8_2 : Int).toNat ≤ x6_1.length from by omega); replace q34 := eq_true q34) | ((with_reducible refine gate_builtin (b := .append) (xs := #[.tmp 53, .tmp 56]) rfl ?_); at_builtin; refine Kd.R_append_rows (Kd.int .i64) (w0 := w) w.heap.size rfl (.tmp 53) (.tmp 56) 43 3 (.int .i64 0) 8 rfl Tryz.underlying43 info3 rfl (by decide) (by omega) v470 y469 y472 _ _ _ (fun k_ => some k_ ≠ (.slice (some ad456) x6_1.length co6 : Value).ownBlock ∧ some k_ ≠ (v467 : Value).ownBlock) (fun _ => False) rfl rfl ?aO ?aR (fun _ _ h => h) (fun _ h => h.elim) ?aF ?aB ?aS ?aL ?_; (case aR => repeat (first | exact (by repeat (first | (with_reducible exact HR475.out) | (with_reducible refine Kd.C_alloc ?_ _) | (with_reducible refine Kd.C_drewN ?_ _) | (with_reducible refine Kd.C_drew ?_) | exact HR475.out)) | (with_reducible refine Kd.C_alloc ?_ _) | (with_reducible refine Kd.C_drewN ?_ _) | (with_reducible refine Kd.C_drew ?_))); (case aB => exact (by repeat (first | (with_reducible first | exact HB.out | apply wA | apply wN | apply wD) | exact HB.out))); (case aF => exact (fun k_ hk => ⟨Kd.fresh' (Kd.R_lt (by (with_reducible repeat (first | apply Kd.R_alloc | apply Kd.R_drewN | apply Kd.R_drew)); exact HO_6.out)) k_ hk, Kd.fresh' (Kd.R_lt (by (with_reducible repeat (first | apply Kd.R_alloc | apply Kd.R_drewN | apply Kd.R_drew)); exact HO468.out)) k_ hk⟩)); (case aO => exact (by (with_reducible repeat (first | apply Kd.R_alloc | apply Kd.R_drewN | apply Kd.R_drew)); exact Kd.R_mono HO471.out (fun _ hk => by first | exact ⟨hk.1.2, hk.2⟩ | (simp only [ne_eq] at hk ⊢; simp [hk])))); (case aS => exact (below_size (by repeat (first | (with_reducible first | exact HB.out | apply wA | apply wN | apply wD) | exact HB.out)))); (case aL => have := LMc24.out; omega); intro v477 w35 ho hb hg hat; rw [← Ny476.out] at ho; have n0_ := ak (Kd.R_after (ok := (fun k_ => some k_ ≠ (v467 : Value).ownBlock)) (by (with_reducible repeat (first | apply Kd.R_alloc | apply Kd.R_drewN | apply Kd.R_drew)); exact Kd.R_mono HO_6.out (fun _ hk => by first | exact ⟨hk.1.2, hk.2⟩ | (simp only [ne_eq] at hk ⊢; simp [hk]))) hg hat); have n1_ := ak (Kd.R_after (ok := (fun k_ => some k_ ≠ (.slice (some ad456) x6_1.length co6 : Value).ownBlock)) (by (with_reducible repeat (first | apply Kd.R_alloc | apply Kd.R_drewN | apply Kd.R_drew)); exact HO468.out) hg hat); have n2_ := ak (hb); have n3_ := ak ((show Kd.C (Kd.int .i64) w35 A30 y462.length y462 from by rw [Ny462.out, KA30.out]; exact Kd.C_drop (m := (x8_2 : Int).toNat) (c := co6) ((Kd.R_reads' (Kd.R_after (ok := (fun k_ => some k_ ≠ (v467 : Value).ownBlock)) (by (with_reducible repeat (first | apply Kd.R_alloc | apply Kd.R_drewN | apply Kd.R_drew)); exact Kd.R_mono HO_6.out (fun _ hk => by first | exact ⟨hk.1.2, hk.2⟩ | (simp only [ne_eq] at hk ⊢; simp [hk]))) hg hat)).2.2) KL30.out ((Kd.R_reads' (Kd.R_after (ok := (fun k_ => some k_ ≠ (v467 : Value).ownBlock)) (by (with_reducible repeat (first | apply Kd.R_alloc | apply Kd.R_drewN | apply Kd.R_drew)); exact Kd.R_mono HO_6.out (fun _ hk => by first | exact ⟨hk.1.2, hk.2⟩ | (simp only [ne_eq] at hk ⊢; simp [hk]))) hg hat)).2.1))); have n4_ := ak ((show Kd.C (Kd.int .i64) w35 (some ad456) y472.length y472 from by rw [Ny472.out]; exact Kd.C_take (m := (x8_2 : Int).toNat) ((Kd.R_reads' (Kd.R_after (ok := (fun k_ => some k_ ≠ (v467 : Value).ownBlock)) (by (with_reducible repeat (first | apply Kd.R_alloc | apply Kd.R_drewN | apply Kd.R_drew)); exact Kd.R_mono HO_6.out (fun _ hk => by first | exact ⟨hk.1.2, hk.2⟩ | (simp only [ne_eq] at hk ⊢; simp [hk]))) hg hat)).2.2) KL34.out)); have n5_ := ak (ho); clear HO_6; clear HO468; clear HB; clear HR465; clear HR475; clear HO471; have HO_6 := n0_; have HO468 := n1_; have HB := n2_; have HR465 := n3_; have HR475 := n4_; have HO478 := n5_; clear n0_ n1_ n2_ n3_ n4_ n5_; clear ho hb hg hat; obtain ⟨Ao37, co37, eo37⟩ := Kd.R_slice HO468.out; subst eo37) | ((with_reducible refine gate_builtin (b := .append) (xs := #[.tmp 57, .tmp 58]) rfl ?_); at_builtin; refine Kd.R_append_rows (Kd.int .i64) (w0 := w) w.heap.size rfl (.tmp 57) (.tmp 58) 43 3 (.int .i64 0) 8 rfl Tryz.underlying43 info3 rfl (by decide) (by omega) v477 y476 y466 _ _ _ (fun k_ => some k_ ≠ (.slice (some ad456) x6_1.length co6 : Value).ownBlock ∧ some k_ ≠ (.slice Ao37 y466.length co37 : Value).ownBlock) (fun _ => False) rfl rfl ?aO ?aR (fun _ _ h => h) (fun _ h => h.elim) ?aF ?aB ?aS ?aL ?_; (case aR => repeat (first | exact (Kd.R_reads' HO468.out).2.2 | (with_reducible refine Kd.C_alloc ?_ _) | (with_reducible refine Kd.C_drewN ?_ _) | (with_reducible refine Kd.C_drew ?_))); (case aB => exact (by repeat (first | (with_reducible first | exact HB.out | apply wA | apply wN | apply wD) | exact HB.out))); (case aF => exact (fun k_ hk => ⟨Kd.fresh' (Kd.R_lt (by (with_reducible repeat (first | apply Kd.R_alloc | apply Kd.R_drewN | apply Kd.R_drew)); exact HO_6.out)) k_ hk, Kd.fresh' (Kd.R_lt (by (with_reducible repeat (first | apply Kd.R_alloc | apply Kd.R_drewN | apply Kd.R_drew)); exact HO468.out)) k_ hk⟩)); (case aO => exact (by (with_reducible repeat (first | apply Kd.R_alloc | apply Kd.R_drewN | apply Kd.R_drew)); exact HO478.out)); (case aS => exact (below_size (by repeat (first | (with_reducible first | exact HB.out | apply wA | apply wN | apply wD) | exact HB.out)))); (case aL => have := LMc25.out; omega); intro v480 w36 ho hb hg hat; rw [← Ny479.out] at ho; have n0_ := ak (Kd.R_after (ok := (fun k_ => some k_ ≠ (.slice Ao37 y466.length co37 : Value).ownBlock)) (by (with_reducible repeat (first | apply Kd.R_alloc | apply Kd.R_drewN | apply Kd.R_drew)); exact HO_6.out) hg hat); have n1_ := ak (Kd.R_after (ok := (fun k_ => some k_ ≠ (.slice (some ad456) x6_1.length co6 : Value).ownBlock)) (by (with_reducible repeat (first | apply Kd.R_alloc | apply Kd.R_drewN | apply Kd.R_drew)); exact HO468.out) hg hat); have n2_ := ak (hb); have n3_ := ak ((show Kd.C (Kd.int .i64) w36 A30 y462.length y462 from by rw [Ny462.out, KA30.out]; exact Kd.C_drop (m := (x8_2 : Int).toNat) (c := co6) ((Kd.R_reads' (Kd.R_after (ok := (fun k_ => some k_ ≠ (.slice Ao37 y466.length co37 : Value).ownBlock)) (by (with_reducible repeat (first | apply Kd.R_alloc | apply Kd.R_drewN | apply Kd.R_drew)); exact HO_6.out) hg hat)).2.2) KL30.out ((Kd.R_reads' (Kd.R_after (ok := (fun k_ => some k_ ≠ (.slice Ao37 y466.length co37 : Value).ownBlock)) (by (with_reducible repeat (first | apply Kd.R_alloc | apply Kd.R_drewN | apply Kd.R_drew)); exact HO_6.out) hg hat)).2.1))); have n4_ := ak ((show Kd.C (Kd.int .i64) w36 (some ad456) y472.length y472 from by rw [Ny472.out]; exact Kd.C_take (m := (x8_2 : Int).toNat) ((Kd.R_reads' (Kd.R_after (ok := (fun k_ => some k_ ≠ (.slice Ao37 y466.length co37 : Value).ownBlock)) (by (with_reducible repeat (first | apply Kd.R_alloc | apply Kd.R_drewN | apply Kd.R_drew)); exact HO_6.out) hg hat)).2.2) KL34.out)); have n5_ := ak (ho); clear HO_6; clear HO468; clear HB; clear HR465; clear HR475; clear HO478; have HO_6 := n0_; have HO468 := n1_; have HB := n2_; have HR465 := n3_; have HR475 := n4_; have HO481 := n5_; clear n0_ n1_ n2_ n3_ n4_ n5_; clear ho hb hg hat))
                    go_roundg k2
                    case measure => have := HK1.out; have := HK2.out; omega
                    case rel => exact ⟨(y479), (wrap64 (x7_1 + 1)), (by first | rfl | (simp; done) | (simp [*]; done)), H', ⟨by have := HK1.out; have := HK2.out; omega⟩, ⟨by (with_reducible repeat (first | apply Kd.R_alloc | apply Kd.R_drewN | apply Kd.R_drew)); exact Kd.R_mono HO481.out (fun _ hk => trivial)⟩, ⟨by repeat (first | (with_reducible first | exact HB.out | apply wA | apply wN | apply wD) | exact HB.out)⟩⟩
                   ·rw [if_neg c25] at H
                    exact absurd H (by simp)
                  ·rw [if_neg c24] at H
                   exact absurd H (by simp)
                 ·rw [if_neg c21] at H
                  exact absurd H (by simp)
                ·rw [if_neg c20] at H
                 exact absurd H (by simp)
               ·rw [if_neg c19] at H
                exact absurd H (by simp)
             ·rw [if_neg c14] at H
              exact absurd H (by simp)
            ·rw [if_neg c13] at H
             exact absurd H (by simp)
           ·rw [if_neg c12] at H
            exact absurd H (by simp)
          ·rw [if_neg c11] at H
           exact absurd H (by simp)
         ·rw [if_neg c9] at H
          exact absurd H (by simp)
        ·rw [if_neg c8] at H
         exact absurd H (by simp)
       ·rw [if_neg c7] at H
        have c7b0 : decide (0 < x8_2) = false := decide_eq_false c7
        clear c7
        obtain ⟨y482, hy482⟩ : ∃ y_ : List Int, y_ = (([x7_1] : List Int)) := ⟨_, rfl⟩
        replace H : (if 0 ≤ x8_2 then (if x8_2 ≤ (x6_1.length : Int) then ((some (x6_1.drop (x8_2 : Int).toNat : List Int)).bind fun y485 => (if y482.length + y485.length < 17592186044416 then ((some (y482 ++ y485 : List Int)).bind fun y489 => ((some (([] : List Int) : List Int)).bind fun y492 => ((some (x6_1.take (x8_2 : Int).toNat : List Int)).bind fun y495 => (if y492.length + y495.length < 17592186044416 then ((some (y492 ++ y495 : List Int)).bind fun y499 => (if y499.length + y489.length < 17592186044416 then (mummerref08_Order.l0 k2 l0 (y499 ++ y489) (wrap64 (x7_1 + 1))) else (none))) else (none))))) else (none))) else (none)) else (none)) = some (r1, r2) := by first | (rw [hy482]; with_reducible exact H) | (have H2_ := (Option.bind_some _ _).symm.trans H; rw [hy482]; with_reducible exact H2_) | (have H2_ := (Option.bind_some _ _).symm.trans H; with_reducible exact H2_) | with_reducible exact H | (rw [hy482]; exact H) | exact H
        have Ny482 := ak hy482
        clear hy482
        by_cases c38 : 0 ≤ x8_2
        ·rw [if_pos c38] at H
         have c38b0 := eq_true c38
         have c38b1 : decide (0 ≤ x8_2) = true := decide_eq_true c38
         clear c38
         by_cases c39 : x8_2 ≤ (x6_1.length : Int)
         ·rw [if_pos c39] at H
          have c39b0 := eq_true c39
          have c39b1 : decide (x8_2 ≤ (x6_1.length : Int)) = true := decide_eq_true c39
          clear c39
          obtain ⟨y485, hy485⟩ : ∃ y_ : List Int, y_ = (x6_1.drop (x8_2 : Int).toNat) := ⟨_, rfl⟩
          replace H : (if y482.length + y485.length < 17592186044416 then ((some (y482 ++ y485 : List Int)).bind fun y489 => ((some (([] : List Int) : List Int)).bind fun y492 => ((some (x6_1.take (x8_2 : Int).toNat : List Int)).bind fun y495 => (if y492.length + y495.length < 17592186044416 then ((some (y492 ++ y495 : List Int)).bind fun y499 => (if y499.length + y489.length < 17592186044416 then (mummerref08_Order.l0 k2 l0 (y499 ++ y489) (wrap64 (x7_1 + 1))) else (none))) else (none))))) else (none)) = some (r1, r2) := by first | (rw [hy485]; with_reducible exact H) | (have H2_ := (Option.bind_some _ _).symm.trans H; rw [hy485]; with_reducible exact H2_) | (have H2_ := (Option.bind_some _ _).symm.trans H; with_reducible exact H2_) | with_reducible exact H | (rw [hy485]; exact H) | exact H
          have Ny485 := ak hy485
          clear hy485
          by_cases c40 : y482.length + y485.length < 17592186044416
          ·rw [if_pos c40] at H
           have LMc40 := ak c40
           clear c40
           obtain ⟨y489, hy489⟩ : ∃ y_ : List Int, y_ = (y482 ++ y485) := ⟨_, rfl⟩
           replace H : ((some (([] : List Int) : List Int)).bind fun y492 => ((some (x6_1.take (x8_2 : Int).toNat : List Int)).bind fun y495 => (if y492.length + y495.length < 17592186044416 then ((some (y492 ++ y495 : List Int)).bind fun y499 => (if y499.length + y489.length < 17592186044416 then (mummerref08_Order.l0 k2 l0 (y499 ++ y489) (wrap64 (x7_1 + 1))) else (none))) else (none)))) = some (r1, r2) := by first | (rw [hy489]; with_reducible exact H) | (have H2_ := (Option.bind_some _ _).symm.trans H; rw [hy489]; with_reducible exact H2_) | (have H2_ := (Option.bind_some _ _).symm.trans H; with_reducible exact H2_) | with_reducible exact H | (rw [hy489]; exact H) | exact H
           have Ny489 := ak hy489
           clear hy489
           obtain ⟨y492, hy492⟩ : ∃ y_ : List Int, y_ = (([] : List Int)) := ⟨_, rfl⟩
           replace H : ((some (x6_1.take (x8_2 : Int).toNat : List Int)).bind fun y495 => (if y492.length + y495.length < 17592186044416 then ((some (y492 ++ y495 : List Int)).bind fun y499 => (if y499.length + y489.length < 17592186044416 then (mummerref08_Order.l0 k2 l0 (y499 ++ y489) (wrap64 (x7_1 + 1))) else (none))) else (none))) = some (r1, r2) := by first | (rw [hy492]; with_reducible exact H) | (have H2_ := (Option.bind_some _ _).symm.trans H; rw [hy492]; with_reducible exact H2_) | (have H2_ := (Option.bind_some _ _).symm.trans H; with_reducible exact H2_) | with_reducible exact H | (rw [hy492]; exact H) | exact H
           have Ny492 := ak hy492
           clear hy492
           have c41b0 := eq_true (of_decide_eq_true (by first | (with_reducible assumption) | assumption) : 0 ≤ x8_2)
           have c42b0 := eq_true (of_decide_eq_true (by first | (with_reducible assumption) | assumption) : x8_2 ≤ (x6_1.length : Int))
           obtain ⟨y495, hy495⟩ : ∃ y_ : List Int, y_ = (x6_1.take (x8_2 : Int).toNat) := ⟨_, rfl⟩
           replace H : (if y492.length + y495.length < 17592186044416 then ((some (y492 ++ y495 : List Int)).bind fun y499 => (if y499.length + y489.length < 17592186044416 then (mummerref08_Order.l0 k2 l0 (y499 ++ y489) (wrap64 (x7_1 + 1))) else (none))) else (none)) = some (r1, r2) := by first | (rw [hy495]; with_reducible exact H) | (have H2_ := (Option.bind_some _ _).symm.trans H; rw [hy495]; with_reducible exact H2_) | (have H2_ := (Option.bind_some _ _).symm.trans H; with_reducible exact H2_) | with_reducible exact H | (rw [hy495]; exact H) | exact H
           have Ny495 := ak hy495
           clear hy495
           by_cases c43 : y492.length + y495.length < 17592186044416
           ·rw [if_pos c43] at H
            have LMc43 := ak c43
            clear c43
            obtain ⟨y499, hy499⟩ : ∃ y_ : List Int, y_ = (y492 ++ y495) := ⟨_, rfl⟩
            replace H : (if y499.length + y489.length < 17592186044416 then (mummerref08_Order.l0 k2 l0 (y499 ++ y489) (wrap64 (x7_1 + 1))) else (none)) = some (r1, r2) := by first | (rw [hy499]; with_reducible exact H) | (have H2_ := (Option.bind_some _ _).symm.trans H; rw [hy499]; with_reducible exact H2_) | (have H2_ := (Option.bind_some _ _).symm.trans H; with_reducible exact H2_) | with_reducible exact H | (rw [hy499]; exact H) | exact H
            have Ny499 := ak hy499
            clear hy499
            by_cases c44 : y499.length + y489.length < 17592186044416
            ·rw [if_pos c44] at H
             have LMc44 := ak c44
             clear c44
             obtain ⟨y502, hy502⟩ : ∃ y_ : List Int, y_ = (y499 ++ y489) := ⟨_, rfl⟩
             replace H : (mummerref08_Order.l0 k2 l0 y502 (wrap64 (x7_1 + 1))) = some (r1, r2) := by first | (rw [hy502]; with_reducible exact H) | (have H2_ := (Option.bind_some _ _).symm.trans H; rw [hy502]; with_reducible exact H2_) | (have H2_ := (Option.bind_some _ _).symm.trans H; with_reducible exact H2_) | with_reducible exact H | (rw [hy502]; exact H) | exact H
             have Ny502 := ak hy502
             clear hy502
             have H' := ak H
             clear H
             try go_wp2
             have n0_ := ak (Kd.R_drew HO_6.out)
             have n1_ := ak (wD HB.out)
             clear HO_6 HB
             have HO_6 := n0_
             have HB := n1_
             clear n0_ n1_
             refine start_ (n := 19) (S := fun w' => True) (ds := []) #[false, false, false, false, false, false, false, false, false, false, false, false, false, false, false, false, false, false, false] (by kernel_rfl) rfl rfl trivial (fun hHeld => ?_); refine with_tabW mummerref08_Order.tab9 mummerref08_Order.bits9 (fun HT_ HW_ => ?_)
             generalize wr.drew = w45 at HO_6 HB hHeld ⊢
             refine pure_ (i := 0) (N := some 26) (v := ?_) (a' := ?_) #[true, false, false, false, false, false, false, false, false, false, false, false, false, false, false, false, false, false, false] rfl rfl (any_of HT_.out (by kernel_rfl)) (fun _ _ _ h => h) (Or.inl ⟨by rfl, ?_⟩) ?_ ?_
             rotate_left
             ·intro w'
              go_simp
              with_reducible rfl
             rotate_left
             ·simp only [Act.put, List.setIfInBounds_toArray, List.set_cons_zero, List.set_cons_succ, i64_w, i32_w]
              rfl
             refine pure_ (i := 1) (N := some 27) (v := ?_) (a' := ?_) #[true, true, false, false, false, false, false, false, false, false, false, false, false, false, false, false, false, false, false] rfl rfl (any_of HT_.out (by kernel_rfl)) (fun _ _ _ h => h) (Or.inl ⟨by rfl, ?_⟩) ?_ ?_
             rotate_left
             ·intro w'
              go_simp
              with_reducible rfl
             rotate_left
             ·simp only [Act.put, List.setIfInBounds_toArray, List.set_cons_zero, List.set_cons_succ, i64_w, i32_w]
              rfl
             refine pure_ (i := 2) (N := some 28) (v := ?_) (a' := ?_) #[true, true, true, false, false, false, false, false, false, false, false, false, false, false, false, false, false, false, false] rfl rfl (any_of HT_.out (by kernel_rfl)) (fun _ _ _ h => h) (Or.inl ⟨by rfl, ?_⟩) ?_ ?_
             rotate_left
             ·intro w'
              go_simp
              with_reducible rfl
             rotate_left
             ·simp only [Act.put, List.setIfInBounds_toArray, List.set_cons_zero, List.set_cons_succ, i64_w, i32_w]
              rfl
             refine pure_ (i := 3) (N := some 29) (v := undef) (a' := ?_) #[true, true, true, true, false, false, false, false, false, false, false, false, false, false, false, false, false, false, false] rfl rfl (any_of HT_.out (by kernel_rfl)) (fun _ _ _ h => h) (Or.inr ⟨by rfl, rfl⟩) ?_ ?_
             rotate_left
             ·simp only [Act.put, List.setIfInBounds_toArray, List.set_cons_zero, List.set_cons_succ, i64_w, i32_w]
              rfl
             refine pure_ (i := 4) (N := some 30) (v := undef) (a' := ?_) #[true, true, true, true, true, false, false, false, false, false, false, false, false, false, false, false, false, false, false] rfl rfl (any_of HT_.out (by kernel_rfl)) (fun _ _ _ h => h) (Or.inr ⟨by rfl, rfl⟩) ?_ ?_
             rotate_left
             ·simp only [Act.put, List.setIfInBounds_toArray, List.set_cons_zero, List.set_cons_succ, i64_w, i32_w]
              rfl
             refine pure_ (i := 5) (N := some 31) (v := undef) (a' := ?_) #[true, true, true, true, true, true, false, false, false, false, false, false, false, false, false, false, false, false, false] rfl rfl (any_of HT_.out (by kernel_rfl)) (fun _ _ _ h => h) (Or.inr ⟨by rfl, rfl⟩) ?_ ?_
             rotate_left
             ·simp only [Act.put, List.setIfInBounds_toArray, List.set_cons_zero, List.set_cons_succ, i64_w, i32_w]
              rfl
             refine pure_ (i := 6) (N := some 32) (v := undef) (a' := ?_) #[true, true, true, true, true, true, true, false, false, false, false, false, false, false, false, false, false, false, false] rfl rfl (any_of HT_.out (by kernel_rfl)) (fun _ _ _ h => h) (Or.inr ⟨by rfl, rfl⟩) ?_ ?_
             rotate_left
             ·simp only [Act.put, List.setIfInBounds_toArray, List.set_cons_zero, List.set_cons_succ, i64_w, i32_w]
              rfl
             refine pure_ (i := 7) (N := some 33) (v := undef) (a' := ?_) #[true, true, true, true, true, true, true, true, false, false, false, false, false, false, false, false, false, false, false] rfl rfl (any_of HT_.out (by kernel_rfl)) (fun _ _ _ h => h) (Or.inr ⟨by rfl, rfl⟩) ?_ ?_
             rotate_left
             ·simp only [Act.put, List.setIfInBounds_toArray, List.set_cons_zero, List.set_cons_succ, i64_w, i32_w]
              rfl
             refine pure_ (i := 8) (N := some 34) (v := undef) (a' := ?_) #[true, true, true, true, true, true, true, true, true, false, false, false, false, false, false, false, false, false, false] rfl rfl (any_of HT_.out (by kernel_rfl)) (fun _ _ _ h => h) (Or.inr ⟨by rfl, rfl⟩) ?_ ?_
             rotate_left
             ·simp only [Act.put, List.setIfInBounds_toArray, List.set_cons_zero, List.set_cons_succ, i64_w, i32_w]
              rfl
             refine pure_ (i := 9) (N := some 35) (v := undef) (a' := ?_) #[true, true, true, true, true, true, true, true, true, true, false, false, false, false, false, false, false, false, false] rfl rfl (any_of HT_.out (by kernel_rfl)) (fun _ _ _ h => h) (Or.inr ⟨by rfl, rfl⟩) ?_ ?_
             rotate_left
             ·simp only [Act.put, List.setIfInBounds_toArray, List.set_cons_zero, List.set_cons_succ, i64_w, i32_w]
              rfl
             refine pure_ (i := 10) (N := some 36) (v := undef) (a' := ?_) #[true, true, true, true, true, true, true, true, true, true, true, false, false, false, false, false, false, false, false] rfl rfl (any_of HT_.out (by kernel_rfl)) (fun _ _ _ h => h) (Or.inr ⟨by rfl, rfl⟩) ?_ ?_
             rotate_left
             ·simp only [Act.put, List.setIfInBounds_toArray, List.set_cons_zero, List.set_cons_succ, i64_w, i32_w]
              rfl
             refine pure_ (i := 11) (N := some 37) (v := undef) (a' := ?_) #[true, true, true, true, true, true, true, true, true, true, true, true, false, false, false, false, false, false, false] rfl rfl (any_of HT_.out (by kernel_rfl)) (fun _ _ _ h => h) (Or.inr ⟨by rfl, rfl⟩) ?_ ?_
             rotate_left
             ·simp only [Act.put, List.setIfInBounds_toArray, List.set_cons_zero, List.set_cons_succ, i64_w, i32_w]
              rfl
             refine pure_ (i := 12) (N := some 38) (v := undef) (a' := ?_) #[true, true, true, true, true, true, true, true, true, true, true, true, true, false, false, false, false, false, false] rfl rfl (any_of HT_.out (by kernel_rfl)) (fun _ _ _ h => h) (Or.inr ⟨by rfl, rfl⟩) ?_ ?_
             rotate_left
             ·simp only [Act.put, List.setIfInBounds_toArray, List.set_cons_zero, List.set_cons_succ, i64_w, i32_w]
              rfl
             refine pure_ (i := 13) (N := some 39) (v := undef) (a' := ?_) #[true, true, true, true, true, true, true, true, true, true, true, true, true, true, false, false, false, false, false] rfl rfl (any_of HT_.out (by kernel_rfl)) (fun _ _ _ h => h) (Or.inr ⟨by rfl, rfl⟩) ?_ ?_
             rotate_left
             ·simp only [Act.put, List.setIfInBounds_toArray, List.set_cons_zero, List.set_cons_succ, i64_w, i32_w]
              rfl
             refine pure_ (i := 14) (N := some 40) (v := undef) (a' := ?_) #[true, true, true, true, true, true, true, true, true, true, true, true, true, true, true, false, false, false, false] rfl rfl (any_of HT_.out (by kernel_rfl)) (fun _ _ _ h => h) (Or.inr ⟨by rfl, rfl⟩) ?_ ?_
             rotate_left
             ·simp only [Act.put, List.setIfInBounds_toArray, List.set_cons_zero, List.set_cons_succ, i64_w, i32_w]
              rfl
             refine pure_ (i := 15) (N := some 41) (v := undef) (a' := ?_) #[true, true, true, true, true, true, true, true, true, true, true, true, true, true, true, true, false, false, false] rfl rfl (any_of HT_.out (by kernel_rfl)) (fun _ _ _ h => h) (Or.inr ⟨by rfl, rfl⟩) ?_ ?_
             rotate_left
             ·simp only [Act.put, List.setIfInBounds_toArray, List.set_cons_zero, List.set_cons_succ, i64_w, i32_w]
              rfl
             refine pure_ (i := 16) (N := some 42) (v := undef) (a' := ?_) #[true, true, true, true, true, true, true, true, true, true, true, true, true, true, true, true, true, false, false] rfl rfl (any_of HT_.out (by kernel_rfl)) (fun _ _ _ h => h) (Or.inr ⟨by rfl, rfl⟩) ?_ ?_
             rotate_left
             ·simp only [Act.put, List.setIfInBounds_toArray, List.set_cons_zero, List.set_cons_succ, i64_w, i32_w]
              rfl
             refine pure_ (i := 17) (N := some 43) (v := undef) (a' := ?_) #[true, true, true, true, true, true, true, true, true, true, true, true, true, true, true, true, true, true, false] rfl rfl (any_of HT_.out (by kernel_rfl)) (fun _ _ _ h => h) (Or.inr ⟨by rfl, rfl⟩) ?_ ?_
             rotate_left
             ·simp only [Act.put, List.setIfInBounds_toArray, List.set_cons_zero, List.set_cons_succ, i64_w, i32_w]
              rfl
             refine pure_ (i := 18) (N := some 44) (v := ?_) (a' := ?_) #[true, true, true, true, true, true, true, true, true, true, true, true, true, true, true, true, true, true, true] rfl rfl (any_of HT_.out (by kernel_rfl)) (fun _ _ _ h => h) (Or.inl ⟨by rfl, ?_⟩) ?_ ?_
             rotate_left
             ·intro w'
              go_simp
              with_reducible rfl
             rotate_left
             ·simp only [Act.put, List.setIfInBounds_toArray, List.set_cons_zero, List.set_cons_succ, i64_w, i32_w]
              rfl
             refine done_ (done_of HT_.out (by kernel_rfl)) ?_
             try go_wp2_with (first | ((with_reducible refine gate_dst (N := 48) rfl ?_); refine Kd.R_lit (Kd.int .i64) _ 3 ?hg (N := 48) ?hd (xs := ([x7_1] : List Int)) (inner := [.int .i64 x7_1]) (ok := fun _ => True) (okp := fun _ => True) ?hr ?hp (fun _ hk => hk) trivial (Below.refl _ _) (Nat.le_refl _) (by simp) ?_; (case hd => rfl); (case hg => rfl); (case hr => first | (go_simp; done) | (go_simp; rfl)); (case hp => exact (Reps.one (show Kd.M (Kd.int .i64) _ _ _ x7_1 [.int .i64 x7_1] from rfl) (Reps.none _ _))); intro v483 w46 ho47 hb hg_ hnew_; clear hg_ hnew_; (first | rw [← Ny482.out] at ho47 | (simp only [Int.reduceToNat] at ho47; rw [← Ny482.out] at ho47)); have n0_ := ak (Kd.R_elder' (by (with_reducible repeat (first | apply Kd.R_alloc | apply Kd.R_drewN | apply Kd.R_drew)); exact HO_6.out) (Kd.R_base ho47) hb); have n1_ := ak (Kd.R_lower (Kd.R_new' ho47 (Kd.R_lt (by (with_reducible repeat (first | apply Kd.R_alloc | apply Kd.R_drewN | apply Kd.R_drew)); exact HO_6.out))) (below_size (by repeat (first | (with_reducible first | exact HB.out | apply wA | apply wN | apply wD) | exact HB.out)))); have n2_ := ak (below_step (by repeat (first | (with_reducible first | exact HB.out | apply wA | apply wN | apply wD) | exact HB.out)) hb); clear HO_6; clear HB; have HO_6 := n0_; have HO484 := n1_; have HB := n2_; clear n0_ n1_ n2_; clear hb ho47; have q48 : (x8_2 : Int) ≤ ((x6_1.length : Int) : Int) := of_decide_eq_true (by first | (with_reducible assumption) | assumption); obtain ⟨i048, hi048, _, hsz48, _⟩ := info_parts info3; have hroom48 : x6_1.length ≤ co6 := (Kd.R_reads' HO_6.out).2.1; have hC48 : Kd.C (Kd.int .i64) _ Ao6 x6_1.length x6_1 := (Kd.R_reads' HO_6.out).2.2; have q048 : (0 : Int) ≤ (x8_2 : Int) := of_decide_eq_true (by first | (with_reducible assumption) | assumption); have hcut48 := cut_from (P := Tryz.prog) 43 3 .i64 Tryz.underlying43 hi048 1 hsz48 Ao6 x6_1.length co6 x8_2 q048 q48; have hr48 := Kd.C_drop (m := (x8_2 : Int).toNat) (c := co6) hC48 (by omega) hroom48; obtain ⟨A48, hA48⟩ : ∃ A1, A1 = (if co6 = (x8_2 : Int).toNat then Ao6 else (Ao6 : Option Addr).map (·.add ((x8_2 : Int).toNat * 1))) := ⟨_, rfl⟩; obtain ⟨c48, hc48⟩ : ∃ c1, c1 = co6 - (x8_2 : Int).toNat := ⟨_, rfl⟩; have hy48 : y485.length = x6_1.length - (x8_2 : Int).toNat := (by rw [Ny485.out, List.length_drop] <;> omega); rw [show (x6_1).drop (x8_2 : Int).toNat = y485 from Ny485.out.symm] at hr48; replace hr48 : Kd.C (Kd.int .i64) _ A48 y485.length y485 := (by rw [hA48]; exact hr48); rw [← hy48, ← hA48, ← hc48] at hcut48; have HR488 := ak hr48; have HC488 := ak (show y485.length ≤ c48 from by rw [hy48, hc48]; exact Nat.sub_le_sub_right hroom48 _); clear hr48 hC48 hroom48 hi048 hsz48 hc48; have KY48 := ak hy48; have KA48 := ak hA48; clear hy48 hA48; have KL48 := ak (show (x8_2 : Int).toNat ≤ x6_1.length from by omega); replace q48 := eq_true q48) | ((with_reducible refine gate_builtin (b := .append) (xs := #[.tmp 48, .tmp 51]) rfl ?_); at_builtin; refine Kd.R_append_rows (Kd.int .i64) (w0 := w) w.heap.size rfl (.tmp 48) (.tmp 51) 43 3 (.int .i64 0) 8 rfl Tryz.underlying43 info3 rfl (by decide) (by omega) v483 y482 y485 _ _ _ (fun k_ => some k_ ≠ (.slice Ao6 x6_1.length co6 : Value).ownBlock) (fun _ => False) rfl rfl ?aO ?aR (fun _ _ h => h) (fun _ h => h.elim) ?aF ?aB ?aS ?aL ?_; (case aR => repeat (first | exact (by repeat (first | (with_reducible exact HR488.out) | (with_reducible refine Kd.C_alloc ?_ _) | (with_reducible refine Kd.C_drewN ?_ _) | (with_reducible refine Kd.C_drew ?_) | exact HR488.out)) | (with_reducible refine Kd.C_alloc ?_ _) | (with_reducible refine Kd.C_drewN ?_ _) | (with_reducible refine Kd.C_drew ?_))); (case aB => exact (by repeat (first | (with_reducible first | exact HB.out | apply wA | apply wN | apply wD) | exact HB.out))); (case aF => exact (fun k_ hk => Kd.fresh' (Kd.R_lt (by (with_reducible repeat (first | apply Kd.R_alloc | apply Kd.R_drewN | apply Kd.R_drew)); exact HO_6.out)) k_ hk)); (case aO => exact (by (with_reducible repeat (first | apply Kd.R_alloc | apply Kd.R_drewN | apply Kd.R_drew)); exact Kd.R_mono HO484.out (fun _ hk => hk.2))); (case aS => exact (below_size (by repeat (first | (with_reducible first | exact HB.out | apply wA | apply wN | apply wD) | exact HB.out)))); (case aL => have := LMc40.out; omega); intro v490 w49 ho hb hg hat; rw [← Ny489.out] at ho; have n0_ := ak (Kd.R_after (ok := (fun _ => True)) (by (with_reducible repeat (first | apply Kd.R_alloc | apply Kd.R_drewN | apply Kd.R_drew)); exact HO_6.out) hg hat); have n1_ := ak (hb); have n2_ := ak ((show Kd.C (Kd.int .i64) w49 A48 y485.length y485 from by rw [Ny485.out, KA48.out]; exact Kd.C_drop (m := (x8_2 : Int).toNat) (c := co6) ((Kd.R_reads' (Kd.R_after (ok := (fun _ => True)) (by (with_reducible repeat (first | apply Kd.R_alloc | apply Kd.R_drewN | apply Kd.R_drew)); exact HO_6.out) hg hat)).2.2) KL48.out ((Kd.R_reads' (Kd.R_after (ok := (fun _ => True)) (by (with_reducible repeat (first | apply Kd.R_alloc | apply Kd.R_drewN | apply Kd.R_drew)); exact HO_6.out) hg hat)).2.1))); have n3_ := ak (ho); clear HO_6; clear HB; clear HR488; clear HO484; have HO_6 := n0_; have HB := n1_; have HR488 := n2_; have HO491 := n3_; clear n0_ n1_ n2_ n3_; clear ho hb hg hat) | ((with_reducible refine gate_dst (N := 53) rfl ?_); refine Kd.R_lit (Kd.int .i64) _ 3 ?hg (N := 53) ?hd (xs := ([] : List Int)) (inner := []) (ok := fun _ => True) (okp := fun _ => True) ?hr ?hp (fun _ hk => hk) trivial (Below.refl _ _) (Nat.le_refl _) (by simp) ?_; (case hd => rfl); (case hg => rfl); (case hr => first | (go_simp; done) | (go_simp; rfl)); (case hp => exact (Reps.none _ _)); intro v493 w50 ho51 hb hg_ hnew_; clear hg_ hnew_; (first | rw [← Ny492.out] at ho51 | (simp only [Int.reduceToNat] at ho51; rw [← Ny492.out] at ho51)); have n0_ := ak (Kd.R_elder' (by (with_reducible repeat (first | apply Kd.R_alloc | apply Kd.R_drewN | apply Kd.R_drew)); exact HO_6.out) (Kd.R_base ho51) hb); have n1_ := ak (Kd.R_elder' (by (with_reducible repeat (first | apply Kd.R_alloc | apply Kd.R_drewN | apply Kd.R_drew)); exact HO491.out) (Kd.R_base ho51) hb); have n2_ := ak (Kd.R_lower (Kd.R_new' (Kd.R_new' ho51 (Kd.R_lt (by (with_reducible repeat (first | apply Kd.R_alloc | apply Kd.R_drewN | apply Kd.R_drew)); exact HO_6.out))) (Kd.R_lt (by (with_reducible repeat (first | apply Kd.R_alloc | apply Kd.R_drewN | apply Kd.R_drew)); exact HO491.out))) (below_size (by repeat (first | (with_reducible first | exact HB.out | apply wA | apply wN | apply wD) | exact HB.out)))); have n3_ := ak (Kd.C_below (by repeat (first | (with_reducible exact HR488.out) | (with_reducible refine Kd.C_alloc ?_ _) | (with_reducible refine Kd.C_drewN ?_ _) | (with_reducible refine Kd.C_drew ?_) | exact HR488.out)) hb); have n4_ := ak (below_step (by repeat (first | (with_reducible first | exact HB.out | apply wA | apply wN | apply wD) | exact HB.out)) hb); clear HO_6; clear HO491; clear HR488; clear HB; have HO_6 := n0_; have HO491 := n1_; have HO494 := n2_; have HR488 := n3_; have HB := n4_; clear n0_ n1_ n2_ n3_ n4_; clear hb ho51; have q52 : (x8_2 : Int) ≤ ((x6_1.length : Int) : Int) := of_decide_eq_true (by first | (with_reducible assumption) | assumption); obtain ⟨i052, hi052, _, hsz52, _⟩ := info_parts info3; have hroom52 : x6_1.length ≤ co6 := (Kd.R_reads' HO_6.out).2.1; have hC52 : Kd.C (Kd.int .i64) _ Ao6 x6_1.length x6_1 := (Kd.R_reads' HO_6.out).2.2; have hcut52 := cut_to (P := Tryz.prog) 43 3 .i64 Tryz.underlying43 hi052 Ao6 x6_1.length co6 x8_2 (of_decide_eq_true (by first | (with_reducible assumption) | assumption)) q52 hroom52; have hr52 := Kd.C_take (m := (x8_2 : Int).toNat) hC52 (by omega); have hy52 : y495.length = (x8_2 : Int).toNat := (by rw [Ny495.out, List.length_take]; omega); rw [← Ny495.out] at hr52; rw [← hy52] at hcut52; have HR498 := ak hr52; have HC498 := ak (show y495.length ≤ co6 from by omega); clear hr52 hC52 hroom52 hi052 hsz52; have KY52 := ak hy52; clear hy52; have KL52 := ak (show (x8_2 : Int).toNat ≤ x6_1.length from by omega); replace q52 := eq_true q52) | ((with_reducible refine gate_builtin (b := .append) (xs := #[.tmp 53, .tmp 56]) rfl ?_); at_builtin; refine Kd.R_append_rows (Kd.int .i64) (w0 := w) w.heap.size rfl (.tmp 53) (.tmp 56) 43 3 (.int .i64 0) 8 rfl Tryz.underlying43 info3 rfl (by decide) (by omega) v493 y492 y495 _ _ _ (fun k_ => some k_ ≠ (.slice Ao6 x6_1.length co6 : Value).ownBlock ∧ some k_ ≠ (v490 : Value).ownBlock) (fun _ => False) rfl rfl ?aO ?aR (fun _ _ h => h) (fun _ h => h.elim) ?aF ?aB ?aS ?aL ?_; (case aR => repeat (first | exact (by repeat (first | (with_reducible exact HR498.out) | (with_reducible refine Kd.C_alloc ?_ _) | (with_reducible refine Kd.C_drewN ?_ _) | (with_reducible refine Kd.C_drew ?_) | exact HR498.out)) | (with_reducible refine Kd.C_alloc ?_ _) | (with_reducible refine Kd.C_drewN ?_ _) | (with_reducible refine Kd.C_drew ?_))); (case aB => exact (by repeat (first | (with_reducible first | exact HB.out | apply wA | apply wN | apply wD) | exact HB.out))); (case aF => exact (fun k_ hk => ⟨Kd.fresh' (Kd.R_lt (by (with_reducible repeat (first | apply Kd.R_alloc | apply Kd.R_drewN | apply Kd.R_drew)); exact HO_6.out)) k_ hk, Kd.fresh' (Kd.R_lt (by (with_reducible repeat (first | apply Kd.R_alloc | apply Kd.R_drewN | apply Kd.R_drew)); exact HO491.out)) k_ hk⟩)); (case aO => exact (by (with_reducible repeat (first | apply Kd.R_alloc | apply Kd.R_drewN | apply Kd.R_drew)); exact Kd.R_mono HO494.out (fun _ hk => by first | exact ⟨hk.1.2, hk.2⟩ | (simp only [ne_eq] at hk ⊢; simp [hk])))); (case aS => exact (below_size (by repeat (first | (with_reducible first | exact HB.out | apply wA | apply wN | apply wD) | exact HB.out)))); (case aL => have := LMc43.out; omega); intro v500 w53 ho hb hg hat; rw [← Ny499.out] at ho; have n0_ := ak (Kd.R_after (ok := (fun k_ => some k_ ≠ (v490 : Value).ownBlock)) (by (with_reducible repeat (first | apply Kd.R_alloc | apply Kd.R_drewN | apply Kd.R_drew)); exact Kd.R_mono HO_6.out (fun _ hk => by first | exact ⟨hk.1.2, hk.2⟩ | (simp only [ne_eq] at hk ⊢; simp [hk]))) hg hat); have n1_ := ak (Kd.R_after (ok := (fun k_ => some k_ ≠ (.slice Ao6 x6_1.length co6 : Value).ownBlock)) (by (with_reducible repeat (first | apply Kd.R_alloc | apply Kd.R_drewN | apply Kd.R_drew)); exact HO491.out) hg hat); have n2_ := ak (hb); have n3_ := ak ((show Kd.C (Kd.int .i64) w53 A48 y485.length y485 from by rw [Ny485.out, KA48.out]; exact Kd.C_drop (m := (x8_2 : Int).toNat) (c := co6) ((Kd.R_reads' (Kd.R_after (ok := (fun k_ => some k_ ≠ (v490 : Value).ownBlock)) (by (with_reducible repeat (first | apply Kd.R_alloc | apply Kd.R_drewN | apply Kd.R_drew)); exact Kd.R_mono HO_6.out (fun _ hk => by first | exact ⟨hk.1.2, hk.2⟩ | (simp only [ne_eq] at hk ⊢; simp [hk]))) hg hat)).2.2) KL48.out ((Kd.R_reads' (Kd.R_after (ok := (fun k_ => some k_ ≠ (v490 : Value).ownBlock)) (by (with_reducible repeat (first | apply Kd.R_alloc | apply Kd.R_drewN | apply Kd.R_drew)); exact Kd.R_mono HO_6.out (fun _ hk => by first | exact ⟨hk.1.2, hk.2⟩ | (simp only [ne_eq] at hk ⊢; simp [hk]))) hg hat)).2.1))); have n4_ := ak ((show Kd.C (Kd.int .i64) w53 Ao6 y495.length y495 from by rw [Ny495.out]; exact Kd.C_take (m := (x8_2 : Int).toNat) ((Kd.R_reads' (Kd.R_after (ok := (fun k_ => some k_ ≠ (v490 : Value).ownBlock)) (by (with_reducible repeat (first | apply Kd.R_alloc | apply Kd.R_drewN | apply Kd.R_drew)); exact Kd.R_mono HO_6.out (fun _ hk => by first | exact ⟨hk.1.2, hk.2⟩ | (simp only [ne_eq] at hk ⊢; simp [hk]))) hg hat)).2.2) KL52.out)); have n5_ := ak (ho); clear HO_6; clear HO491; clear HB; clear HR488; clear HR498; clear HO494; have HO_6 := n0_; have HO491 := n1_; have HB := n2_; have HR488 := n3_; have HR498 := n4_; have HO501 := n5_; clear n0_ n1_ n2_ n3_ n4_ n5_; clear ho hb hg hat; obtain ⟨Ao55, co55, eo55⟩ := Kd.R_slice HO491.out; subst eo55) | ((with_reducible refine gate_builtin (b := .append) (xs := #[.tmp 57, .tmp 58]) rfl ?_); at_builtin; refine Kd.R_append_rows (Kd.int .i64) (w0 := w) w.heap.size rfl (.tmp 57) (.tmp 58) 43 3 (.int .i64 0) 8 rfl Tryz.underlying43 info3 rfl (by decide) (by omega) v500 y499 y489 _ _ _ (fun k_ => some k_ ≠ (.slice Ao6 x6_1.length co6 : Value).ownBlock ∧ some k_ ≠ (.slice Ao55 y489.length co55 : Value).ownBlock) (fun _ => False) rfl rfl ?aO ?aR (fun _ _ h => h) (fun _ h => h.elim) ?aF ?aB ?aS ?aL ?_; (case aR => repeat (first | exact (Kd.R_reads' HO491.out).2.2 | (with_reducible refine Kd.C_alloc ?_ _) | (with_reducible refine Kd.C_drewN ?_ _) | (with_reducible refine Kd.C_drew ?_))); (case aB => exact (by repeat (first | (with_reducible first | exact HB.out | apply wA | apply wN | apply wD) | exact HB.out))); (case aF => exact (fun k_ hk => ⟨Kd.fresh' (Kd.R_lt (by (with_reducible repeat (first | apply Kd.R_alloc | apply Kd.R_drewN | apply Kd.R_drew)); exact HO_6.out)) k_ hk, Kd.fresh' (Kd.R_lt (by (with_reducible repeat (first | apply Kd.R_alloc | apply Kd.R_drewN | apply Kd.R_drew)); exact HO491.out)) k_ hk⟩)); (case aO => exact (by (with_reducible repeat (first | apply Kd.R_alloc | apply Kd.R_drewN | apply Kd.R_drew)); exact HO501.out)); (case aS => exact (below_size (by repeat (first | (with_reducible first | exact HB.out | apply wA | apply wN | apply wD) | exact HB.out)))); (case aL => have := LMc44.out; omega); intro v503 w54 ho hb hg hat; rw [← Ny502.out] at ho; have n0_ := ak (Kd.R_after (ok := (fun k_ => some k_ ≠ (.slice Ao55 y489.length co55 : Value).ownBlock)) (by (with_reducible repeat (first | apply Kd.R_alloc | apply Kd.R_drewN | apply Kd.R_drew)); exact HO_6.out) hg hat); have n1_ := ak (Kd.R_after (ok := (fun k_ => some k_ ≠ (.slice Ao6 x6_1.length co6 : Value).ownBlock)) (by (with_reducible repeat (first | apply Kd.R_alloc | apply Kd.R_drewN | apply Kd.R_drew)); exact HO491.out) hg hat); have n2_ := ak (hb); have n3_ := ak ((show Kd.C (Kd.int .i64) w54 A48 y485.length y485 from by rw [Ny485.out, KA48.out]; exact Kd.C_drop (m := (x8_2 : Int).toNat) (c := co6) ((Kd.R_reads' (Kd.R_after (ok := (fun k_ => some k_ ≠ (.slice Ao55 y489.length co55 : Value).ownBlock)) (by (with_reducible repeat (first | apply Kd.R_alloc | apply Kd.R_drewN | apply Kd.R_drew)); exact HO_6.out) hg hat)).2.2) KL48.out ((Kd.R_reads' (Kd.R_after (ok := (fun k_ => some k_ ≠ (.slice Ao55 y489.length co55 : Value).ownBlock)) (by (with_reducible repeat (first | apply Kd.R_alloc | apply Kd.R_drewN | apply Kd.R_drew)); exact HO_6.out) hg hat)).2.1))); have n4_ := ak ((show Kd.C (Kd.int .i64) w54 Ao6 y495.length y495 from by rw [Ny495.out]; exact Kd.C_take (m := (x8_2 : Int).toNat) ((Kd.R_reads' (Kd.R_after (ok := (fun k_ => some k_ ≠ (.slice Ao55 y489.length co55 : Value).ownBlock)) (by (with_reducible repeat (first | apply Kd.R_alloc | apply Kd.R_drewN | apply Kd.R_drew)); exact HO_6.out) hg hat)).2.2) KL52.out)); have n5_ := ak (ho); clear HO_6; clear HO491; clear HB; clear HR488; clear HR498; clear HO501; have HO_6 := n0_; have HO491 := n1_; have HB := n2_; have HR488 := n3_; have HR498 := n4_; have HO504 := n5_; clear n0_ n1_ n2_ n3_ n4_ n5_; clear ho hb hg hat))
             go_roundg k2
             case measure => have := HK1.out; have := HK2.out; omega
             case rel => exact ⟨(y502), (wrap64 (x7_1 + 1)), (by first | rfl | (simp; done) | (simp [*]; done)), H', ⟨by have := HK1.out; have := HK2.out; omega⟩, ⟨by (with_reducible repeat (first | apply Kd.R_alloc | apply Kd.R_drewN | apply Kd.R_drew)); exact Kd.R_mono HO504.out (fun _ hk => trivial)⟩, ⟨by repeat (first | (with_reducible first | exact HB.out | apply wA | apply wN | apply wD) | exact HB.out)⟩⟩
            ·rw [if_neg c44] at H
             exact absurd H (by simp)
           ·rw [if_neg c43] at H
            exact absurd H (by simp)
          ·rw [if_neg c40] at H
           exact absurd H (by simp)
         ·rw [if_neg c39] at H
          exact absurd H (by simp)
        ·rw [if_neg c38] at H
         exact absurd H (by simp)
    ·rw [if_neg c5] at H
     have c5b0 : decide (x7_1 < (l0.length : Int)) = false := decide_eq_false c5
     clear c5
     simp only [Option.some.injEq, Prod.mk.injEq] at H
     obtain ⟨rfl, rfl⟩ := H
     go_wp2
     go_ret2
     exact ⟨_, by first | rfl | (simp [errW_none, errW_some] <;> rfl) | (simp [*, errW_none, errW_some] <;> rfl), by (with_reducible repeat (first | apply Kd.R_alloc | apply Kd.R_drewN | apply Kd.R_drew)); exact HO_6.out, by repeat (first | (with_reducible first | exact HB.out | apply wA | apply wN | apply wD) | exact HB.out)⟩
 ·rw [if_neg c3] at H
  have c3b0 : (t454 == 0) = false := beq_eq_false_iff_ne.mpr c3
  have c3b1 : (t454 != 0) = true := bne_iff_ne.mpr c3
  simp only [Option.some.injEq, Prod.mk.injEq] at H
  obtain ⟨rfl, rfl⟩ := H
  go_enter Tryz.func37, Tryz.ntmps37
  go_wp2_with (first | ((with_reducible refine gate_callee (f := 14) rfl ?_); refine goesL_ (some 12) rfl rfl Tryz.func14 (by kernel_rfl) rfl #[.int .i64 8000, .slice A0 l0.length c0] rfl (by (try simp only [List.map_toArray, List.map_cons, List.map_nil]); first | done | rfl | (simp only [List.length_drop, List.length_take]; rfl)) ?_; (with_reducible refine (mummerref08_Check.calls k 8000 _ _ l0 t453 t454 _ ?side1 ?side2 A2.out).mono ?_); (case side1 => repeat (first | exact HR0.out | (with_reducible refine Kd.C_alloc ?_ _) | (with_reducible refine Kd.C_drewN ?_ _) | (with_reducible refine Kd.C_drew ?_))); (case side2 => exact HC0.out); rintro e w56 ⟨rfl, hb⟩; refine ⟨_, rfl, ?_⟩; have n0_ := ak (below_step (by repeat (first | (with_reducible first | exact HB.out | apply wA | apply wN | apply wD) | exact HB.out)) hb); clear HB; have HB := n0_; clear n0_; (try clear hb); (try clear hb2); (try clear hk); (try clear hi)))
  go_ret2
  exact ⟨_, by first | rfl | (simp [errW_none, errW_some] <;> rfl) | (simp [*, errW_none, errW_some] <;> rfl), by first | exact Kd.R_nil _ _ _ _ _ | exact Kd.N_nil _ _ _ _ _ | exact Kd.V_nil _ _ _ _ _ | exact Kd.Q_nil _ _ _ _ _ | exact Kd.S_nil _ _ _ _ _, by repeat (first | (with_reducible first | exact HB.out | apply wA | apply wN | apply wD) | exact HB.out)⟩
end Go.Proofs.YtdjkdlbokepoaaaGreatDoor.P
namespace Go.Proofs.YtdjkdlbokepoaaaGreatDoor.P
open Go.RowKit YtdjkdlbokepoaaaGreatDoorW.PrintWords YtdjkdlbokepoaaaGreatDoorW.PrintLast YtdjkdlbokepoaaaGreatDoorW.PrintMore
attribute [local go_sem] max2_int min2_int max_two min_two max_three min_three max_four min_four
set_option linter.unusedVariables false
set_option linter.unusedSimpArgs false
def mummerref08_Has.l0 : Nat → List (S41) → Int → List Int → Int → Option (Bool × Int)
 | 0, _, _, _, _ => none
 | k + 1, x0, x2, x8, x10 => if x10 < (x8.length : Int) then (if 0 ≤ x10 then (if 0 ≤ (rd x8 x10) then (if (rd x8 x10) < (x0.length : Int) then (if ((rd_T41 x0 (rd x8 x10)).f0) = x2 then (some (true, 0)) else (mummerref08_Has.l0 k x0 x2 x8 (wrap64 (x10 + 1)))) else (none)) else (none)) else (none)) else (some (false, 0))
def mummerref08_Has.f (k : Nat) (l0 : List (S41)) (a1 : Int) (a2 : Int) : Option (Bool × Int) := (mummerref08_Chain.f k l0 a1).bind fun bt505 => (if bt505.2 = 0 then (mummerref08_Has.l0 k l0 a2 bt505.1 0) else (some (false, bt505.2)))
set_option maxHeartbeats 8000000 in
set_option maxRecDepth 100000 in
theorem mummerref08_Has.calls (k : Nat) (A0 : Option Addr) (c0 : Nat) (l0 : List (S41)) (a1 : Int) (a2 : Int) (r1 : Bool) (r2 : Int) (w : World) (hr0 : Kd.C k41 w A0 l0.length l0) (hc0 : l0.length ≤ c0) (h : mummerref08_Has.f k l0 a1 a2 = some (r1, r2)) :
  Calls Tryz.prog 38 #[.slice A0 l0.length c0, .int .i64 a1, .int .i64 a2] w fun e w' => e = .returned (.tuple #[.bool r1, .int .i64 r2]) ∧ Below w.heap.size w w' := by
 have HR0 := ak hr0
 have HC0 := ak hc0
 clear hr0 hc0
 have HB := ak (Below.refl w.heap.size w)
 have H : ((mummerref08_Chain.f k l0 a1).bind fun bt505 => (if bt505.2 = 0 then (mummerref08_Has.l0 k l0 a2 bt505.1 0) else (some (false, bt505.2)))) = some (r1, r2) := h
 clear h
 replace H := Option.bind_eq_some_iff.mp H
 obtain ⟨⟨t505, t506⟩, A40, H⟩ := H
 replace H : (if t506 = 0 then (mummerref08_Has.l0 k l0 a2 t505 0) else (some (false, t506))) = some (r1, r2) := H
 have A4 := ak A40
 clear A40
 by_cases c5 : t506 = 0
 ·rw [if_pos c5] at H
  have c5b0 : (t506 == 0) = true := beq_iff_eq.mpr c5
  have c5b1 : (t506 != 0) = false := bne_eq_false_iff_eq.mpr c5
  clear c5
  have H' := ak H
  clear H
  go_enter Tryz.func38, Tryz.ntmps38
  go_wp2_with (first | ((with_reducible refine gate_callee (f := 33) rfl ?_); refine goesL_ (some 14) rfl rfl Tryz.func33 (by kernel_rfl) rfl #[.slice A0 l0.length c0, .int .i64 a1] rfl (by (try simp only [List.map_toArray, List.map_cons, List.map_nil]); first | done | rfl | (simp only [List.length_drop, List.length_take]; rfl)) ?_; (with_reducible refine (mummerref08_Chain.calls k _ _ l0 a1 t505 t506 _ ?side1 ?side2 A4.out).mono ?_); (case side1 => repeat (first | exact HR0.out | (with_reducible refine Kd.C_alloc ?_ _) | (with_reducible refine Kd.C_drewN ?_ _) | (with_reducible refine Kd.C_drew ?_))); (case side2 => exact HC0.out); rintro e w6 ⟨v507, rfl, ho0, hb⟩; refine ⟨_, rfl, ?_⟩; have n0_ := ak (Kd.R_lower ho0 (below_size (by repeat (first | (with_reducible first | exact HB.out | apply wA | apply wN | apply wD) | exact HB.out)))); have n1_ := ak (below_step (by repeat (first | (with_reducible first | exact HB.out | apply wA | apply wN | apply wD) | exact HB.out)) hb); clear HB; have HO508 := n0_; have HB := n1_; clear n0_ n1_; (try clear hb); (try clear hb2); (try clear hk); (try clear hi); (try clear ho0)))
  go_loopg [10] k (fun kq v10 w' => ∃ (x10_1 : Int), v10 = .int .i64 x10_1 ∧ Aside0 (mummerref08_Has.l0 kq l0 a2 t505 x10_1 = some (r1, r2)) ∧ Aside0 (kq ≤ k) ∧ Aside0 (Kd.R (Kd.int .i64) 3 w' w.heap.size (fun _ => True) v507 t505) ∧ Aside0 (Below w.heap.size w w'))
  case atStart => exact ⟨(0), (by first | rfl | (simp; done) | (simp [*]; done)), H', ⟨Nat.le_refl _⟩, ⟨by (with_reducible repeat (first | apply Kd.R_alloc | apply Kd.R_drewN | apply Kd.R_drew)); exact HO508.out⟩, ⟨by repeat (first | (with_reducible first | exact HB.out | apply wA | apply wN | apply wD) | exact HB.out)⟩⟩
  case round =>
   clear H'
   try clear p2
   try clear c3
   try clear c5
   try clear c5b0
   try clear c5b1
   obtain ⟨x10_1, rfl, HA, HK1, HO_8, HB⟩ := hrel
   cases gk with
   | zero => exact absurd HA.out (by simp [mummerref08_Has.l0])
   | succ k1 =>
    have H := HA.out
    clear HA
    simp only [mummerref08_Has.l0] at H
    by_cases c7 : x10_1 < (t505.length : Int)
    ·rw [if_pos c7] at H
     have c7b0 : decide (x10_1 < (t505.length : Int)) = true := decide_eq_true c7
     clear c7
     by_cases c8 : 0 ≤ x10_1
     ·rw [if_pos c8] at H
      have c8b0 : decide (0 ≤ x10_1) = true := decide_eq_true c8
      clear c8
      by_cases c9 : 0 ≤ (rd t505 x10_1)
      ·rw [if_pos c9] at H
       have c9b0 : decide (0 ≤ (rd t505 x10_1)) = true := decide_eq_true c9
       clear c9
       by_cases c10 : (rd t505 x10_1) < (l0.length : Int)
       ·rw [if_pos c10] at H
        have c10b0 : decide ((rd t505 x10_1) < (l0.length : Int)) = true := decide_eq_true c10
        clear c10
        by_cases c11 : ((rd_T41 l0 (rd t505 x10_1)).f0) = a2
        ·rw [if_pos c11] at H
         have c11b0 : (((rd_T41 l0 (rd t505 x10_1)).f0) == a2) = true := beq_iff_eq.mpr c11
         have c11b1 : (((rd_T41 l0 (rd t505 x10_1)).f0) != a2) = false := bne_eq_false_iff_eq.mpr c11
         clear c11
         simp only [Option.some.injEq, Prod.mk.injEq] at H
         obtain ⟨rfl, rfl⟩ := H
         obtain ⟨Ao12, co12, eo12⟩ := Kd.R_slice HO_8.out
         subst eo12
         have p509 : 0 ≤ (x10_1 : Int) := of_decide_eq_true (by first | (with_reducible assumption) | assumption)
         have q509 : x10_1 < (t505.length : Int) := of_decide_eq_true (by first | (with_reducible assumption) | assumption)
         obtain ⟨ad509, e509, hx509_0⟩ := Kd.at_int (Kd.R_reads' HO_8.out).2.2 x10_1 p509 q509
         cases e509
         replace p509 := eq_true p509
         replace q509 := eq_true q509
         have p510 : 0 ≤ ((rd t505 x10_1) : Int) := of_decide_eq_true (by first | (with_reducible assumption) | assumption)
         have q510 : (rd t505 x10_1) < (l0.length : Int) := of_decide_eq_true (by first | (with_reducible assumption) | assumption)
         obtain ⟨ad510, e510, hx510_0, hx510_1, hx510_2, hx510_3, hx510_4, hx510_5⟩ := at_T41 HR0.out (rd t505 x10_1) p510 q510
         cases e510
         replace hx510_0 := (HB.out.cell (World.block_lt_of_cell? w _ hx510_0)).trans hx510_0
         replace hx510_1 := (HB.out.cell (World.block_lt_of_cell? w _ hx510_1)).trans hx510_1
         replace hx510_2 := (HB.out.cell (World.block_lt_of_cell? w _ hx510_2)).trans hx510_2
         replace hx510_3 := (HB.out.cell (World.block_lt_of_cell? w _ hx510_3)).trans hx510_3
         replace hx510_4 := (HB.out.cell (World.block_lt_of_cell? w _ hx510_4)).trans hx510_4
         replace hx510_5 := (HB.out.cell (World.block_lt_of_cell? w _ hx510_5)).trans hx510_5
         replace p510 := eq_true p510
         replace q510 := eq_true q510
         go_wp2
         go_ret2
         exact ⟨by first | rfl | (simp [errW_none, errW_some] <;> rfl) | (simp [*, errW_none, errW_some] <;> rfl), by repeat (first | (with_reducible first | exact HB.out | apply wA | apply wN | apply wD) | exact HB.out)⟩
        ·rw [if_neg c11] at H
         have c11b0 : (((rd_T41 l0 (rd t505 x10_1)).f0) == a2) = false := beq_eq_false_iff_ne.mpr c11
         have c11b1 : (((rd_T41 l0 (rd t505 x10_1)).f0) != a2) = true := bne_iff_ne.mpr c11
         have H' := ak H
         clear H
         obtain ⟨Ao13, co13, eo13⟩ := Kd.R_slice HO_8.out
         subst eo13
         have p509 : 0 ≤ (x10_1 : Int) := of_decide_eq_true (by first | (with_reducible assumption) | assumption)
         have q509 : x10_1 < (t505.length : Int) := of_decide_eq_true (by first | (with_reducible assumption) | assumption)
         obtain ⟨ad509, e509, hx509_0⟩ := Kd.at_int (Kd.R_reads' HO_8.out).2.2 x10_1 p509 q509
         cases e509
         replace p509 := eq_true p509
         replace q509 := eq_true q509
         have p510 : 0 ≤ ((rd t505 x10_1) : Int) := of_decide_eq_true (by first | (with_reducible assumption) | assumption)
         have q510 : (rd t505 x10_1) < (l0.length : Int) := of_decide_eq_true (by first | (with_reducible assumption) | assumption)
         obtain ⟨ad510, e510, hx510_0, hx510_1, hx510_2, hx510_3, hx510_4, hx510_5⟩ := at_T41 HR0.out (rd t505 x10_1) p510 q510
         cases e510
         replace hx510_0 := (HB.out.cell (World.block_lt_of_cell? w _ hx510_0)).trans hx510_0
         replace hx510_1 := (HB.out.cell (World.block_lt_of_cell? w _ hx510_1)).trans hx510_1
         replace hx510_2 := (HB.out.cell (World.block_lt_of_cell? w _ hx510_2)).trans hx510_2
         replace hx510_3 := (HB.out.cell (World.block_lt_of_cell? w _ hx510_3)).trans hx510_3
         replace hx510_4 := (HB.out.cell (World.block_lt_of_cell? w _ hx510_4)).trans hx510_4
         replace hx510_5 := (HB.out.cell (World.block_lt_of_cell? w _ hx510_5)).trans hx510_5
         replace p510 := eq_true p510
         replace q510 := eq_true q510
         go_wp2
         go_roundg k1
         case measure => have := HK1.out; omega
         case rel => exact ⟨(wrap64 (x10_1 + 1)), (by first | rfl | (simp; done) | (simp [*]; done)), H', ⟨by have := HK1.out; omega⟩, ⟨by (with_reducible repeat (first | apply Kd.R_alloc | apply Kd.R_drewN | apply Kd.R_drew)); exact HO_8.out⟩, ⟨by repeat (first | (with_reducible first | exact HB.out | apply wA | apply wN | apply wD) | exact HB.out)⟩⟩
       ·rw [if_neg c10] at H
        exact absurd H (by simp)
      ·rw [if_neg c9] at H
       exact absurd H (by simp)
     ·rw [if_neg c8] at H
      exact absurd H (by simp)
    ·rw [if_neg c7] at H
     have c7b0 : decide (x10_1 < (t505.length : Int)) = false := decide_eq_false c7
     clear c7
     simp only [Option.some.injEq, Prod.mk.injEq] at H
     obtain ⟨rfl, rfl⟩ := H
     obtain ⟨Ao14, co14, eo14⟩ := Kd.R_slice HO_8.out
     subst eo14
     go_wp2
     go_ret2
     exact ⟨by first | rfl | (simp [errW_none, errW_some] <;> rfl) | (simp [*, errW_none, errW_some] <;> rfl), by repeat (first | (with_reducible first | exact HB.out | apply wA | apply wN | apply wD) | exact HB.out)⟩
 ·rw [if_neg c5] at H
  have c5b0 : (t506 == 0) = false := beq_eq_false_iff_ne.mpr c5
  have c5b1 : (t506 != 0) = true := bne_iff_ne.mpr c5
  simp only [Option.some.injEq, Prod.mk.injEq] at H
  obtain ⟨rfl, rfl⟩ := H
  go_enter Tryz.func38, Tryz.ntmps38
  go_wp2_with (first | ((with_reducible refine gate_callee (f := 33) rfl ?_); refine goesL_ (some 14) rfl rfl Tryz.func33 (by kernel_rfl) rfl #[.slice A0 l0.length c0, .int .i64 a1] rfl (by (try simp only [List.map_toArray, List.map_cons, List.map_nil]); first | done | rfl | (simp only [List.length_drop, List.length_take]; rfl)) ?_; (with_reducible refine (mummerref08_Chain.calls k _ _ l0 a1 t505 t506 _ ?side1 ?side2 A4.out).mono ?_); (case side1 => repeat (first | exact HR0.out | (with_reducible refine Kd.C_alloc ?_ _) | (with_reducible refine Kd.C_drewN ?_ _) | (with_reducible refine Kd.C_drew ?_))); (case side2 => exact HC0.out); rintro e w15 ⟨v507, rfl, ho0, hb⟩; refine ⟨_, rfl, ?_⟩; have n0_ := ak (Kd.R_lower ho0 (below_size (by repeat (first | (with_reducible first | exact HB.out | apply wA | apply wN | apply wD) | exact HB.out)))); have n1_ := ak (below_step (by repeat (first | (with_reducible first | exact HB.out | apply wA | apply wN | apply wD) | exact HB.out)) hb); clear HB; have HO508 := n0_; have HB := n1_; clear n0_ n1_; (try clear hb); (try clear hb2); (try clear hk); (try clear hi); (try clear ho0)))
  go_ret2
  exact ⟨by first | rfl | (simp [errW_none, errW_some] <;> rfl) | (simp [*, errW_none, errW_some] <;> rfl), by repeat (first | (with_reducible first | exact HB.out | apply wA | apply wN | apply wD) | exact HB.out)⟩
end Go.Proofs.YtdjkdlbokepoaaaGreatDoor.P
namespace Go.Proofs.YtdjkdlbokepoaaaGreatDoor.P
open Go.RowKit YtdjkdlbokepoaaaGreatDoorW.PrintWords YtdjkdlbokepoaaaGreatDoorW.PrintLast YtdjkdlbokepoaaaGreatDoorW.PrintMore
attribute [local go_sem] max2_int min2_int max_two min_two max_three min_three max_four min_four
set_option linter.unusedVariables false
set_option linter.unusedSimpArgs false
def faults_First.f (k : Nat) (l0 : List S41) (a1 : Int) : Option (Int × Int) := (faults_Check.f k 8000 l0).bind fun c => if c.2 = 0 then (if l0.length ≤ 1000 then (if firstIx l0 a1 < 0 then some (0, 4) else some (firstIx l0 a1, 0)) else none) else some (0, c.2)
set_option maxHeartbeats 4000000 in
set_option maxRecDepth 100000 in
theorem faults_First.calls (k : Nat) (A0 : Option Addr) (c0 : Nat) (l0 : List S41) (a1 : Int) (r1 : Int) (r2 : Int) (w : World) (hr0 : Kd.C k41 w A0 l0.length l0) (hc0 : l0.length ≤ c0) (h : faults_First.f k l0 a1 = some (r1, r2)) (HT : Aside0 (Ft.All w)) :
  Calls Tryz.prog 39 #[.slice A0 l0.length c0, .int .i64 a1] w fun e w' => e = .returned (.tuple #[.int .i64 r1, .int .i64 r2]) ∧ Below w.heap.size w w' := by
 unfold faults_First.f at h
 obtain ⟨⟨z1, z2⟩, hk, h⟩ := Option.bind_eq_some_iff.mp h
 have HK := ak hk
 have HR := ak hr0
 have HB0 : Aside0 (∀ o, Below w.heap.size w (w.alloc o)) := ⟨fun o => (Below.refl _ w).alloc (Nat.le_refl _) o⟩
 have HG : Aside0 ((w.alloc (.cells #[.int .i64 a1] 25)).cell? ⟨w.heap.size, 0, none⟩ = some (.int .i64 a1)) := ⟨by rw [World.cell?_alloc_at _ _ _ _ rfl]; rfl⟩
 by_cases he : z2 = 0
 case neg =>
  rw [if_neg he] at h
  cases h
  have b1 : (z2 != 0) = true := bne_iff_ne.mpr he
  have b2 : (z2 == 0) = false := beq_eq_false_iff_ne.mpr he
  clear hk hr0
  go_enter Tryz.func39, Tryz.ntmps39
  go_wp2_with (first
   | (go_at_call 13; refine ( faults_Check.calls k 8000 A0 c0 l0 z1 z2 _ (Kd.C_alloc HR.out _) hc0 HK.out ⟨HT.out.stay (HB0.out _)⟩).mono ?_; rintro e w1 ⟨rfl, hb1⟩))
  go_ret2
  exact ⟨rfl, (HB0.out _).trans (hb1.mono (HB0.out _).size)⟩
 subst he
 rw [if_pos rfl] at h
 by_cases hl : l0.length ≤ 1000
 case neg => rw [if_neg hl] at h; cases h
 rw [if_pos hl] at h
 have HI := ak (idx_calls l0 A0 c0 w.heap.size a1)
 generalize firstIx l0 a1 = ix at h HI
 have HL := ak hl
 clear hk hr0 hl
 by_cases hi : ix < 0
 ·rw [if_pos hi] at h
  cases h
  have b3 : decide (ix < 0) = true := decide_eq_true hi
  go_enter Tryz.func39, Tryz.ntmps39
  go_wp2_with (first
   | (go_at_call 13; refine ( faults_Check.calls k 8000 A0 c0 l0 z1 0 _ (Kd.C_alloc HR.out _) hc0 HK.out ⟨HT.out.stay (HB0.out _)⟩).mono ?_; rintro e w1 ⟨rfl, hb1⟩; have HB1 := ak hb1; clear hb1)
   | (go_at_call 73; refine (HI.out _ (Kd.C_below (Kd.C_alloc HR.out _) HB1.out) HL.out (Ft.cell_stay HG.out HB1.out)).mono ?_; rintro e w2 ⟨rfl, hb2⟩))
  go_ret2
  exact ⟨rfl, ((HB0.out _).trans (HB1.out.mono (HB0.out _).size)).trans (hb2.mono ((HB0.out _).trans (HB1.out.mono (HB0.out _).size)).size)⟩
 ·rw [if_neg hi] at h
  cases h
  have b3 : decide (r1 < 0) = false := decide_eq_false hi
  go_enter Tryz.func39, Tryz.ntmps39
  go_wp2_with (first
   | (go_at_call 13; refine ( faults_Check.calls k 8000 A0 c0 l0 z1 0 _ (Kd.C_alloc HR.out _) hc0 HK.out ⟨HT.out.stay (HB0.out _)⟩).mono ?_; rintro e w1 ⟨rfl, hb1⟩; have HB1 := ak hb1; clear hb1)
   | (go_at_call 73; refine (HI.out _ (Kd.C_below (Kd.C_alloc HR.out _) HB1.out) HL.out (Ft.cell_stay HG.out HB1.out)).mono ?_; rintro e w2 ⟨rfl, hb2⟩))
  go_ret2
  exact ⟨rfl, ((HB0.out _).trans (HB1.out.mono (HB0.out _).size)).trans (hb2.mono ((HB0.out _).trans (HB1.out.mono (HB0.out _).size)).size)⟩
end Go.Proofs.YtdjkdlbokepoaaaGreatDoor.P
namespace Go.Proofs.YtdjkdlbokepoaaaGreatDoor.P
open Go.RowKit YtdjkdlbokepoaaaGreatDoorW.PrintWords YtdjkdlbokepoaaaGreatDoorW.PrintLast YtdjkdlbokepoaaaGreatDoorW.PrintMore
attribute [local go_sem] max2_int min2_int max_two min_two max_three min_three max_four min_four
set_option linter.unusedVariables false
set_option linter.unusedSimpArgs false
def mummerref08_First.l0 : Nat → List (S41) → Int → Int → Option (Int × Int)
 | 0, _, _, _ => none
 | k + 1, x0, x1, x8 => if x8 < (x0.length : Int) then (if 0 ≤ x8 then (if ((rd_T41 x0 x8).f0) = x1 then (some (x8, 0)) else (mummerref08_First.l0 k x0 x1 (wrap64 (x8 + 1)))) else (none)) else (some (0, 4))
def mummerref08_First.f (k : Nat) (l0 : List (S41)) (a1 : Int) : Option (Int × Int) := (mummerref08_Check.f k 8000 l0).bind fun bt511 => (if bt511.2 = 0 then (mummerref08_First.l0 k l0 a1 0) else (some (0, bt511.2)))
set_option maxHeartbeats 8000000 in
set_option maxRecDepth 100000 in
theorem mummerref08_First.calls (k : Nat) (A0 : Option Addr) (c0 : Nat) (l0 : List (S41)) (a1 : Int) (r1 : Int) (r2 : Int) (w : World) (hr0 : Kd.C k41 w A0 l0.length l0) (hc0 : l0.length ≤ c0) (h : mummerref08_First.f k l0 a1 = some (r1, r2)) :
  Calls Tryz.prog 40 #[.slice A0 l0.length c0, .int .i64 a1] w fun e w' => e = .returned (.tuple #[.int .i64 r1, .int .i64 r2]) ∧ Below w.heap.size w w' := by
 have HR0 := ak hr0
 have HC0 := ak hc0
 clear hr0 hc0
 have HB := ak (Below.refl w.heap.size w)
 have H : ((mummerref08_Check.f k 8000 l0).bind fun bt511 => (if bt511.2 = 0 then (mummerref08_First.l0 k l0 a1 0) else (some (0, bt511.2)))) = some (r1, r2) := h
 clear h
 replace H := Option.bind_eq_some_iff.mp H
 obtain ⟨⟨t511, t512⟩, A30, H⟩ := H
 replace H : (if t512 = 0 then (mummerref08_First.l0 k l0 a1 0) else (some (0, t512))) = some (r1, r2) := H
 have A3 := ak A30
 clear A30
 by_cases c4 : t512 = 0
 ·rw [if_pos c4] at H
  have c4b0 : (t512 == 0) = true := beq_iff_eq.mpr c4
  have c4b1 : (t512 != 0) = false := bne_eq_false_iff_eq.mpr c4
  clear c4
  have H' := ak H
  clear H
  go_enter Tryz.func40, Tryz.ntmps40
  go_wp2_with (first | ((with_reducible refine gate_callee (f := 14) rfl ?_); refine goesL_ (some 11) rfl rfl Tryz.func14 (by kernel_rfl) rfl #[.int .i64 8000, .slice A0 l0.length c0] rfl (by (try simp only [List.map_toArray, List.map_cons, List.map_nil]); first | done | rfl | (simp only [List.length_drop, List.length_take]; rfl)) ?_; (with_reducible refine (mummerref08_Check.calls k 8000 _ _ l0 t511 t512 _ ?side1 ?side2 A3.out).mono ?_); (case side1 => repeat (first | exact HR0.out | (with_reducible refine Kd.C_alloc ?_ _) | (with_reducible refine Kd.C_drewN ?_ _) | (with_reducible refine Kd.C_drew ?_))); (case side2 => exact HC0.out); rintro e w5 ⟨rfl, hb⟩; refine ⟨_, rfl, ?_⟩; have n0_ := ak (below_step (by repeat (first | (with_reducible first | exact HB.out | apply wA | apply wN | apply wD) | exact HB.out)) hb); clear HB; have HB := n0_; clear n0_; (try clear hb); (try clear hb2); (try clear hk); (try clear hi)))
  go_loopg [8] k (fun kq v8 w' => ∃ (x8_1 : Int), v8 = .int .i64 x8_1 ∧ Aside0 (mummerref08_First.l0 kq l0 a1 x8_1 = some (r1, r2)) ∧ Aside0 (kq ≤ k) ∧ Aside0 (Below w.heap.size w w'))
  case atStart => exact ⟨(0), (by first | rfl | (simp; done) | (simp [*]; done)), H', ⟨Nat.le_refl _⟩, ⟨by repeat (first | (with_reducible first | exact HB.out | apply wA | apply wN | apply wD) | exact HB.out)⟩⟩
  case round =>
   clear H'
   try clear c1
   try clear p2
   try clear c4
   try clear c4b0
   try clear c4b1
   obtain ⟨x8_1, rfl, HA, HK1, HB⟩ := hrel
   cases gk with
   | zero => exact absurd HA.out (by simp [mummerref08_First.l0])
   | succ k1 =>
    have H := HA.out
    clear HA
    simp only [mummerref08_First.l0] at H
    by_cases c6 : x8_1 < (l0.length : Int)
    ·rw [if_pos c6] at H
     have c6b0 : decide (x8_1 < (l0.length : Int)) = true := decide_eq_true c6
     clear c6
     by_cases c7 : 0 ≤ x8_1
     ·rw [if_pos c7] at H
      have c7b0 : decide (0 ≤ x8_1) = true := decide_eq_true c7
      clear c7
      by_cases c8 : ((rd_T41 l0 x8_1).f0) = a1
      ·rw [if_pos c8] at H
       have c8b0 : (((rd_T41 l0 x8_1).f0) == a1) = true := beq_iff_eq.mpr c8
       have c8b1 : (((rd_T41 l0 x8_1).f0) != a1) = false := bne_eq_false_iff_eq.mpr c8
       clear c8
       simp only [Option.some.injEq, Prod.mk.injEq] at H
       obtain ⟨rfl, rfl⟩ := H
       have p513 : 0 ≤ (x8_1 : Int) := of_decide_eq_true (by first | (with_reducible assumption) | assumption)
       have q513 : x8_1 < (l0.length : Int) := of_decide_eq_true (by first | (with_reducible assumption) | assumption)
       obtain ⟨ad513, e513, hx513_0, hx513_1, hx513_2, hx513_3, hx513_4, hx513_5⟩ := at_T41 HR0.out x8_1 p513 q513
       cases e513
       replace hx513_0 := (HB.out.cell (World.block_lt_of_cell? w _ hx513_0)).trans hx513_0
       replace hx513_1 := (HB.out.cell (World.block_lt_of_cell? w _ hx513_1)).trans hx513_1
       replace hx513_2 := (HB.out.cell (World.block_lt_of_cell? w _ hx513_2)).trans hx513_2
       replace hx513_3 := (HB.out.cell (World.block_lt_of_cell? w _ hx513_3)).trans hx513_3
       replace hx513_4 := (HB.out.cell (World.block_lt_of_cell? w _ hx513_4)).trans hx513_4
       replace hx513_5 := (HB.out.cell (World.block_lt_of_cell? w _ hx513_5)).trans hx513_5
       replace p513 := eq_true p513
       replace q513 := eq_true q513
       go_wp2
       go_ret2
       exact ⟨by first | rfl | (simp [errW_none, errW_some] <;> rfl) | (simp [*, errW_none, errW_some] <;> rfl), by repeat (first | (with_reducible first | exact HB.out | apply wA | apply wN | apply wD) | exact HB.out)⟩
      ·rw [if_neg c8] at H
       have c8b0 : (((rd_T41 l0 x8_1).f0) == a1) = false := beq_eq_false_iff_ne.mpr c8
       have c8b1 : (((rd_T41 l0 x8_1).f0) != a1) = true := bne_iff_ne.mpr c8
       have H' := ak H
       clear H
       have p513 : 0 ≤ (x8_1 : Int) := of_decide_eq_true (by first | (with_reducible assumption) | assumption)
       have q513 : x8_1 < (l0.length : Int) := of_decide_eq_true (by first | (with_reducible assumption) | assumption)
       obtain ⟨ad513, e513, hx513_0, hx513_1, hx513_2, hx513_3, hx513_4, hx513_5⟩ := at_T41 HR0.out x8_1 p513 q513
       cases e513
       replace hx513_0 := (HB.out.cell (World.block_lt_of_cell? w _ hx513_0)).trans hx513_0
       replace hx513_1 := (HB.out.cell (World.block_lt_of_cell? w _ hx513_1)).trans hx513_1
       replace hx513_2 := (HB.out.cell (World.block_lt_of_cell? w _ hx513_2)).trans hx513_2
       replace hx513_3 := (HB.out.cell (World.block_lt_of_cell? w _ hx513_3)).trans hx513_3
       replace hx513_4 := (HB.out.cell (World.block_lt_of_cell? w _ hx513_4)).trans hx513_4
       replace hx513_5 := (HB.out.cell (World.block_lt_of_cell? w _ hx513_5)).trans hx513_5
       replace p513 := eq_true p513
       replace q513 := eq_true q513
       go_wp2
       go_roundg k1
       case measure => have := HK1.out; omega
       case rel => exact ⟨(wrap64 (x8_1 + 1)), (by first | rfl | (simp; done) | (simp [*]; done)), H', ⟨by have := HK1.out; omega⟩, ⟨by repeat (first | (with_reducible first | exact HB.out | apply wA | apply wN | apply wD) | exact HB.out)⟩⟩
     ·rw [if_neg c7] at H
      exact absurd H (by simp)
    ·rw [if_neg c6] at H
     have c6b0 : decide (x8_1 < (l0.length : Int)) = false := decide_eq_false c6
     clear c6
     simp only [Option.some.injEq, Prod.mk.injEq] at H
     obtain ⟨rfl, rfl⟩ := H
     go_wp2
     go_ret2
     exact ⟨by first | rfl | (simp [errW_none, errW_some] <;> rfl) | (simp [*, errW_none, errW_some] <;> rfl), by repeat (first | (with_reducible first | exact HB.out | apply wA | apply wN | apply wD) | exact HB.out)⟩
 ·rw [if_neg c4] at H
  have c4b0 : (t512 == 0) = false := beq_eq_false_iff_ne.mpr c4
  have c4b1 : (t512 != 0) = true := bne_iff_ne.mpr c4
  simp only [Option.some.injEq, Prod.mk.injEq] at H
  obtain ⟨rfl, rfl⟩ := H
  go_enter Tryz.func40, Tryz.ntmps40
  go_wp2_with (first | ((with_reducible refine gate_callee (f := 14) rfl ?_); refine goesL_ (some 11) rfl rfl Tryz.func14 (by kernel_rfl) rfl #[.int .i64 8000, .slice A0 l0.length c0] rfl (by (try simp only [List.map_toArray, List.map_cons, List.map_nil]); first | done | rfl | (simp only [List.length_drop, List.length_take]; rfl)) ?_; (with_reducible refine (mummerref08_Check.calls k 8000 _ _ l0 t511 t512 _ ?side1 ?side2 A3.out).mono ?_); (case side1 => repeat (first | exact HR0.out | (with_reducible refine Kd.C_alloc ?_ _) | (with_reducible refine Kd.C_drewN ?_ _) | (with_reducible refine Kd.C_drew ?_))); (case side2 => exact HC0.out); rintro e w9 ⟨rfl, hb⟩; refine ⟨_, rfl, ?_⟩; have n0_ := ak (below_step (by repeat (first | (with_reducible first | exact HB.out | apply wA | apply wN | apply wD) | exact HB.out)) hb); clear HB; have HB := n0_; clear n0_; (try clear hb); (try clear hb2); (try clear hk); (try clear hi)))
  go_ret2
  exact ⟨by first | rfl | (simp [errW_none, errW_some] <;> rfl) | (simp [*, errW_none, errW_some] <;> rfl), by repeat (first | (with_reducible first | exact HB.out | apply wA | apply wN | apply wD) | exact HB.out)⟩
end Go.Proofs.YtdjkdlbokepoaaaGreatDoor.P
namespace Go.Proofs.YtdjkdlbokepoaaaGreatDoor.P
open Go.RowKit YtdjkdlbokepoaaaGreatDoorW.PrintWords YtdjkdlbokepoaaaGreatDoorW.PrintLast YtdjkdlbokepoaaaGreatDoorW.PrintMore
attribute [local go_sem] max2_int min2_int max_two min_two max_three min_three max_four min_four
set_option linter.unusedVariables false
set_option linter.unusedSimpArgs false
def mummerlaw08_FaultsAsks.f (k : Nat) (l0 : List (S41)) (a1 : Int) (a2 : Int) : Option (Bool) := (mummerlaw08_far.f k l0).bind fun t514 => (if t514 = true then ((mummerlaw08_shown.f).bind fun t515 => (some t515)) else ((faults_Chain.f k l0 a1).bind fun bt516 => ((mummerref08_Chain.f k l0 a1).bind fun bt520 => ((mummerref04_Ints.f k bt516.1 bt520.1).bind fun t524 => (if t524 = true then (if bt516.2 = bt520.2 then ((faults_Roots.f k l0).bind fun bt525 => ((mummerref08_Roots.f k l0).bind fun bt529 => ((faults_Order.f k l0).bind fun bt533 => ((mummerref08_Order.f k l0).bind fun bt537 => ((mummerref04_Ints.f k bt525.1 bt529.1).bind fun t541 => (if t541 = true then (if bt525.2 = bt529.2 then ((mummerref04_Ints.f k bt533.1 bt537.1).bind fun t542 => (if t542 = true then (if bt533.2 = bt537.2 then ((faults_Has.f k l0 a1 a2).bind fun bt543 => ((mummerref08_Has.f k l0 a1 a2).bind fun bt545 => ((faults_First.f k l0 a2).bind fun bt547 => ((mummerref08_First.f k l0 a2).bind fun bt549 => (if (bt543.1 == bt545.1) = true then (if bt543.2 = bt545.2 then (if bt547.1 = bt549.1 then (if bt547.2 = bt549.2 then ((mummerlaw08_shown.f).bind fun t551 => (some t551)) else (some false)) else (some false)) else (some false)) else (some false)))))) else (some false)) else (some false))) else (some false)) else (some false))))))) else (some false)) else (some false))))))
set_option maxHeartbeats 8000000 in
set_option maxRecDepth 100000 in
theorem mummerlaw08_FaultsAsks.calls (k : Nat) (A0 : Option Addr) (c0 : Nat) (l0 : List (S41)) (a1 : Int) (a2 : Int) (r : Bool) (w : World) (hr0 : Kd.C k41 w A0 l0.length l0) (hc0 : l0.length ≤ c0) (hrt : Aside0 (r = true)) (h : mummerlaw08_FaultsAsks.f k l0 a1 a2 = some r) (HT : Aside0 (Ft.All w)) :
  Calls Tryz.prog 9 #[.slice A0 l0.length c0, .int .i64 a1, .int .i64 a2] w fun e w' => e = .returned (.bool r) ∧ Below w.heap.size w w' := by
 have HR0 := ak hr0
 have HC0 := ak hc0
 clear hr0 hc0
 have HB := ak (Below.refl w.heap.size w)
 have H : ((mummerlaw08_far.f k l0).bind fun t514 => (if t514 = true then ((mummerlaw08_shown.f).bind fun t515 => (some t515)) else ((faults_Chain.f k l0 a1).bind fun bt516 => ((mummerref08_Chain.f k l0 a1).bind fun bt520 => ((mummerref04_Ints.f k bt516.1 bt520.1).bind fun t524 => (if t524 = true then (if bt516.2 = bt520.2 then ((faults_Roots.f k l0).bind fun bt525 => ((mummerref08_Roots.f k l0).bind fun bt529 => ((faults_Order.f k l0).bind fun bt533 => ((mummerref08_Order.f k l0).bind fun bt537 => ((mummerref04_Ints.f k bt525.1 bt529.1).bind fun t541 => (if t541 = true then (if bt525.2 = bt529.2 then ((mummerref04_Ints.f k bt533.1 bt537.1).bind fun t542 => (if t542 = true then (if bt533.2 = bt537.2 then ((faults_Has.f k l0 a1 a2).bind fun bt543 => ((mummerref08_Has.f k l0 a1 a2).bind fun bt545 => ((faults_First.f k l0 a2).bind fun bt547 => ((mummerref08_First.f k l0 a2).bind fun bt549 => (if (bt543.1 == bt545.1) = true then (if bt543.2 = bt545.2 then (if bt547.1 = bt549.1 then (if bt547.2 = bt549.2 then ((mummerlaw08_shown.f).bind fun t551 => (some t551)) else (some false)) else (some false)) else (some false)) else (some false)))))) else (some false)) else (some false))) else (some false)) else (some false))))))) else (some false)) else (some false))))))) = some r := h
 clear h
 replace H := Option.bind_eq_some_iff.mp H
 obtain ⟨t514, A40, H⟩ := H
 try dsimp only at H
 have A4 := ak A40
 clear A40
 by_cases c5 : t514 = true
 ·subst c5
  have H1 : ((mummerlaw08_shown.f).bind fun t515 => (some t515)) = some r := by rw [if_pos rfl] at H; exact H
  clear H
  have H := H1
  clear H1
  replace H := Option.bind_eq_some_iff.mp H
  obtain ⟨t515, A60, H⟩ := H
  replace H : (some t515) = some r := H
  have A6 := ak A60
  clear A60
  obtain rfl := Option.some.inj H
  go_enter Tryz.func9, Tryz.ntmps9
  go_wp2_with (first | ((with_reducible refine gate_callee (f := 11) rfl ?_); refine goesL_ (some 20) rfl rfl Tryz.func11 (by kernel_rfl) rfl #[.slice A0 l0.length c0] rfl (by (try simp only [List.map_toArray, List.map_cons, List.map_nil]); first | done | rfl | (simp only [List.length_drop, List.length_take]; rfl)) ?_; (with_reducible refine (mummerlaw08_far.calls k _ _ l0 true _ ?side1 ?side2 A4.out).mono ?_); (case side1 => repeat (first | exact HR0.out | (with_reducible refine Kd.C_alloc ?_ _) | (with_reducible refine Kd.C_drewN ?_ _) | (with_reducible refine Kd.C_drew ?_))); (case side2 => exact HC0.out); rintro e w' ⟨rfl, ⟨nd, rfl⟩⟩; refine ⟨_, rfl, ?_⟩) | ((with_reducible refine gate_callee (f := 12) rfl ?_); refine goesL_ (some 21) rfl rfl Tryz.func12 (by kernel_rfl) rfl #[] rfl (by (try simp only [List.map_toArray, List.map_cons, List.map_nil]); first | done | rfl | (simp only [List.length_drop, List.length_take]; rfl)) ?_; (with_reducible refine (mummerlaw08_shown.calls  t515 _ hrt A6.out ⟨Ft.All.stay HT.out (by repeat (first | (with_reducible first | exact HB.out | apply wA | apply wN | apply wD) | exact HB.out | (refine below_set ?_ (by assumption)) | (refine below_set ?_ (Aside0.out (by assumption)))))⟩).mono ?_); rintro e w7 ⟨rfl, hb⟩; refine ⟨_, rfl, ?_⟩; have n0_ := ak (below_step (by repeat (first | (with_reducible first | exact HB.out | apply wA | apply wN | apply wD) | exact HB.out)) hb); clear HB; have HB := n0_; clear n0_; (try clear hb); (try clear hb2); (try clear hk); (try clear hi)))
  go_ret
  exact ⟨by first | rfl | (simp [errW_none, errW_some] <;> rfl) | (simp [*, errW_none, errW_some] <;> rfl), by repeat (first | (with_reducible first | exact HB.out | apply wA | apply wN | apply wD) | exact HB.out)⟩
 ·replace c5 := Bool.eq_false_iff.mpr c5
  subst c5
  have H1 : ((faults_Chain.f k l0 a1).bind fun bt516 => ((mummerref08_Chain.f k l0 a1).bind fun bt520 => ((mummerref04_Ints.f k bt516.1 bt520.1).bind fun t524 => (if t524 = true then (if bt516.2 = bt520.2 then ((faults_Roots.f k l0).bind fun bt525 => ((mummerref08_Roots.f k l0).bind fun bt529 => ((faults_Order.f k l0).bind fun bt533 => ((mummerref08_Order.f k l0).bind fun bt537 => ((mummerref04_Ints.f k bt525.1 bt529.1).bind fun t541 => (if t541 = true then (if bt525.2 = bt529.2 then ((mummerref04_Ints.f k bt533.1 bt537.1).bind fun t542 => (if t542 = true then (if bt533.2 = bt537.2 then ((faults_Has.f k l0 a1 a2).bind fun bt543 => ((mummerref08_Has.f k l0 a1 a2).bind fun bt545 => ((faults_First.f k l0 a2).bind fun bt547 => ((mummerref08_First.f k l0 a2).bind fun bt549 => (if (bt543.1 == bt545.1) = true then (if bt543.2 = bt545.2 then (if bt547.1 = bt549.1 then (if bt547.2 = bt549.2 then ((mummerlaw08_shown.f).bind fun t551 => (some t551)) else (some false)) else (some false)) else (some false)) else (some false)))))) else (some false)) else (some false))) else (some false)) else (some false))))))) else (some false)) else (some false))))) = some r := by rw [if_neg (show ¬ (false = true) by decide)] at H; exact H
  clear H
  have H := H1
  clear H1
  replace H := Option.bind_eq_some_iff.mp H
  obtain ⟨⟨t516, t517⟩, A80, H⟩ := H
  try dsimp only at H
  have A8 := ak A80
  clear A80
  replace H := Option.bind_eq_some_iff.mp H
  obtain ⟨⟨t520, t521⟩, A90, H⟩ := H
  try dsimp only at H
  have A9 := ak A90
  clear A90
  replace H := Option.bind_eq_some_iff.mp H
  obtain ⟨t524, A100, H⟩ := H
  try dsimp only at H
  have A10 := ak A100
  clear A100
  by_cases c11 : t524 = true
  ·subst c11
   have H1 : (if t517 = t521 then ((faults_Roots.f k l0).bind fun bt525 => ((mummerref08_Roots.f k l0).bind fun bt529 => ((faults_Order.f k l0).bind fun bt533 => ((mummerref08_Order.f k l0).bind fun bt537 => ((mummerref04_Ints.f k bt525.1 bt529.1).bind fun t541 => (if t541 = true then (if bt525.2 = bt529.2 then ((mummerref04_Ints.f k bt533.1 bt537.1).bind fun t542 => (if t542 = true then (if bt533.2 = bt537.2 then ((faults_Has.f k l0 a1 a2).bind fun bt543 => ((mummerref08_Has.f k l0 a1 a2).bind fun bt545 => ((faults_First.f k l0 a2).bind fun bt547 => ((mummerref08_First.f k l0 a2).bind fun bt549 => (if (bt543.1 == bt545.1) = true then (if bt543.2 = bt545.2 then (if bt547.1 = bt549.1 then (if bt547.2 = bt549.2 then ((mummerlaw08_shown.f).bind fun t551 => (some t551)) else (some false)) else (some false)) else (some false)) else (some false)))))) else (some false)) else (some false))) else (some false)) else (some false))))))) else (some false)) = some r := by rw [if_pos rfl] at H; exact H
   clear H
   have H := H1
   clear H1
   by_cases c12 : t517 = t521
   ·rw [if_pos c12] at H
    have c12b0 : (t517 == t521) = true := beq_iff_eq.mpr c12
    have c12b1 : (t517 != t521) = false := bne_eq_false_iff_eq.mpr c12
    clear c12
    replace H := Option.bind_eq_some_iff.mp H
    obtain ⟨⟨t525, t526⟩, A130, H⟩ := H
    try dsimp only at H
    have A13 := ak A130
    clear A130
    replace H := Option.bind_eq_some_iff.mp H
    obtain ⟨⟨t529, t530⟩, A140, H⟩ := H
    try dsimp only at H
    have A14 := ak A140
    clear A140
    replace H := Option.bind_eq_some_iff.mp H
    obtain ⟨⟨t533, t534⟩, A150, H⟩ := H
    try dsimp only at H
    have A15 := ak A150
    clear A150
    replace H := Option.bind_eq_some_iff.mp H
    obtain ⟨⟨t537, t538⟩, A160, H⟩ := H
    try dsimp only at H
    have A16 := ak A160
    clear A160
    replace H := Option.bind_eq_some_iff.mp H
    obtain ⟨t541, A170, H⟩ := H
    try dsimp only at H
    have A17 := ak A170
    clear A170
    by_cases c18 : t541 = true
    ·subst c18
     have H1 : (if t526 = t530 then ((mummerref04_Ints.f k t533 t537).bind fun t542 => (if t542 = true then (if t534 = t538 then ((faults_Has.f k l0 a1 a2).bind fun bt543 => ((mummerref08_Has.f k l0 a1 a2).bind fun bt545 => ((faults_First.f k l0 a2).bind fun bt547 => ((mummerref08_First.f k l0 a2).bind fun bt549 => (if (bt543.1 == bt545.1) = true then (if bt543.2 = bt545.2 then (if bt547.1 = bt549.1 then (if bt547.2 = bt549.2 then ((mummerlaw08_shown.f).bind fun t551 => (some t551)) else (some false)) else (some false)) else (some false)) else (some false)))))) else (some false)) else (some false))) else (some false)) = some r := by rw [if_pos rfl] at H; exact H
     clear H
     have H := H1
     clear H1
     by_cases c19 : t526 = t530
     ·rw [if_pos c19] at H
      have c19b0 : (t526 == t530) = true := beq_iff_eq.mpr c19
      have c19b1 : (t526 != t530) = false := bne_eq_false_iff_eq.mpr c19
      clear c19
      replace H := Option.bind_eq_some_iff.mp H
      obtain ⟨t542, A200, H⟩ := H
      try dsimp only at H
      have A20 := ak A200
      clear A200
      by_cases c21 : t542 = true
      ·subst c21
       have H1 : (if t534 = t538 then ((faults_Has.f k l0 a1 a2).bind fun bt543 => ((mummerref08_Has.f k l0 a1 a2).bind fun bt545 => ((faults_First.f k l0 a2).bind fun bt547 => ((mummerref08_First.f k l0 a2).bind fun bt549 => (if (bt543.1 == bt545.1) = true then (if bt543.2 = bt545.2 then (if bt547.1 = bt549.1 then (if bt547.2 = bt549.2 then ((mummerlaw08_shown.f).bind fun t551 => (some t551)) else (some false)) else (some false)) else (some false)) else (some false)))))) else (some false)) = some r := by rw [if_pos rfl] at H; exact H
       clear H
       have H := H1
       clear H1
       by_cases c22 : t534 = t538
       ·rw [if_pos c22] at H
        have c22b0 : (t534 == t538) = true := beq_iff_eq.mpr c22
        have c22b1 : (t534 != t538) = false := bne_eq_false_iff_eq.mpr c22
        clear c22
        replace H := Option.bind_eq_some_iff.mp H
        obtain ⟨⟨t543, t544⟩, A230, H⟩ := H
        try dsimp only at H
        have A23 := ak A230
        clear A230
        replace H := Option.bind_eq_some_iff.mp H
        obtain ⟨⟨t545, t546⟩, A240, H⟩ := H
        try dsimp only at H
        have A24 := ak A240
        clear A240
        replace H := Option.bind_eq_some_iff.mp H
        obtain ⟨⟨t547, t548⟩, A250, H⟩ := H
        try dsimp only at H
        have A25 := ak A250
        clear A250
        replace H := Option.bind_eq_some_iff.mp H
        obtain ⟨⟨t549, t550⟩, A260, H⟩ := H
        try dsimp only at H
        have A26 := ak A260
        clear A260
        by_cases c27 : (t543 == t545) = true
        ·rw [if_pos c27] at H
         have c27b0 : (t543 == t545) = true := c27
         (try (have c27b1 : decide (t543 = t545) = true := by simpa using c27))
         (try (have c27b2 : (t543 == t545) = true := by simpa using c27))
         clear c27
         by_cases c28 : t544 = t546
         ·rw [if_pos c28] at H
          have c28b0 : (t544 == t546) = true := beq_iff_eq.mpr c28
          have c28b1 : (t544 != t546) = false := bne_eq_false_iff_eq.mpr c28
          clear c28
          by_cases c29 : t547 = t549
          ·rw [if_pos c29] at H
           have c29b0 : (t547 == t549) = true := beq_iff_eq.mpr c29
           have c29b1 : (t547 != t549) = false := bne_eq_false_iff_eq.mpr c29
           clear c29
           by_cases c30 : t548 = t550
           ·rw [if_pos c30] at H
            have c30b0 : (t548 == t550) = true := beq_iff_eq.mpr c30
            have c30b1 : (t548 != t550) = false := bne_eq_false_iff_eq.mpr c30
            clear c30
            replace H := Option.bind_eq_some_iff.mp H
            obtain ⟨t551, A310, H⟩ := H
            replace H : (some t551) = some r := H
            have A31 := ak A310
            clear A310
            obtain rfl := Option.some.inj H
            go_enter Tryz.func9, Tryz.ntmps9
            go_wp2_with (first | ((with_reducible refine gate_callee (f := 11) rfl ?_); refine goesL_ (some 20) rfl rfl Tryz.func11 (by kernel_rfl) rfl #[.slice A0 l0.length c0] rfl (by (try simp only [List.map_toArray, List.map_cons, List.map_nil]); first | done | rfl | (simp only [List.length_drop, List.length_take]; rfl)) ?_; (with_reducible refine (mummerlaw08_far.calls k _ _ l0 false _ ?side1 ?side2 A4.out).mono ?_); (case side1 => repeat (first | exact HR0.out | (with_reducible refine Kd.C_alloc ?_ _) | (with_reducible refine Kd.C_drewN ?_ _) | (with_reducible refine Kd.C_drew ?_))); (case side2 => exact HC0.out); rintro e w' ⟨rfl, ⟨nd, rfl⟩⟩; refine ⟨_, rfl, ?_⟩) | ((with_reducible refine gate_callee (f := 26) rfl ?_); refine goesL_ (some 25) rfl rfl Tryz.func26 (by kernel_rfl) rfl #[.slice A0 l0.length c0, .int .i64 a1] rfl (by (try simp only [List.map_toArray, List.map_cons, List.map_nil]); first | done | rfl | (simp only [List.length_drop, List.length_take]; rfl)) ?_; (with_reducible refine (faults_Chain.calls k _ _ l0 a1 t516 t517 _ ?side1 ?side2 A8.out ⟨Ft.All.stay HT.out (by repeat (first | (with_reducible first | exact HB.out | apply wA | apply wN | apply wD) | exact HB.out | (refine below_set ?_ (by assumption)) | (refine below_set ?_ (Aside0.out (by assumption)))))⟩).mono ?_); (case side1 => repeat (first | exact HR0.out | (with_reducible refine Kd.C_alloc ?_ _) | (with_reducible refine Kd.C_drewN ?_ _) | (with_reducible refine Kd.C_drew ?_))); (case side2 => exact HC0.out); rintro e w32 ⟨v518, rfl, ho0, hb⟩; refine ⟨_, rfl, ?_⟩; have n0_ := ak (Kd.R_lower ho0 (below_size (by repeat (first | (with_reducible first | exact HB.out | apply wA | apply wN | apply wD) | exact HB.out)))); have n1_ := ak (below_step (by repeat (first | (with_reducible first | exact HB.out | apply wA | apply wN | apply wD) | exact HB.out)) hb); clear HB; have HO519 := n0_; have HB := n1_; clear n0_ n1_; (try clear hb); (try clear hb2); (try clear hk); (try clear hi); (try clear ho0)) | ((with_reducible refine gate_callee (f := 33) rfl ?_); refine goesL_ (some 31) rfl rfl Tryz.func33 (by kernel_rfl) rfl #[.slice A0 l0.length c0, .int .i64 a1] rfl (by (try simp only [List.map_toArray, List.map_cons, List.map_nil]); first | done | rfl | (simp only [List.length_drop, List.length_take]; rfl)) ?_; (with_reducible refine (mummerref08_Chain.calls k _ _ l0 a1 t520 t521 _ ?side1 ?side2 A9.out).mono ?_); (case side1 => repeat (first | exact (Kd.C_below HR0.out HB.out) | (with_reducible refine Kd.C_alloc ?_ _) | (with_reducible refine Kd.C_drewN ?_ _) | (with_reducible refine Kd.C_drew ?_))); (case side2 => exact HC0.out); rintro e w33 ⟨v522, rfl, ho0, hb⟩; refine ⟨_, rfl, ?_⟩; have n0_ := ak (Kd.R_elder' (by (with_reducible repeat (first | apply Kd.R_alloc | apply Kd.R_drewN | apply Kd.R_drew)); exact HO519.out) (Kd.R_base ho0) hb); have n1_ := ak (Kd.R_lower (Kd.R_new' ho0 (Kd.R_lt (by (with_reducible repeat (first | apply Kd.R_alloc | apply Kd.R_drewN | apply Kd.R_drew)); exact HO519.out))) (below_size (by repeat (first | (with_reducible first | exact HB.out | apply wA | apply wN | apply wD) | exact HB.out)))); have n2_ := ak (below_step (by repeat (first | (with_reducible first | exact HB.out | apply wA | apply wN | apply wD) | exact HB.out)) hb); clear HO519; clear HB; have HO519 := n0_; have HO523 := n1_; have HB := n2_; clear n0_ n1_ n2_; (try clear hb); (try clear hb2); (try clear hk); (try clear hi); (try clear ho0); obtain ⟨Ao34, co34, eo34⟩ := Kd.R_slice HO519.out; subst eo34; obtain ⟨Ao35, co35, eo35⟩ := Kd.R_slice HO523.out; subst eo35) | ((with_reducible refine gate_callee (f := 34) rfl ?_); refine goesL_ (some 36) rfl rfl Tryz.func34 (by kernel_rfl) rfl #[.slice Ao34 t516.length co34, .slice Ao35 t520.length co35] rfl (by (try simp only [List.map_toArray, List.map_cons, List.map_nil]); first | done | rfl | (simp only [List.length_drop, List.length_take]; rfl)) ?_; (with_reducible refine (mummerref04_Ints.calls k _ _ t516 _ _ t520 true _ ?side1 ?side2 ?side3 ?side4 A10.out).mono ?_); (case side1 => repeat (first | exact (Kd.R_reads' HO519.out).2.2 | (with_reducible refine Kd.C_alloc ?_ _) | (with_reducible refine Kd.C_drewN ?_ _) | (with_reducible refine Kd.C_drew ?_))); (case side2 => exact (Kd.R_reads' HO519.out).2.1); (case side3 => repeat (first | exact (Kd.R_reads' HO523.out).2.2 | (with_reducible refine Kd.C_alloc ?_ _) | (with_reducible refine Kd.C_drewN ?_ _) | (with_reducible refine Kd.C_drew ?_))); (case side4 => exact (Kd.R_reads' HO523.out).2.1); rintro e w' ⟨rfl, ⟨nd, rfl⟩⟩; refine ⟨_, rfl, ?_⟩) | ((with_reducible refine gate_callee (f := 31) rfl ?_); refine goesL_ (some 45) rfl rfl Tryz.func31 (by kernel_rfl) rfl #[.slice A0 l0.length c0] rfl (by (try simp only [List.map_toArray, List.map_cons, List.map_nil]); first | done | rfl | (simp only [List.length_drop, List.length_take]; rfl)) ?_; (with_reducible refine (faults_Roots.calls k _ _ l0 t525 t526 _ ?side1 ?side2 A13.out ⟨Ft.All.stay HT.out (by repeat (first | (with_reducible first | exact HB.out | apply wA | apply wN | apply wD) | exact HB.out | (refine below_set ?_ (by assumption)) | (refine below_set ?_ (Aside0.out (by assumption)))))⟩).mono ?_); (case side1 => repeat (first | exact (Kd.C_below HR0.out (by repeat (first | (with_reducible first | exact HB.out | apply wA | apply wN | apply wD) | exact HB.out))) | (with_reducible refine Kd.C_alloc ?_ _) | (with_reducible refine Kd.C_drewN ?_ _) | (with_reducible refine Kd.C_drew ?_))); (case side2 => exact HC0.out); rintro e w36 ⟨v527, rfl, ho0, hb⟩; refine ⟨_, rfl, ?_⟩; have n0_ := ak (Kd.R_elder' (by (with_reducible repeat (first | apply Kd.R_alloc | apply Kd.R_drewN | apply Kd.R_drew)); exact HO519.out) (Kd.R_base ho0) hb); have n1_ := ak (Kd.R_elder' (by (with_reducible repeat (first | apply Kd.R_alloc | apply Kd.R_drewN | apply Kd.R_drew)); exact HO523.out) (Kd.R_base ho0) hb); have n2_ := ak (Kd.R_lower (Kd.R_new' (Kd.R_new' ho0 (Kd.R_lt (by (with_reducible repeat (first | apply Kd.R_alloc | apply Kd.R_drewN | apply Kd.R_drew)); exact HO519.out))) (Kd.R_lt (by (with_reducible repeat (first | apply Kd.R_alloc | apply Kd.R_drewN | apply Kd.R_drew)); exact HO523.out))) (below_size (by repeat (first | (with_reducible first | exact HB.out | apply wA | apply wN | apply wD) | exact HB.out)))); have n3_ := ak (below_step (by repeat (first | (with_reducible first | exact HB.out | apply wA | apply wN | apply wD) | exact HB.out)) hb); clear HO519; clear HO523; clear HB; have HO519 := n0_; have HO523 := n1_; have HO528 := n2_; have HB := n3_; clear n0_ n1_ n2_ n3_; (try clear hb); (try clear hb2); (try clear hk); (try clear hi); (try clear ho0)) | ((with_reducible refine gate_callee (f := 35) rfl ?_); refine goesL_ (some 50) rfl rfl Tryz.func35 (by kernel_rfl) rfl #[.slice A0 l0.length c0] rfl (by (try simp only [List.map_toArray, List.map_cons, List.map_nil]); first | done | rfl | (simp only [List.length_drop, List.length_take]; rfl)) ?_; (with_reducible refine (mummerref08_Roots.calls k _ _ l0 t529 t530 _ ?side1 ?side2 A14.out).mono ?_); (case side1 => repeat (first | exact (Kd.C_below HR0.out HB.out) | (with_reducible refine Kd.C_alloc ?_ _) | (with_reducible refine Kd.C_drewN ?_ _) | (with_reducible refine Kd.C_drew ?_))); (case side2 => exact HC0.out); rintro e w37 ⟨v531, rfl, ho0, hb⟩; refine ⟨_, rfl, ?_⟩; have n0_ := ak (Kd.R_elder' (by (with_reducible repeat (first | apply Kd.R_alloc | apply Kd.R_drewN | apply Kd.R_drew)); exact HO519.out) (Kd.R_base ho0) hb); have n1_ := ak (Kd.R_elder' (by (with_reducible repeat (first | apply Kd.R_alloc | apply Kd.R_drewN | apply Kd.R_drew)); exact HO523.out) (Kd.R_base ho0) hb); have n2_ := ak (Kd.R_elder' (by (with_reducible repeat (first | apply Kd.R_alloc | apply Kd.R_drewN | apply Kd.R_drew)); exact HO528.out) (Kd.R_base ho0) hb); have n3_ := ak (Kd.R_lower (Kd.R_new' (Kd.R_new' (Kd.R_new' ho0 (Kd.R_lt (by (with_reducible repeat (first | apply Kd.R_alloc | apply Kd.R_drewN | apply Kd.R_drew)); exact HO519.out))) (Kd.R_lt (by (with_reducible repeat (first | apply Kd.R_alloc | apply Kd.R_drewN | apply Kd.R_drew)); exact HO523.out))) (Kd.R_lt (by (with_reducible repeat (first | apply Kd.R_alloc | apply Kd.R_drewN | apply Kd.R_drew)); exact HO528.out))) (below_size (by repeat (first | (with_reducible first | exact HB.out | apply wA | apply wN | apply wD) | exact HB.out)))); have n4_ := ak (below_step (by repeat (first | (with_reducible first | exact HB.out | apply wA | apply wN | apply wD) | exact HB.out)) hb); clear HO519; clear HO523; clear HO528; clear HB; have HO519 := n0_; have HO523 := n1_; have HO528 := n2_; have HO532 := n3_; have HB := n4_; clear n0_ n1_ n2_ n3_ n4_; (try clear hb); (try clear hb2); (try clear hk); (try clear hi); (try clear ho0)) | ((with_reducible refine gate_callee (f := 36) rfl ?_); refine goesL_ (some 55) rfl rfl Tryz.func36 (by kernel_rfl) rfl #[.slice A0 l0.length c0] rfl (by (try simp only [List.map_toArray, List.map_cons, List.map_nil]); first | done | rfl | (simp only [List.length_drop, List.length_take]; rfl)) ?_; (with_reducible refine (faults_Order.calls k _ _ l0 t533 t534 _ ?side1 ?side2 A15.out ⟨Ft.All.stay HT.out (by repeat (first | (with_reducible first | exact HB.out | apply wA | apply wN | apply wD) | exact HB.out | (refine below_set ?_ (by assumption)) | (refine below_set ?_ (Aside0.out (by assumption)))))⟩).mono ?_); (case side1 => repeat (first | exact (Kd.C_below HR0.out HB.out) | (with_reducible refine Kd.C_alloc ?_ _) | (with_reducible refine Kd.C_drewN ?_ _) | (with_reducible refine Kd.C_drew ?_))); (case side2 => exact HC0.out); rintro e w38 ⟨v535, rfl, ho0, hb⟩; refine ⟨_, rfl, ?_⟩; have n0_ := ak (Kd.R_elder' (by (with_reducible repeat (first | apply Kd.R_alloc | apply Kd.R_drewN | apply Kd.R_drew)); exact HO519.out) (Kd.R_base ho0) hb); have n1_ := ak (Kd.R_elder' (by (with_reducible repeat (first | apply Kd.R_alloc | apply Kd.R_drewN | apply Kd.R_drew)); exact HO523.out) (Kd.R_base ho0) hb); have n2_ := ak (Kd.R_elder' (by (with_reducible repeat (first | apply Kd.R_alloc | apply Kd.R_drewN | apply Kd.R_drew)); exact HO528.out) (Kd.R_base ho0) hb); have n3_ := ak (Kd.R_elder' (by (with_reducible repeat (first | apply Kd.R_alloc | apply Kd.R_drewN | apply Kd.R_drew)); exact HO532.out) (Kd.R_base ho0) hb); have n4_ := ak (Kd.R_lower (Kd.R_new' (Kd.R_new' (Kd.R_new' (Kd.R_new' ho0 (Kd.R_lt (by (with_reducible repeat (first | apply Kd.R_alloc | apply Kd.R_drewN | apply Kd.R_drew)); exact HO519.out))) (Kd.R_lt (by (with_reducible repeat (first | apply Kd.R_alloc | apply Kd.R_drewN | apply Kd.R_drew)); exact HO523.out))) (Kd.R_lt (by (with_reducible repeat (first | apply Kd.R_alloc | apply Kd.R_drewN | apply Kd.R_drew)); exact HO528.out))) (Kd.R_lt (by (with_reducible repeat (first | apply Kd.R_alloc | apply Kd.R_drewN | apply Kd.R_drew)); exact HO532.out))) (below_size (by repeat (first | (with_reducible first | exact HB.out | apply wA | apply wN | apply wD) | exact HB.out)))); have n5_ := ak (below_step (by repeat (first | (with_reducible first | exact HB.out | apply wA | apply wN | apply wD) | exact HB.out)) hb); clear HO519; clear HO523; clear HO528; clear HO532; clear HB; have HO519 := n0_; have HO523 := n1_; have HO528 := n2_; have HO532 := n3_; have HO536 := n4_; have HB := n5_; clear n0_ n1_ n2_ n3_ n4_ n5_; (try clear hb); (try clear hb2); (try clear hk); (try clear hi); (try clear ho0)) | ((with_reducible refine gate_callee (f := 37) rfl ?_); refine goesL_ (some 60) rfl rfl Tryz.func37 (by kernel_rfl) rfl #[.slice A0 l0.length c0] rfl (by (try simp only [List.map_toArray, List.map_cons, List.map_nil]); first | done | rfl | (simp only [List.length_drop, List.length_take]; rfl)) ?_; (with_reducible refine (mummerref08_Order.calls k _ _ l0 t537 t538 _ ?side1 ?side2 A16.out).mono ?_); (case side1 => repeat (first | exact (Kd.C_below HR0.out HB.out) | (with_reducible refine Kd.C_alloc ?_ _) | (with_reducible refine Kd.C_drewN ?_ _) | (with_reducible refine Kd.C_drew ?_))); (case side2 => exact HC0.out); rintro e w39 ⟨v539, rfl, ho0, hb⟩; refine ⟨_, rfl, ?_⟩; have n0_ := ak (Kd.R_elder' (by (with_reducible repeat (first | apply Kd.R_alloc | apply Kd.R_drewN | apply Kd.R_drew)); exact HO519.out) (Kd.R_base ho0) hb); have n1_ := ak (Kd.R_elder' (by (with_reducible repeat (first | apply Kd.R_alloc | apply Kd.R_drewN | apply Kd.R_drew)); exact HO523.out) (Kd.R_base ho0) hb); have n2_ := ak (Kd.R_elder' (by (with_reducible repeat (first | apply Kd.R_alloc | apply Kd.R_drewN | apply Kd.R_drew)); exact HO528.out) (Kd.R_base ho0) hb); have n3_ := ak (Kd.R_elder' (by (with_reducible repeat (first | apply Kd.R_alloc | apply Kd.R_drewN | apply Kd.R_drew)); exact HO532.out) (Kd.R_base ho0) hb); have n4_ := ak (Kd.R_elder' (by (with_reducible repeat (first | apply Kd.R_alloc | apply Kd.R_drewN | apply Kd.R_drew)); exact HO536.out) (Kd.R_base ho0) hb); have n5_ := ak (Kd.R_lower (Kd.R_new' (Kd.R_new' (Kd.R_new' (Kd.R_new' (Kd.R_new' ho0 (Kd.R_lt (by (with_reducible repeat (first | apply Kd.R_alloc | apply Kd.R_drewN | apply Kd.R_drew)); exact HO519.out))) (Kd.R_lt (by (with_reducible repeat (first | apply Kd.R_alloc | apply Kd.R_drewN | apply Kd.R_drew)); exact HO523.out))) (Kd.R_lt (by (with_reducible repeat (first | apply Kd.R_alloc | apply Kd.R_drewN | apply Kd.R_drew)); exact HO528.out))) (Kd.R_lt (by (with_reducible repeat (first | apply Kd.R_alloc | apply Kd.R_drewN | apply Kd.R_drew)); exact HO532.out))) (Kd.R_lt (by (with_reducible repeat (first | apply Kd.R_alloc | apply Kd.R_drewN | apply Kd.R_drew)); exact HO536.out))) (below_size (by repeat (first | (with_reducible first | exact HB.out | apply wA | apply wN | apply wD) | exact HB.out)))); have n6_ := ak (below_step (by repeat (first | (with_reducible first | exact HB.out | apply wA | apply wN | apply wD) | exact HB.out)) hb); clear HO519; clear HO523; clear HO528; clear HO532; clear HO536; clear HB; have HO519 := n0_; have HO523 := n1_; have HO528 := n2_; have HO532 := n3_; have HO536 := n4_; have HO540 := n5_; have HB := n6_; clear n0_ n1_ n2_ n3_ n4_ n5_ n6_; (try clear hb); (try clear hb2); (try clear hk); (try clear hi); (try clear ho0); obtain ⟨Ao40, co40, eo40⟩ := Kd.R_slice HO528.out; subst eo40; obtain ⟨Ao41, co41, eo41⟩ := Kd.R_slice HO532.out; subst eo41) | ((with_reducible refine gate_callee (f := 34) rfl ?_); refine goesL_ (some 65) rfl rfl Tryz.func34 (by kernel_rfl) rfl #[.slice Ao40 t525.length co40, .slice Ao41 t529.length co41] rfl (by (try simp only [List.map_toArray, List.map_cons, List.map_nil]); first | done | rfl | (simp only [List.length_drop, List.length_take]; rfl)) ?_; (with_reducible refine (mummerref04_Ints.calls k _ _ t525 _ _ t529 true _ ?side1 ?side2 ?side3 ?side4 A17.out).mono ?_); (case side1 => repeat (first | exact (Kd.R_reads' HO528.out).2.2 | (with_reducible refine Kd.C_alloc ?_ _) | (with_reducible refine Kd.C_drewN ?_ _) | (with_reducible refine Kd.C_drew ?_))); (case side2 => exact (Kd.R_reads' HO528.out).2.1); (case side3 => repeat (first | exact (Kd.R_reads' HO532.out).2.2 | (with_reducible refine Kd.C_alloc ?_ _) | (with_reducible refine Kd.C_drewN ?_ _) | (with_reducible refine Kd.C_drew ?_))); (case side4 => exact (Kd.R_reads' HO532.out).2.1); rintro e w' ⟨rfl, ⟨nd, rfl⟩⟩; refine ⟨_, rfl, ?_⟩; obtain ⟨Ao42, co42, eo42⟩ := Kd.R_slice HO536.out; subst eo42; obtain ⟨Ao43, co43, eo43⟩ := Kd.R_slice HO540.out; subst eo43) | (go_at_call 34; (with_reducible refine (mummerref04_Ints.calls k _ _ t533 _ _ t537 true _ ?side1 ?side2 ?side3 ?side4 A20.out).mono ?_); (case side1 => repeat (first | exact (Kd.R_reads' HO536.out).2.2 | (with_reducible refine Kd.C_alloc ?_ _) | (with_reducible refine Kd.C_drewN ?_ _) | (with_reducible refine Kd.C_drew ?_))); (case side2 => exact (Kd.R_reads' HO536.out).2.1); (case side3 => repeat (first | exact (Kd.R_reads' HO540.out).2.2 | (with_reducible refine Kd.C_alloc ?_ _) | (with_reducible refine Kd.C_drewN ?_ _) | (with_reducible refine Kd.C_drew ?_))); (case side4 => exact (Kd.R_reads' HO540.out).2.1); rintro e w' ⟨rfl, ⟨nd, rfl⟩⟩) | ((with_reducible refine gate_callee (f := 32) rfl ?_); refine goesL_ (some 87) rfl rfl Tryz.func32 (by kernel_rfl) rfl #[.slice A0 l0.length c0, .int .i64 a1, .int .i64 a2] rfl (by (try simp only [List.map_toArray, List.map_cons, List.map_nil]); first | done | rfl | (simp only [List.length_drop, List.length_take]; rfl)) ?_; (with_reducible refine (faults_Has.calls k _ _ l0 a1 a2 t543 t544 _ ?side1 ?side2 A23.out ⟨Ft.All.stay HT.out (by repeat (first | (with_reducible first | exact HB.out | apply wA | apply wN | apply wD) | exact HB.out | (refine below_set ?_ (by assumption)) | (refine below_set ?_ (Aside0.out (by assumption)))))⟩).mono ?_); (case side1 => repeat (first | exact (Kd.C_below HR0.out (by repeat (first | (with_reducible first | exact HB.out | apply wA | apply wN | apply wD) | exact HB.out))) | (with_reducible refine Kd.C_alloc ?_ _) | (with_reducible refine Kd.C_drewN ?_ _) | (with_reducible refine Kd.C_drew ?_))); (case side2 => exact HC0.out); rintro e w44 ⟨rfl, hb⟩; refine ⟨_, rfl, ?_⟩; have n0_ := ak (Kd.R_below (by (with_reducible repeat (first | apply Kd.R_alloc | apply Kd.R_drewN | apply Kd.R_drew)); exact HO519.out) hb); have n1_ := ak (Kd.R_below (by (with_reducible repeat (first | apply Kd.R_alloc | apply Kd.R_drewN | apply Kd.R_drew)); exact HO523.out) hb); have n2_ := ak (Kd.R_below (by (with_reducible repeat (first | apply Kd.R_alloc | apply Kd.R_drewN | apply Kd.R_drew)); exact HO528.out) hb); have n3_ := ak (Kd.R_below (by (with_reducible repeat (first | apply Kd.R_alloc | apply Kd.R_drewN | apply Kd.R_drew)); exact HO532.out) hb); have n4_ := ak (Kd.R_below (by (with_reducible repeat (first | apply Kd.R_alloc | apply Kd.R_drewN | apply Kd.R_drew)); exact HO536.out) hb); have n5_ := ak (Kd.R_below (by (with_reducible repeat (first | apply Kd.R_alloc | apply Kd.R_drewN | apply Kd.R_drew)); exact HO540.out) hb); have n6_ := ak (below_step (by repeat (first | (with_reducible first | exact HB.out | apply wA | apply wN | apply wD) | exact HB.out)) hb); clear HO519; clear HO523; clear HO528; clear HO532; clear HO536; clear HO540; clear HB; have HO519 := n0_; have HO523 := n1_; have HO528 := n2_; have HO532 := n3_; have HO536 := n4_; have HO540 := n5_; have HB := n6_; clear n0_ n1_ n2_ n3_ n4_ n5_ n6_; (try clear hb); (try clear hb2); (try clear hk); (try clear hi)) | ((with_reducible refine gate_callee (f := 38) rfl ?_); refine goesL_ (some 94) rfl rfl Tryz.func38 (by kernel_rfl) rfl #[.slice A0 l0.length c0, .int .i64 a1, .int .i64 a2] rfl (by (try simp only [List.map_toArray, List.map_cons, List.map_nil]); first | done | rfl | (simp only [List.length_drop, List.length_take]; rfl)) ?_; (with_reducible refine (mummerref08_Has.calls k _ _ l0 a1 a2 t545 t546 _ ?side1 ?side2 A24.out).mono ?_); (case side1 => repeat (first | exact (Kd.C_below HR0.out HB.out) | (with_reducible refine Kd.C_alloc ?_ _) | (with_reducible refine Kd.C_drewN ?_ _) | (with_reducible refine Kd.C_drew ?_))); (case side2 => exact HC0.out); rintro e w45 ⟨rfl, hb⟩; refine ⟨_, rfl, ?_⟩; have n0_ := ak (Kd.R_below (by (with_reducible repeat (first | apply Kd.R_alloc | apply Kd.R_drewN | apply Kd.R_drew)); exact HO519.out) hb); have n1_ := ak (Kd.R_below (by (with_reducible repeat (first | apply Kd.R_alloc | apply Kd.R_drewN | apply Kd.R_drew)); exact HO523.out) hb); have n2_ := ak (Kd.R_below (by (with_reducible repeat (first | apply Kd.R_alloc | apply Kd.R_drewN | apply Kd.R_drew)); exact HO528.out) hb); have n3_ := ak (Kd.R_below (by (with_reducible repeat (first | apply Kd.R_alloc | apply Kd.R_drewN | apply Kd.R_drew)); exact HO532.out) hb); have n4_ := ak (Kd.R_below (by (with_reducible repeat (first | apply Kd.R_alloc | apply Kd.R_drewN | apply Kd.R_drew)); exact HO536.out) hb); have n5_ := ak (Kd.R_below (by (with_reducible repeat (first | apply Kd.R_alloc | apply Kd.R_drewN | apply Kd.R_drew)); exact HO540.out) hb); have n6_ := ak (below_step (by repeat (first | (with_reducible first | exact HB.out | apply wA | apply wN | apply wD) | exact HB.out)) hb); clear HO519; clear HO523; clear HO528; clear HO532; clear HO536; clear HO540; clear HB; have HO519 := n0_; have HO523 := n1_; have HO528 := n2_; have HO532 := n3_; have HO536 := n4_; have HO540 := n5_; have HB := n6_; clear n0_ n1_ n2_ n3_ n4_ n5_ n6_; (try clear hb); (try clear hb2); (try clear hk); (try clear hi)) | ((with_reducible refine gate_callee (f := 39) rfl ?_); refine goesL_ (some 100) rfl rfl Tryz.func39 (by kernel_rfl) rfl #[.slice A0 l0.length c0, .int .i64 a2] rfl (by (try simp only [List.map_toArray, List.map_cons, List.map_nil]); first | done | rfl | (simp only [List.length_drop, List.length_take]; rfl)) ?_; (with_reducible refine (faults_First.calls k _ _ l0 a2 t547 t548 _ ?side1 ?side2 A25.out ⟨Ft.All.stay HT.out (by repeat (first | (with_reducible first | exact HB.out | apply wA | apply wN | apply wD) | exact HB.out | (refine below_set ?_ (by assumption)) | (refine below_set ?_ (Aside0.out (by assumption)))))⟩).mono ?_); (case side1 => repeat (first | exact (Kd.C_below HR0.out HB.out) | (with_reducible refine Kd.C_alloc ?_ _) | (with_reducible refine Kd.C_drewN ?_ _) | (with_reducible refine Kd.C_drew ?_))); (case side2 => exact HC0.out); rintro e w46 ⟨rfl, hb⟩; refine ⟨_, rfl, ?_⟩; have n0_ := ak (Kd.R_below (by (with_reducible repeat (first | apply Kd.R_alloc | apply Kd.R_drewN | apply Kd.R_drew)); exact HO519.out) hb); have n1_ := ak (Kd.R_below (by (with_reducible repeat (first | apply Kd.R_alloc | apply Kd.R_drewN | apply Kd.R_drew)); exact HO523.out) hb); have n2_ := ak (Kd.R_below (by (with_reducible repeat (first | apply Kd.R_alloc | apply Kd.R_drewN | apply Kd.R_drew)); exact HO528.out) hb); have n3_ := ak (Kd.R_below (by (with_reducible repeat (first | apply Kd.R_alloc | apply Kd.R_drewN | apply Kd.R_drew)); exact HO532.out) hb); have n4_ := ak (Kd.R_below (by (with_reducible repeat (first | apply Kd.R_alloc | apply Kd.R_drewN | apply Kd.R_drew)); exact HO536.out) hb); have n5_ := ak (Kd.R_below (by (with_reducible repeat (first | apply Kd.R_alloc | apply Kd.R_drewN | apply Kd.R_drew)); exact HO540.out) hb); have n6_ := ak (below_step (by repeat (first | (with_reducible first | exact HB.out | apply wA | apply wN | apply wD) | exact HB.out)) hb); clear HO519; clear HO523; clear HO528; clear HO532; clear HO536; clear HO540; clear HB; have HO519 := n0_; have HO523 := n1_; have HO528 := n2_; have HO532 := n3_; have HO536 := n4_; have HO540 := n5_; have HB := n6_; clear n0_ n1_ n2_ n3_ n4_ n5_ n6_; (try clear hb); (try clear hb2); (try clear hk); (try clear hi)) | ((with_reducible refine gate_callee (f := 40) rfl ?_); refine goesL_ (some 106) rfl rfl Tryz.func40 (by kernel_rfl) rfl #[.slice A0 l0.length c0, .int .i64 a2] rfl (by (try simp only [List.map_toArray, List.map_cons, List.map_nil]); first | done | rfl | (simp only [List.length_drop, List.length_take]; rfl)) ?_; (with_reducible refine (mummerref08_First.calls k _ _ l0 a2 t549 t550 _ ?side1 ?side2 A26.out).mono ?_); (case side1 => repeat (first | exact (Kd.C_below HR0.out HB.out) | (with_reducible refine Kd.C_alloc ?_ _) | (with_reducible refine Kd.C_drewN ?_ _) | (with_reducible refine Kd.C_drew ?_))); (case side2 => exact HC0.out); rintro e w47 ⟨rfl, hb⟩; refine ⟨_, rfl, ?_⟩; have n0_ := ak (Kd.R_below (by (with_reducible repeat (first | apply Kd.R_alloc | apply Kd.R_drewN | apply Kd.R_drew)); exact HO519.out) hb); have n1_ := ak (Kd.R_below (by (with_reducible repeat (first | apply Kd.R_alloc | apply Kd.R_drewN | apply Kd.R_drew)); exact HO523.out) hb); have n2_ := ak (Kd.R_below (by (with_reducible repeat (first | apply Kd.R_alloc | apply Kd.R_drewN | apply Kd.R_drew)); exact HO528.out) hb); have n3_ := ak (Kd.R_below (by (with_reducible repeat (first | apply Kd.R_alloc | apply Kd.R_drewN | apply Kd.R_drew)); exact HO532.out) hb); have n4_ := ak (Kd.R_below (by (with_reducible repeat (first | apply Kd.R_alloc | apply Kd.R_drewN | apply Kd.R_drew)); exact HO536.out) hb); have n5_ := ak (Kd.R_below (by (with_reducible repeat (first | apply Kd.R_alloc | apply Kd.R_drewN | apply Kd.R_drew)); exact HO540.out) hb); have n6_ := ak (below_step (by repeat (first | (with_reducible first | exact HB.out | apply wA | apply wN | apply wD) | exact HB.out)) hb); clear HO519; clear HO523; clear HO528; clear HO532; clear HO536; clear HO540; clear HB; have HO519 := n0_; have HO523 := n1_; have HO528 := n2_; have HO532 := n3_; have HO536 := n4_; have HO540 := n5_; have HB := n6_; clear n0_ n1_ n2_ n3_ n4_ n5_ n6_; (try clear hb); (try clear hb2); (try clear hk); (try clear hi)) | (go_at_call 12; (with_reducible refine (mummerlaw08_shown.calls  t551 _ hrt A31.out ⟨Ft.All.stay HT.out (by repeat (first | (with_reducible first | exact HB.out | apply wA | apply wN | apply wD) | exact HB.out | (refine below_set ?_ (by assumption)) | (refine below_set ?_ (Aside0.out (by assumption)))))⟩).mono ?_); rintro e w48 ⟨rfl, hb⟩; have n0_ := ak (Kd.R_below (by (with_reducible repeat (first | apply Kd.R_alloc | apply Kd.R_drewN | apply Kd.R_drew)); exact HO519.out) hb); have n1_ := ak (Kd.R_below (by (with_reducible repeat (first | apply Kd.R_alloc | apply Kd.R_drewN | apply Kd.R_drew)); exact HO523.out) hb); have n2_ := ak (Kd.R_below (by (with_reducible repeat (first | apply Kd.R_alloc | apply Kd.R_drewN | apply Kd.R_drew)); exact HO528.out) hb); have n3_ := ak (Kd.R_below (by (with_reducible repeat (first | apply Kd.R_alloc | apply Kd.R_drewN | apply Kd.R_drew)); exact HO532.out) hb); have n4_ := ak (Kd.R_below (by (with_reducible repeat (first | apply Kd.R_alloc | apply Kd.R_drewN | apply Kd.R_drew)); exact HO536.out) hb); have n5_ := ak (Kd.R_below (by (with_reducible repeat (first | apply Kd.R_alloc | apply Kd.R_drewN | apply Kd.R_drew)); exact HO540.out) hb); have n6_ := ak (below_step (by repeat (first | (with_reducible first | exact HB.out | apply wA | apply wN | apply wD) | exact HB.out)) hb); clear HO519; clear HO523; clear HO528; clear HO532; clear HO536; clear HO540; clear HB; have HO519 := n0_; have HO523 := n1_; have HO528 := n2_; have HO532 := n3_; have HO536 := n4_; have HO540 := n5_; have HB := n6_; clear n0_ n1_ n2_ n3_ n4_ n5_ n6_; (try clear hb); (try clear hb2); (try clear hk); (try clear hi)))
            go_ret
            exact ⟨by first | rfl | (simp [errW_none, errW_some] <;> rfl) | (simp [*, errW_none, errW_some] <;> rfl), by repeat (first | (with_reducible first | exact HB.out | apply wA | apply wN | apply wD) | exact HB.out)⟩
           ·rw [if_neg c30] at H
            have c30b0 : (t548 == t550) = false := beq_eq_false_iff_ne.mpr c30
            have c30b1 : (t548 != t550) = true := bne_iff_ne.mpr c30
            exact absurd ((Option.some.inj H).trans hrt.out) (by decide)
          ·rw [if_neg c29] at H
           have c29b0 : (t547 == t549) = false := beq_eq_false_iff_ne.mpr c29
           have c29b1 : (t547 != t549) = true := bne_iff_ne.mpr c29
           exact absurd ((Option.some.inj H).trans hrt.out) (by decide)
         ·rw [if_neg c28] at H
          have c28b0 : (t544 == t546) = false := beq_eq_false_iff_ne.mpr c28
          have c28b1 : (t544 != t546) = true := bne_iff_ne.mpr c28
          exact absurd ((Option.some.inj H).trans hrt.out) (by decide)
        ·rw [if_neg c27] at H
         have c27b0 : (t543 == t545) = false := by simpa using c27
         (try (have c27b1 : decide (t543 = t545) = false := by simpa using c27))
         (try (have c27b2 : (t543 == t545) = false := by simpa using c27))
         (try (have c27b3 : ¬ (t543 = t545) := by simpa using c27))
         clear c27
         exact absurd ((Option.some.inj H).trans hrt.out) (by decide)
       ·rw [if_neg c22] at H
        have c22b0 : (t534 == t538) = false := beq_eq_false_iff_ne.mpr c22
        have c22b1 : (t534 != t538) = true := bne_iff_ne.mpr c22
        exact absurd ((Option.some.inj H).trans hrt.out) (by decide)
      ·replace c21 := Bool.eq_false_iff.mpr c21
       subst c21
       have H1 : (some false) = some r := by rw [if_neg (show ¬ (false = true) by decide)] at H; exact H
       clear H
       have H := H1
       clear H1
       exact absurd ((Option.some.inj H).trans hrt.out) (by decide)
     ·rw [if_neg c19] at H
      have c19b0 : (t526 == t530) = false := beq_eq_false_iff_ne.mpr c19
      have c19b1 : (t526 != t530) = true := bne_iff_ne.mpr c19
      exact absurd ((Option.some.inj H).trans hrt.out) (by decide)
    ·replace c18 := Bool.eq_false_iff.mpr c18
     subst c18
     have H1 : (some false) = some r := by rw [if_neg (show ¬ (false = true) by decide)] at H; exact H
     clear H
     have H := H1
     clear H1
     exact absurd ((Option.some.inj H).trans hrt.out) (by decide)
   ·rw [if_neg c12] at H
    have c12b0 : (t517 == t521) = false := beq_eq_false_iff_ne.mpr c12
    have c12b1 : (t517 != t521) = true := bne_iff_ne.mpr c12
    exact absurd ((Option.some.inj H).trans hrt.out) (by decide)
  ·replace c11 := Bool.eq_false_iff.mpr c11
   subst c11
   have H1 : (some false) = some r := by rw [if_neg (show ¬ (false = true) by decide)] at H; exact H
   clear H
   have H := H1
   clear H1
   exact absurd ((Option.some.inj H).trans hrt.out) (by decide)
end Go.Proofs.YtdjkdlbokepoaaaGreatDoor.P
namespace Go.Proofs.YtdjkdlbokepoaaaGreatDoor.P
open Go.RowKit YtdjkdlbokepoaaaGreatDoorW.PrintWords YtdjkdlbokepoaaaGreatDoorW.PrintLast YtdjkdlbokepoaaaGreatDoorW.PrintMore
attribute [local go_sem] max2_int min2_int max_two min_two max_three min_three max_four min_four
set_option linter.unusedVariables false
set_option linter.unusedSimpArgs false
def mummerref02_Starts.l0 : Nat → List Int → List Int → Int → Option (List Int × Int)
 | 0, _, _, _ => none
 | k + 1, x0, x6, x7 => if x7 < (x0.length : Int) then (if x6.length < 17592186044416 then ((mummerref02_Decode.f k x0 x7).bind fun bt219 => (mummerref02_Starts.l0 k x0 (x6 ++ [x7]) (wrap64 (x7 + bt219.2.1)))) else (none)) else (if x6.length < 17592186044416 then (some ((x6 ++ [x7]), 0)) else (none))
end Go.Proofs.YtdjkdlbokepoaaaGreatDoor.P
