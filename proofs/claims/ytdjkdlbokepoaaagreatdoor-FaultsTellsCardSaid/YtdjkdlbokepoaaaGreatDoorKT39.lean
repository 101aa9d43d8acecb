import Derived.Test.YtdjkdlbokepoaaaGreatDoorKT36
import Derived.Test.YtdjkdlbokepoaaaGreatDoorKT38
import Derived.Test.YtdjkdlbokepoaaaGreatDoorKT37
namespace Go.Proofs.YtdjkdlbokepoaaaGreatDoor.P
open Go.RowKit Go.Proofs.YtdjkdlbokepoaaaGreatDoorW.PrintWords Go.Proofs.YtdjkdlbokepoaaaGreatDoorW.PrintLast Go.Proofs.YtdjkdlbokepoaaaGreatDoorW.PrintMore
attribute [local go_sem] max2_int min2_int max_two min_two max_three min_three max_four min_four
set_option linter.unusedVariables false
set_option linter.unusedSimpArgs false
def mummerref08_chain.l0 : Nat → List (S41) → Int → List Int → Option (List Int)
 | 0, _, _, _ => none
 | k + 1, x0, x1, x5 => if x1 ≥ 0 then (if x5.length < 17592186044416 then (if 0 ≤ x1 then (if x1 < (x0.length : Int) then (mummerref08_chain.l0 k x0 ((rd_T41 x0 x1).f4) (x5 ++ [x1])) else (none)) else (none)) else (none)) else (some x5)
def mummerref08_chain.f (k : Nat) (l0 : List (S41)) (a1 : Int) : Option (List Int) := mummerref08_chain.l0 k l0 a1 ([] : List Int)
set_option maxHeartbeats 8000000 in
set_option maxRecDepth 100000 in
theorem mummerref08_chain.calls (k : Nat) (A0 : Option Addr) (c0 : Nat) (l0 : List (S41)) (a1 : Int) (r : List Int) (w : World) (hr0 : Kd.C k41 w A0 l0.length l0) (hc0 : l0.length ≤ c0) (h : mummerref08_chain.f k l0 a1 = some r) :
  Calls Tryz.prog 58 #[.slice A0 l0.length c0, .int .i64 a1] w fun e w' => ∃ v0_ : Value, e = .returned (v0_) ∧ Kd.R (Kd.int .i64) 3 w' w.heap.size (fun _ => True) v0_ r ∧ Below w.heap.size w w' := by
 have HR0 := ak hr0
 have HC0 := ak hc0
 clear hr0 hc0
 have HB := ak (Below.refl w.heap.size w)
 have H : (mummerref08_chain.l0 k l0 a1 ([] : List Int)) = some r := h
 clear h
 have H' := ak H
 clear H
 go_enter Tryz.func58, Tryz.ntmps58
 go_wp2
 go_loopg [1, 5] k (fun kq v1 v5 w' => ∃ (x1_1 : Int) (x5_1 : List Int), v1 = .int .i64 x1_1 ∧ Aside0 (mummerref08_chain.l0 kq l0 x1_1 x5_1 = some r) ∧ Aside0 (kq ≤ k) ∧ Aside0 (Kd.R (Kd.int .i64) 3 w' w.heap.size (fun _ => True) v5 x5_1) ∧ Aside0 (Below w.heap.size w w'))
 case atStart => exact ⟨(a1), (([] : List Int)), (by first | rfl | (simp; done) | (simp [*]; done)), H', ⟨Nat.le_refl _⟩, ⟨by first | exact Kd.R_nil _ _ _ _ _ | exact Kd.N_nil _ _ _ _ _ | exact Kd.V_nil _ _ _ _ _ | exact Kd.Q_nil _ _ _ _ _ | exact Kd.S_nil _ _ _ _ _⟩, ⟨by repeat (first | (with_reducible first | exact HB.out | apply wA | apply wN | apply wD) | exact HB.out)⟩⟩
 case round =>
  clear H'
  try clear p2
  obtain ⟨x1_1, x5_1, rfl, HA, HK1, HO_5, HB⟩ := hrel
  cases gk with
  | zero => exact absurd HA.out (by simp [mummerref08_chain.l0])
  | succ k1 =>
   have H := HA.out
   clear HA
   simp only [mummerref08_chain.l0] at H
   by_cases c3 : x1_1 ≥ 0
   ·rw [if_pos c3] at H
    have c3b0 : decide (0 ≤ x1_1) = true := decide_eq_true c3
    clear c3
    by_cases c4 : x5_1.length < 17592186044416
    ·rw [if_pos c4] at H
     have LMc4 := ak c4
     clear c4
     obtain ⟨y286, hy286⟩ : ∃ y_ : List Int, y_ = (x5_1 ++ [x1_1]) := ⟨_, rfl⟩
     replace H : (if 0 ≤ x1_1 then (if x1_1 < (l0.length : Int) then (mummerref08_chain.l0 k1 l0 ((rd_T41 l0 x1_1).f4) y286) else (none)) else (none)) = some r := by first | (rw [hy286]; with_reducible exact H) | (have H2_ := (Option.bind_some _ _).symm.trans H; rw [hy286]; with_reducible exact H2_) | (have H2_ := (Option.bind_some _ _).symm.trans H; with_reducible exact H2_) | with_reducible exact H | (rw [hy286]; exact H) | exact H
     have Ny286 := ak hy286
     clear hy286
     by_cases c5 : 0 ≤ x1_1
     ·rw [if_pos c5] at H
      have c5b0 : decide (0 ≤ x1_1) = true := decide_eq_true c5
      clear c5
      by_cases c6 : x1_1 < (l0.length : Int)
      ·rw [if_pos c6] at H
       have c6b0 : decide (x1_1 < (l0.length : Int)) = true := decide_eq_true c6
       clear c6
       have H' := ak H
       clear H
       go_wp2_with (first | ((with_reducible refine gate_builtin (b := .append) (xs := #[.tmp 8, .tmp 10]) rfl ?_); at_builtin; refine Kd.R_append (Kd.int .i64) (w0 := w) w.heap.size rfl (.tmp 8) (.tmp 10) 43 3 (.int .i64 0) 8 rfl Tryz.underlying43 info3 rfl (by decide) (by omega) u5 x5_1 x1_1 [.int .i64 x1_1] (fun _ => True) (fun _ => False) rfl rfl ?aP (fun _ hk => hk.elim) ?aF ?aO ?aB ?aS ?aL ?_; (case aP => exact rfl); (case aB => exact (by repeat (first | (with_reducible first | exact HB.out | apply wA | apply wN | apply wD) | exact HB.out))); (case aF => exact (fun _ _ => trivial)); (case aO => exact (by (with_reducible repeat (first | apply Kd.R_alloc | apply Kd.R_drewN | apply Kd.R_drew)); exact HO_5.out)); (case aS => exact (below_size (by repeat (first | (with_reducible first | exact HB.out | apply wA | apply wN | apply wD) | exact HB.out)))); (case aL => have := LMc4.out; omega); intro v287 w7 ho hb hg hat; rw [← Ny286.out] at ho; have n0_ := ak (hb); have n1_ := ak (ho); clear HB; clear HO_5; have HB := n0_; have HO288 := n1_; clear n0_ n1_; clear ho hb hg hat; have p289 : 0 ≤ (x1_1 : Int) := of_decide_eq_true (by first | (with_reducible assumption) | assumption); have q289 : x1_1 < (l0.length : Int) := of_decide_eq_true (by first | (with_reducible assumption) | assumption); obtain ⟨ad289, e289, hx289_0, hx289_1, hx289_2, hx289_3, hx289_4, hx289_5⟩ := at_T41 HR0.out x1_1 p289 q289; cases e289; replace hx289_0 := (HB.out.cell (World.block_lt_of_cell? w _ hx289_0)).trans hx289_0; replace hx289_1 := (HB.out.cell (World.block_lt_of_cell? w _ hx289_1)).trans hx289_1; replace hx289_2 := (HB.out.cell (World.block_lt_of_cell? w _ hx289_2)).trans hx289_2; replace hx289_3 := (HB.out.cell (World.block_lt_of_cell? w _ hx289_3)).trans hx289_3; replace hx289_4 := (HB.out.cell (World.block_lt_of_cell? w _ hx289_4)).trans hx289_4; replace hx289_5 := (HB.out.cell (World.block_lt_of_cell? w _ hx289_5)).trans hx289_5; replace p289 := eq_true p289; replace q289 := eq_true q289))
       go_roundg k1
       case measure => have := HK1.out; omega
       case rel => exact ⟨((rd_T41 l0 x1_1).f4), (y286), (by first | rfl | (simp; done) | (simp [*]; done)), H', ⟨by have := HK1.out; omega⟩, ⟨by (with_reducible repeat (first | apply Kd.R_alloc | apply Kd.R_drewN | apply Kd.R_drew)); exact HO288.out⟩, ⟨by repeat (first | (with_reducible first | exact HB.out | apply wA | apply wN | apply wD) | exact HB.out)⟩⟩
      ·rw [if_neg c6] at H
       exact absurd H (by simp)
     ·rw [if_neg c5] at H
      exact absurd H (by simp)
    ·rw [if_neg c4] at H
     exact absurd H (by simp)
   ·rw [if_neg c3] at H
    have c3b0 : decide (0 ≤ x1_1) = false := decide_eq_false c3
    clear c3
    obtain rfl := Option.some.inj H
    go_wp2
    go_ret
    exact ⟨_, by first | rfl | (simp [errW_none, errW_some] <;> rfl) | (simp [*, errW_none, errW_some] <;> rfl), by (with_reducible repeat (first | apply Kd.R_alloc | apply Kd.R_drewN | apply Kd.R_drew)); exact HO_5.out, by repeat (first | (with_reducible first | exact HB.out | apply wA | apply wN | apply wD) | exact HB.out)⟩
end Go.Proofs.YtdjkdlbokepoaaaGreatDoor.P
namespace Go.Proofs.YtdjkdlbokepoaaaGreatDoor.P
open Go.RowKit Go.Proofs.YtdjkdlbokepoaaaGreatDoorW.PrintWords Go.Proofs.YtdjkdlbokepoaaaGreatDoorW.PrintLast Go.Proofs.YtdjkdlbokepoaaaGreatDoorW.PrintMore
attribute [local go_sem] max2_int min2_int max_two min_two max_three min_three max_four min_four
set_option linter.unusedVariables false
set_option linter.unusedSimpArgs false
def mummerref08_many.l0 : Nat → ByteArray → Int → ByteArray → Int → Option (ByteArray)
 | 0, _, _, _, _ => none
 | k + 1, x0, x1, x5, x6 => if x6 < x1 then (if x5.size + x0.size ≤ 9223372036854775807 then (mummerref08_many.l0 k x0 x1 (x5 ++ x0) (wrap64 (x6 + 1))) else (none)) else (some x5)
def mummerref08_many.f (k : Nat) (a0 : ByteArray) (a1 : Int) : Option (ByteArray) := mummerref08_many.l0 k a0 a1 (⟨#[]⟩ : ByteArray) 0
set_option maxHeartbeats 8000000 in
set_option maxRecDepth 100000 in
theorem mummerref08_many.calls (k : Nat) (a0 : ByteArray) (a1 : Int) (r : ByteArray) (w : World) (h : mummerref08_many.f k a0 a1 = some r) :
  Calls Tryz.prog 91 #[.string a0, .int .i64 a1] w fun e w' => e = .returned (.string r) ∧ Drawn0 w w' := by
 have H : (mummerref08_many.l0 k a0 a1 (⟨#[]⟩ : ByteArray) 0) = some r := h
 clear h
 have H' := ak H
 clear H
 go_enter Tryz.func91, Tryz.ntmps91
 go_wp2
 go_loopg [5, 6] k (fun kq v5 v6 w' => ∃ (x5_1 : ByteArray) (x6_1 : Int), v5 = .string x5_1 ∧ v6 = .int .i64 x6_1 ∧ Aside0 (mummerref08_many.l0 kq a0 a1 x5_1 x6_1 = some r) ∧ Aside0 (kq ≤ k) ∧ Drawn0 w w')
 case atStart => exact ⟨((⟨#[]⟩ : ByteArray)), (0), (by first | rfl | (simp; done) | (simp [*]; done)), (by first | rfl | (simp; done) | (simp [*]; done)), H', ⟨Nat.le_refl _⟩, by repeat (first | exact Drawn0.refl _ | apply Drawn0.step)⟩
 case round =>
  clear H'
  try clear p2
  obtain ⟨x5_1, x6_1, rfl, rfl, HA, HK1, ⟨m1, rfl⟩⟩ := hrel
  cases gk with
  | zero => exact absurd HA.out (by simp [mummerref08_many.l0])
  | succ k1 =>
   have H := HA.out
   clear HA
   simp only [mummerref08_many.l0] at H
   by_cases c3 : x6_1 < a1
   ·rw [if_pos c3] at H
    have c3b0 : decide (x6_1 < a1) = true := decide_eq_true c3
    clear c3
    by_cases c4 : x5_1.size + a0.size ≤ 9223372036854775807
    ·rw [if_pos c4] at H
     have c4b0 := eq_true c4
     have c4b1 : decide (x5_1.size + a0.size ≤ 9223372036854775807) = true := decide_eq_true c4
     try have c4b2 : (9223372036854775807 < x5_1.size + a0.size) = False := eq_false (Nat.not_lt.2 c4)
     have H' := ak H
     clear H
     go_wp2
     go_roundg k1
     case measure => have := HK1.out; omega
     case rel => exact ⟨(x5_1 ++ a0), (wrap64 (x6_1 + 1)), (by first | rfl | (simp; done) | (simp [*]; done)), (by first | rfl | (simp; done) | (simp [*]; done)), H', ⟨by have := HK1.out; omega⟩, by repeat (first | exact Drawn0.refl _ | apply Drawn0.step)⟩
    ·rw [if_neg c4] at H
     exact absurd H (by simp)
   ·rw [if_neg c3] at H
    have c3b0 : decide (x6_1 < a1) = false := decide_eq_false c3
    clear c3
    obtain rfl := Option.some.inj H
    go_wp2
    go_ret
    exact ⟨by first | rfl | (simp; done) | (simp [*]; done), by repeat (first | exact Drawn0.refl _ | apply Drawn0.step)⟩
end Go.Proofs.YtdjkdlbokepoaaaGreatDoor.P
namespace Go.Proofs.YtdjkdlbokepoaaaGreatDoor.P
open Go.RowKit Go.Proofs.YtdjkdlbokepoaaaGreatDoorW.PrintWords Go.Proofs.YtdjkdlbokepoaaaGreatDoorW.PrintLast Go.Proofs.YtdjkdlbokepoaaaGreatDoorW.PrintMore
attribute [local go_sem] max2_int min2_int max_two min_two max_three min_three max_four min_four
set_option linter.unusedVariables false
set_option linter.unusedSimpArgs false
mutual
def mummerref08_picture.j1 : Nat → List Int → ByteArray → Int → Int → Int → Int → Int → Int → ByteArray → Int → Option (ByteArray)
 | 0, _, _, _, _, _, _, _, _, _, _ => none
 | k + 1, x0, x5, x7, x8, x308000, x308001, x308002, x308003, x308004, x308005 => (mummerref08_Place.f k x0 x308002).bind fun bt312 => ((mummerref02_Starts.f k x0).bind fun bt315 => (mummerref08_picture.l1 k x0 x5 x7 x8 bt312.2.1 bt315.1 0 0 x308000 x308001 x308002 x308003 x308004 x308005))
def mummerref08_picture.l1 : Nat → List Int → ByteArray → Int → Int → Int → List Int → Int → Int → Int → Int → Int → Int → ByteArray → Int → Option (ByteArray)
 | 0, _, _, _, _, _, _, _, _, _, _, _, _, _, _ => none
 | k + 1, x0, x5, x7, x8, x10, x12, x14, x15, x308000, x308001, x308002, x308003, x308004, x308005 => if x15 < (x12.length : Int) then (if 0 ≤ x15 then (if (rd x12 x15) ≥ x308002 then (if (rd x12 x15) < x308003 then (if (rd x12 x15) < x8 then (mummerref08_picture.l1 k x0 x5 x7 x8 x10 x12 (wrap64 (x14 + 1)) (wrap64 (x15 + 1)) x308000 x308001 x308002 x308003 x308004 x308005) else (mummerref08_picture.l1 k x0 x5 x7 x8 x10 x12 x14 (wrap64 (x15 + 1)) x308000 x308001 x308002 x308003 x308004 x308005)) else (mummerref08_picture.l1 k x0 x5 x7 x8 x10 x12 x14 (wrap64 (x15 + 1)) x308000 x308001 x308002 x308003 x308004 x308005)) else (mummerref08_picture.l1 k x0 x5 x7 x8 x10 x12 x14 (wrap64 (x15 + 1)) x308000 x308001 x308002 x308003 x308004 x308005)) else (none)) else (if x5.size + 3 ≤ 9223372036854775807 then (if 0 ≤ x7 then (if x7 ≤ x8 then (if x8 ≤ (x0.length : Int) then (if (x5 ++ (⟨#[10, 32, 32]⟩ : ByteArray)).size + (strOfNums ((x0.take (x8 : Int).toNat).drop (x7 : Int).toNat)).size ≤ 9223372036854775807 then (if ((x5 ++ (⟨#[10, 32, 32]⟩ : ByteArray)) ++ (strOfNums ((x0.take (x8 : Int).toNat).drop (x7 : Int).toNat))).size + 3 ≤ 9223372036854775807 then ((mummerref08_many.f k (⟨#[32]⟩ : ByteArray) (wrap64 (x10 - 1))).bind fun t323 => (if (((x5 ++ (⟨#[10, 32, 32]⟩ : ByteArray)) ++ (strOfNums ((x0.take (x8 : Int).toNat).drop (x7 : Int).toNat))) ++ (⟨#[10, 32, 32]⟩ : ByteArray)).size + t323.size ≤ 9223372036854775807 then ((mummerref08_many.f k (⟨#[94]⟩ : ByteArray) (mx x14 1)).bind fun t324 => (if ((((x5 ++ (⟨#[10, 32, 32]⟩ : ByteArray)) ++ (strOfNums ((x0.take (x8 : Int).toNat).drop (x7 : Int).toNat))) ++ (⟨#[10, 32, 32]⟩ : ByteArray)) ++ t323).size + t324.size ≤ 9223372036854775807 then (if (((((x5 ++ (⟨#[10, 32, 32]⟩ : ByteArray)) ++ (strOfNums ((x0.take (x8 : Int).toNat).drop (x7 : Int).toNat))) ++ (⟨#[10, 32, 32]⟩ : ByteArray)) ++ t323) ++ t324).size + 1 ≤ 9223372036854775807 then (some ((((((x5 ++ (⟨#[10, 32, 32]⟩ : ByteArray)) ++ (strOfNums ((x0.take (x8 : Int).toNat).drop (x7 : Int).toNat))) ++ (⟨#[10, 32, 32]⟩ : ByteArray)) ++ t323) ++ t324) ++ (⟨#[10]⟩ : ByteArray))) else (none)) else (none))) else (none))) else (none)) else (none)) else (none)) else (none)) else (none)) else (none))
def mummerref08_picture.l0 : Nat → List Int → ByteArray → Int → Int → Int → Int → Int → Int → ByteArray → Int → Option (ByteArray)
 | 0, _, _, _, _, _, _, _, _, _, _ => none
 | k + 1, x0, x5, x7, x8, x308000, x308001, x308002, x308003, x308004, x308005 => if x8 < (x0.length : Int) then (if 0 ≤ x8 then (if (rd x0 x8) = 10 then (mummerref08_picture.j1 k x0 x5 x7 x8 x308000 x308001 x308002 x308003 x308004 x308005) else (mummerref08_picture.l0 k x0 x5 x7 (wrap64 (x8 + 1)) x308000 x308001 x308002 x308003 x308004 x308005)) else (none)) else (mummerref08_picture.j1 k x0 x5 x7 x8 x308000 x308001 x308002 x308003 x308004 x308005)
end
def mummerref08_picture.f (k : Nat) (l0 : List Int) (a1_0 : Int) (a1_1 : Int) (a1_2 : Int) (a1_3 : Int) (a1_4 : ByteArray) (a1_5 : Int) : Option (ByteArray) := (mummerref08_Message.f k l0 a1_0 a1_1 a1_2 a1_3 a1_4 a1_5).bind fun bt308 => ((mummerref08_begin.f k l0 a1_2).bind fun t310 => (mummerref08_picture.l0 k l0 bt308.1 t310 a1_2 a1_0 a1_1 a1_2 a1_3 a1_4 a1_5))
set_option maxHeartbeats 8000000 in
set_option maxRecDepth 100000 in
theorem mummerref08_picture.calls (k : Nat) (A0 : Option Addr) (c0 : Nat) (l0 : List Int) (a1_0 : Int) (a1_1 : Int) (a1_2 : Int) (a1_3 : Int) (a1_4 : ByteArray) (a1_5 : Int) (r : ByteArray) (w : World) (hr0 : Kd.C (Kd.int .u8) w A0 l0.length l0) (hc0 : l0.length ≤ c0) (h : mummerref08_picture.f k l0 a1_0 a1_1 a1_2 a1_3 a1_4 a1_5 = some r) :
  Calls Tryz.prog 59 #[.slice A0 l0.length c0, .agg #[.int .i64 a1_0, .int .i64 a1_1, .int .i64 a1_2, .int .i64 a1_3, .string a1_4, .int .i64 a1_5]] w fun e w' => e = .returned (.string r) ∧ Below w.heap.size w w' := by
 have hu41 := Tryz.underlying41
 have HR0 := ak hr0
 have HC0 := ak hc0
 clear hr0 hc0
 have HB := ak (Below.refl w.heap.size w)
 have H : ((mummerref08_Message.f k l0 a1_0 a1_1 a1_2 a1_3 a1_4 a1_5).bind fun bt308 => ((mummerref08_begin.f k l0 a1_2).bind fun t310 => (mummerref08_picture.l0 k l0 bt308.1 t310 a1_2 a1_0 a1_1 a1_2 a1_3 a1_4 a1_5))) = some r := h
 clear h
 replace H := Option.bind_eq_some_iff.mp H
 obtain ⟨⟨t308, t309⟩, A30, H⟩ := H
 try dsimp only at H
 have A3 := ak A30
 clear A30
 replace H := Option.bind_eq_some_iff.mp H
 obtain ⟨t310, A40, H⟩ := H
 replace H : (mummerref08_picture.l0 k l0 t308 t310 a1_2 a1_0 a1_1 a1_2 a1_3 a1_4 a1_5) = some r := H
 have A4 := ak A40
 clear A40
 have HC5 := ak H
 clear H
 go_enter Tryz.func59, Tryz.ntmps59
 go_upto_block 0 with (first | ((with_reducible refine gate_dst (N := 3) rfl ?_); refine box_event ?hg (N := 3) ?hd (cs := #[.int .i64 a1_0, .int .i64 a1_1, .int .i64 a1_2, .int .i64 a1_3, .string a1_4, .int .i64 a1_5]) (t := 41) ?hr ?_; (case hd => rfl); (case hg => rfl); (case hr => first | (go_simp; done) | (go_simp; rfl)); intro gb307 hg w6 hbox hb; have n0_ := ak (below_step (by repeat (first | (with_reducible first | exact HB.out | apply wA | apply wN | apply wD) | exact HB.out)) hb); have n1_ := ak (hbox); have n2_ := ak ((by rw [hg]; exact (below_size (by repeat (first | (with_reducible first | exact HB.out | apply wA | apply wN | apply wD) | exact HB.out))) : w.heap.size ≤ gb307)); have n3_ := ak ((by rw [hg]; exact (below_size (by repeat (first | (with_reducible first | exact HB.out | apply wA | apply wN | apply wD) | exact HB.out))) : w.heap.size ≤ gb307)); clear HB; have HB := n0_; have BK307 := n1_; have GW307 := n2_; have GE307 := n3_; clear n0_ n1_ n2_ n3_; clear hb hbox hg; have hcz7_0 : w6.cell? ⟨gb307, 0, none⟩ = some (.int .i64 a1_0) := (blk_cell BK307.out 0).trans rfl; have hcz7_1 : w6.cell? ⟨gb307, 1, none⟩ = some (.int .i64 a1_1) := (blk_cell BK307.out 1).trans rfl; have hcz7_2 : w6.cell? ⟨gb307, 2, none⟩ = some (.int .i64 a1_2) := (blk_cell BK307.out 2).trans rfl; have hcz7_3 : w6.cell? ⟨gb307, 3, none⟩ = some (.int .i64 a1_3) := (blk_cell BK307.out 3).trans rfl; have hcz7_4 : w6.cell? ⟨gb307, 4, none⟩ = some (.string a1_4) := (blk_cell BK307.out 4).trans rfl; have hcz7_5 : w6.cell? ⟨gb307, 5, none⟩ = some (.int .i64 a1_5) := (blk_cell BK307.out 5).trans rfl; have hfz7_0 := blk_frozen BK307.out 0; have hfz7_1 := blk_frozen BK307.out 1; have hfz7_2 := blk_frozen BK307.out 2; have hfz7_3 := blk_frozen BK307.out 3; have hfz7_4 := blk_frozen BK307.out 4; have hfz7_5 := blk_frozen BK307.out 5) | (go_at_call 24; (with_reducible refine (mummerref08_Message.calls k _ _ l0 a1_0 a1_1 a1_2 a1_3 a1_4 a1_5 t308 t309 _ ?side1 ?side2 A3.out).mono ?_); (case side1 => repeat (first | exact (Kd.C_below HR0.out HB.out) | (with_reducible refine Kd.C_alloc ?_ _) | (with_reducible refine Kd.C_drewN ?_ _) | (with_reducible refine Kd.C_drew ?_))); (case side2 => exact HC0.out); rintro e w8 ⟨rfl, hb⟩; have n0_ := ak (blk_below (g := gb307) (o := .cells #[.int .i64 a1_0, .int .i64 a1_1, .int .i64 a1_2, .int .i64 a1_3, .string a1_4, .int .i64 a1_5] 41 (0, 0)) (by (with_reducible repeat (first | refine bN ?_ _ | refine bD ?_ | refine bA ?_ _)); exact BK307.out) hb); have n1_ := ak (below_step (by repeat (first | (with_reducible first | exact HB.out | apply wA | apply wN | apply wD | refine below_set ?_ GE307.out) | exact HB.out)) hb); clear BK307; clear HB; have BK307 := n0_; have HB := n1_; clear n0_ n1_; (try clear hb); (try clear hb2); (try clear hk); (try clear hi); have hcz9_0 : w8.cell? ⟨gb307, 0, none⟩ = some (.int .i64 a1_0) := (blk_cell BK307.out 0).trans rfl; have hcz9_1 : w8.cell? ⟨gb307, 1, none⟩ = some (.int .i64 a1_1) := (blk_cell BK307.out 1).trans rfl; have hcz9_2 : w8.cell? ⟨gb307, 2, none⟩ = some (.int .i64 a1_2) := (blk_cell BK307.out 2).trans rfl; have hcz9_3 : w8.cell? ⟨gb307, 3, none⟩ = some (.int .i64 a1_3) := (blk_cell BK307.out 3).trans rfl; have hcz9_4 : w8.cell? ⟨gb307, 4, none⟩ = some (.string a1_4) := (blk_cell BK307.out 4).trans rfl; have hcz9_5 : w8.cell? ⟨gb307, 5, none⟩ = some (.int .i64 a1_5) := (blk_cell BK307.out 5).trans rfl; have hfz9_0 := blk_frozen BK307.out 0; have hfz9_1 := blk_frozen BK307.out 1; have hfz9_2 := blk_frozen BK307.out 2; have hfz9_3 := blk_frozen BK307.out 3; have hfz9_4 := blk_frozen BK307.out 4; have hfz9_5 := blk_frozen BK307.out 5) | (go_at_call 53; (with_reducible refine (mummerref08_begin.calls k _ _ l0 a1_2 t310 _ ?side1 ?side2 A4.out).mono ?_); (case side1 => repeat (first | exact (Kd.C_below HR0.out HB.out) | (with_reducible refine Kd.C_alloc ?_ _) | (with_reducible refine Kd.C_drewN ?_ _) | (with_reducible refine Kd.C_drew ?_))); (case side2 => exact HC0.out); rintro e w' ⟨rfl, ⟨nd, rfl⟩⟩; (try first | exact ⟨rfl, _, World.drewN_drewN _ _ _⟩ | exact ⟨rfl, _, Eq.trans (World.drewN_drewN _ _ _) (congrArg (World.drewN _) (Nat.add_assoc _ _ _))⟩)))
 repeat (go_quiet (first | ((with_reducible refine gate_dst (N := 3) rfl ?_); refine box_event ?hg (N := 3) ?hd (cs := #[.int .i64 a1_0, .int .i64 a1_1, .int .i64 a1_2, .int .i64 a1_3, .string a1_4, .int .i64 a1_5]) (t := 41) ?hr ?_; (case hd => rfl); (case hg => rfl); (case hr => first | (go_simp; done) | (go_simp; rfl)); intro gb307 hg w6 hbox hb; have n0_ := ak (below_step (by repeat (first | (with_reducible first | exact HB.out | apply wA | apply wN | apply wD) | exact HB.out)) hb); have n1_ := ak (hbox); have n2_ := ak ((by rw [hg]; exact (below_size (by repeat (first | (with_reducible first | exact HB.out | apply wA | apply wN | apply wD) | exact HB.out))) : w.heap.size ≤ gb307)); have n3_ := ak ((by rw [hg]; exact (below_size (by repeat (first | (with_reducible first | exact HB.out | apply wA | apply wN | apply wD) | exact HB.out))) : w.heap.size ≤ gb307)); clear HB; have HB := n0_; have BK307 := n1_; have GW307 := n2_; have GE307 := n3_; clear n0_ n1_ n2_ n3_; clear hb hbox hg; have hcz7_0 : w6.cell? ⟨gb307, 0, none⟩ = some (.int .i64 a1_0) := (blk_cell BK307.out 0).trans rfl; have hcz7_1 : w6.cell? ⟨gb307, 1, none⟩ = some (.int .i64 a1_1) := (blk_cell BK307.out 1).trans rfl; have hcz7_2 : w6.cell? ⟨gb307, 2, none⟩ = some (.int .i64 a1_2) := (blk_cell BK307.out 2).trans rfl; have hcz7_3 : w6.cell? ⟨gb307, 3, none⟩ = some (.int .i64 a1_3) := (blk_cell BK307.out 3).trans rfl; have hcz7_4 : w6.cell? ⟨gb307, 4, none⟩ = some (.string a1_4) := (blk_cell BK307.out 4).trans rfl; have hcz7_5 : w6.cell? ⟨gb307, 5, none⟩ = some (.int .i64 a1_5) := (blk_cell BK307.out 5).trans rfl; have hfz7_0 := blk_frozen BK307.out 0; have hfz7_1 := blk_frozen BK307.out 1; have hfz7_2 := blk_frozen BK307.out 2; have hfz7_3 := blk_frozen BK307.out 3; have hfz7_4 := blk_frozen BK307.out 4; have hfz7_5 := blk_frozen BK307.out 5) | (go_at_call 24; (with_reducible refine (mummerref08_Message.calls k _ _ l0 a1_0 a1_1 a1_2 a1_3 a1_4 a1_5 t308 t309 _ ?side1 ?side2 A3.out).mono ?_); (case side1 => repeat (first | exact (Kd.C_below HR0.out HB.out) | (with_reducible refine Kd.C_alloc ?_ _) | (with_reducible refine Kd.C_drewN ?_ _) | (with_reducible refine Kd.C_drew ?_))); (case side2 => exact HC0.out); rintro e w8 ⟨rfl, hb⟩; have n0_ := ak (blk_below (g := gb307) (o := .cells #[.int .i64 a1_0, .int .i64 a1_1, .int .i64 a1_2, .int .i64 a1_3, .string a1_4, .int .i64 a1_5] 41 (0, 0)) (by (with_reducible repeat (first | refine bN ?_ _ | refine bD ?_ | refine bA ?_ _)); exact BK307.out) hb); have n1_ := ak (below_step (by repeat (first | (with_reducible first | exact HB.out | apply wA | apply wN | apply wD | refine below_set ?_ GE307.out) | exact HB.out)) hb); clear BK307; clear HB; have BK307 := n0_; have HB := n1_; clear n0_ n1_; (try clear hb); (try clear hb2); (try clear hk); (try clear hi); have hcz9_0 : w8.cell? ⟨gb307, 0, none⟩ = some (.int .i64 a1_0) := (blk_cell BK307.out 0).trans rfl; have hcz9_1 : w8.cell? ⟨gb307, 1, none⟩ = some (.int .i64 a1_1) := (blk_cell BK307.out 1).trans rfl; have hcz9_2 : w8.cell? ⟨gb307, 2, none⟩ = some (.int .i64 a1_2) := (blk_cell BK307.out 2).trans rfl; have hcz9_3 : w8.cell? ⟨gb307, 3, none⟩ = some (.int .i64 a1_3) := (blk_cell BK307.out 3).trans rfl; have hcz9_4 : w8.cell? ⟨gb307, 4, none⟩ = some (.string a1_4) := (blk_cell BK307.out 4).trans rfl; have hcz9_5 : w8.cell? ⟨gb307, 5, none⟩ = some (.int .i64 a1_5) := (blk_cell BK307.out 5).trans rfl; have hfz9_0 := blk_frozen BK307.out 0; have hfz9_1 := blk_frozen BK307.out 1; have hfz9_2 := blk_frozen BK307.out 2; have hfz9_3 := blk_frozen BK307.out 3; have hfz9_4 := blk_frozen BK307.out 4; have hfz9_5 := blk_frozen BK307.out 5) | (go_at_call 53; (with_reducible refine (mummerref08_begin.calls k _ _ l0 a1_2 t310 _ ?side1 ?side2 A4.out).mono ?_); (case side1 => repeat (first | exact (Kd.C_below HR0.out HB.out) | (with_reducible refine Kd.C_alloc ?_ _) | (with_reducible refine Kd.C_drewN ?_ _) | (with_reducible refine Kd.C_drew ?_))); (case side2 => exact HC0.out); rintro e w' ⟨rfl, ⟨nd, rfl⟩⟩; (try first | exact ⟨rfl, _, World.drewN_drewN _ _ _⟩ | exact ⟨rfl, _, Eq.trans (World.drewN_drewN _ _ _) (congrArg (World.drewN _) (Nat.add_assoc _ _ _))⟩))); go_upto_block 0 with (first | ((with_reducible refine gate_dst (N := 3) rfl ?_); refine box_event ?hg (N := 3) ?hd (cs := #[.int .i64 a1_0, .int .i64 a1_1, .int .i64 a1_2, .int .i64 a1_3, .string a1_4, .int .i64 a1_5]) (t := 41) ?hr ?_; (case hd => rfl); (case hg => rfl); (case hr => first | (go_simp; done) | (go_simp; rfl)); intro gb307 hg w6 hbox hb; have n0_ := ak (below_step (by repeat (first | (with_reducible first | exact HB.out | apply wA | apply wN | apply wD) | exact HB.out)) hb); have n1_ := ak (hbox); have n2_ := ak ((by rw [hg]; exact (below_size (by repeat (first | (with_reducible first | exact HB.out | apply wA | apply wN | apply wD) | exact HB.out))) : w.heap.size ≤ gb307)); have n3_ := ak ((by rw [hg]; exact (below_size (by repeat (first | (with_reducible first | exact HB.out | apply wA | apply wN | apply wD) | exact HB.out))) : w.heap.size ≤ gb307)); clear HB; have HB := n0_; have BK307 := n1_; have GW307 := n2_; have GE307 := n3_; clear n0_ n1_ n2_ n3_; clear hb hbox hg; have hcz7_0 : w6.cell? ⟨gb307, 0, none⟩ = some (.int .i64 a1_0) := (blk_cell BK307.out 0).trans rfl; have hcz7_1 : w6.cell? ⟨gb307, 1, none⟩ = some (.int .i64 a1_1) := (blk_cell BK307.out 1).trans rfl; have hcz7_2 : w6.cell? ⟨gb307, 2, none⟩ = some (.int .i64 a1_2) := (blk_cell BK307.out 2).trans rfl; have hcz7_3 : w6.cell? ⟨gb307, 3, none⟩ = some (.int .i64 a1_3) := (blk_cell BK307.out 3).trans rfl; have hcz7_4 : w6.cell? ⟨gb307, 4, none⟩ = some (.string a1_4) := (blk_cell BK307.out 4).trans rfl; have hcz7_5 : w6.cell? ⟨gb307, 5, none⟩ = some (.int .i64 a1_5) := (blk_cell BK307.out 5).trans rfl; have hfz7_0 := blk_frozen BK307.out 0; have hfz7_1 := blk_frozen BK307.out 1; have hfz7_2 := blk_frozen BK307.out 2; have hfz7_3 := blk_frozen BK307.out 3; have hfz7_4 := blk_frozen BK307.out 4; have hfz7_5 := blk_frozen BK307.out 5) | (go_at_call 24; (with_reducible refine (mummerref08_Message.calls k _ _ l0 a1_0 a1_1 a1_2 a1_3 a1_4 a1_5 t308 t309 _ ?side1 ?side2 A3.out).mono ?_); (case side1 => repeat (first | exact (Kd.C_below HR0.out HB.out) | (with_reducible refine Kd.C_alloc ?_ _) | (with_reducible refine Kd.C_drewN ?_ _) | (with_reducible refine Kd.C_drew ?_))); (case side2 => exact HC0.out); rintro e w8 ⟨rfl, hb⟩; have n0_ := ak (blk_below (g := gb307) (o := .cells #[.int .i64 a1_0, .int .i64 a1_1, .int .i64 a1_2, .int .i64 a1_3, .string a1_4, .int .i64 a1_5] 41 (0, 0)) (by (with_reducible repeat (first | refine bN ?_ _ | refine bD ?_ | refine bA ?_ _)); exact BK307.out) hb); have n1_ := ak (below_step (by repeat (first | (with_reducible first | exact HB.out | apply wA | apply wN | apply wD | refine below_set ?_ GE307.out) | exact HB.out)) hb); clear BK307; clear HB; have BK307 := n0_; have HB := n1_; clear n0_ n1_; (try clear hb); (try clear hb2); (try clear hk); (try clear hi); have hcz9_0 : w8.cell? ⟨gb307, 0, none⟩ = some (.int .i64 a1_0) := (blk_cell BK307.out 0).trans rfl; have hcz9_1 : w8.cell? ⟨gb307, 1, none⟩ = some (.int .i64 a1_1) := (blk_cell BK307.out 1).trans rfl; have hcz9_2 : w8.cell? ⟨gb307, 2, none⟩ = some (.int .i64 a1_2) := (blk_cell BK307.out 2).trans rfl; have hcz9_3 : w8.cell? ⟨gb307, 3, none⟩ = some (.int .i64 a1_3) := (blk_cell BK307.out 3).trans rfl; have hcz9_4 : w8.cell? ⟨gb307, 4, none⟩ = some (.string a1_4) := (blk_cell BK307.out 4).trans rfl; have hcz9_5 : w8.cell? ⟨gb307, 5, none⟩ = some (.int .i64 a1_5) := (blk_cell BK307.out 5).trans rfl; have hfz9_0 := blk_frozen BK307.out 0; have hfz9_1 := blk_frozen BK307.out 1; have hfz9_2 := blk_frozen BK307.out 2; have hfz9_3 := blk_frozen BK307.out 3; have hfz9_4 := blk_frozen BK307.out 4; have hfz9_5 := blk_frozen BK307.out 5) | (go_at_call 53; (with_reducible refine (mummerref08_begin.calls k _ _ l0 a1_2 t310 _ ?side1 ?side2 A4.out).mono ?_); (case side1 => repeat (first | exact (Kd.C_below HR0.out HB.out) | (with_reducible refine Kd.C_alloc ?_ _) | (with_reducible refine Kd.C_drewN ?_ _) | (with_reducible refine Kd.C_drew ?_))); (case side2 => exact HC0.out); rintro e w' ⟨rfl, ⟨nd, rfl⟩⟩; (try first | exact ⟨rfl, _, World.drewN_drewN _ _ _⟩ | exact ⟨rfl, _, Eq.trans (World.drewN_drewN _ _ _) (congrArg (World.drewN _) (Nat.add_assoc _ _ _))⟩))))
 (try simp only [Act.put, List.setIfInBounds_toArray, List.set_cons_zero, List.set_cons_succ])
 go_cut [8] (fun v8 wc => ∃ (kq : Nat) (x8_4 : Int), v8 = .int .i64 x8_4 ∧ Aside0 (mummerref08_picture.j1 kq l0 t308 t310 x8_4 a1_0 a1_1 a1_2 a1_3 a1_4 a1_5 = some r) ∧ Aside0 (kq ≤ k) ∧ Aside0 (wc.heap[gb307]? = some (.cells #[.int .i64 a1_0, .int .i64 a1_1, .int .i64 a1_2, .int .i64 a1_3, .string a1_4, .int .i64 a1_5] 41 (0, 0))) ∧ Aside0 (Below w.heap.size w wc))
 case first =>
  have H := HC5.out
  clear HC5
  have H' := ak H
  clear H
  go_wp2
  repeat (go_quiet (fail); try go_wp2)
  go_loopg [8] k (fun kq v8 w' => ∃ (x8_1 : Int), v8 = .int .i64 x8_1 ∧ Aside0 (mummerref08_picture.l0 kq l0 t308 t310 x8_1 a1_0 a1_1 a1_2 a1_3 a1_4 a1_5 = some r) ∧ Aside0 (kq ≤ k) ∧ Aside0 (w'.heap[gb307]? = some (.cells #[.int .i64 a1_0, .int .i64 a1_1, .int .i64 a1_2, .int .i64 a1_3, .string a1_4, .int .i64 a1_5] 41 (0, 0))) ∧ Aside0 (Below w.heap.size w w'))
  case atStart => exact ⟨(a1_2), (by first | rfl | (simp; done) | (simp [*]; done)), H', ⟨Nat.le_refl _⟩, ⟨by (with_reducible repeat (first | refine bN ?_ _ | refine bD ?_ | refine bA ?_ _)); exact BK307.out⟩, ⟨by repeat (first | (with_reducible first | exact HB.out | apply wA | apply wN | apply wD | refine below_set ?_ GE307.out) | exact HB.out)⟩⟩
  case round =>
   clear H'
   try clear p2
   try clear c5
   try clear hcz7_0
   try clear hcz7_1
   try clear hcz7_2
   try clear hcz7_3
   try clear hcz7_4
   try clear hcz7_5
   try clear hcz9_0
   try clear hcz9_1
   try clear hcz9_2
   try clear hcz9_3
   try clear hcz9_4
   try clear hcz9_5
   try clear hfz7_0
   try clear hfz7_1
   try clear hfz7_2
   try clear hfz7_3
   try clear hfz7_4
   try clear hfz7_5
   try clear hfz9_0
   try clear hfz9_1
   try clear hfz9_2
   try clear hfz9_3
   try clear hfz9_4
   try clear hfz9_5
   obtain ⟨x8_1, rfl, HA, HK1, BK307, HB⟩ := hrel
   cases gk with
   | zero => exact absurd HA.out (by simp [mummerref08_picture.l0])
   | succ k1 =>
    have H := HA.out
    clear HA
    simp only [mummerref08_picture.l0] at H
    by_cases c10 : x8_1 < (l0.length : Int)
    ·rw [if_pos c10] at H
     have c10b0 : decide (x8_1 < (l0.length : Int)) = true := decide_eq_true c10
     clear c10
     (first | rw [c10b0] | (simp only [i64_w, i32_w]; rw [c10b0]) | skip)
     by_cases c11 : 0 ≤ x8_1
     ·rw [if_pos c11] at H
      have c11b0 : decide (0 ≤ x8_1) = true := decide_eq_true c11
      clear c11
      by_cases c12 : (rd l0 x8_1) = 10
      ·rw [if_pos c12] at H
       have c12b0 : ((rd l0 x8_1) == 10) = true := beq_iff_eq.mpr c12
       have c12b1 : ((rd l0 x8_1) != 10) = false := bne_eq_false_iff_eq.mpr c12
       clear c12
       have H' := ak H
       clear H
       have p311 : 0 ≤ (x8_1 : Int) := of_decide_eq_true (by first | (with_reducible assumption) | assumption)
       have q311 : x8_1 < (l0.length : Int) := of_decide_eq_true (by first | (with_reducible assumption) | assumption)
       obtain ⟨ad311, e311, hx311_0⟩ := Kd.at_int HR0.out x8_1 p311 q311
       cases e311
       replace hx311_0 := (HB.out.cell (World.block_lt_of_cell? w _ hx311_0)).trans hx311_0
       replace p311 := eq_true p311
       replace q311 := eq_true q311
       go_wp2
       repeat (go_quiet (fail); try go_wp2)
       go_meet
       case rel => exact ⟨_, (x8_1), (by first | rfl | (simp; done) | (simp [*]; done)), H', ⟨by have := HK1.out; first | omega | exact Nat.le_refl _⟩, ⟨by (with_reducible repeat (first | refine bN ?_ _ | refine bD ?_ | refine bA ?_ _)); exact BK307.out⟩, ⟨by repeat (first | (with_reducible first | exact HB.out | apply wA | apply wN | apply wD | refine below_set ?_ GE307.out) | exact HB.out)⟩⟩
      ·rw [if_neg c12] at H
       have c12b0 : ((rd l0 x8_1) == 10) = false := beq_eq_false_iff_ne.mpr c12
       have c12b1 : ((rd l0 x8_1) != 10) = true := bne_iff_ne.mpr c12
       have H' := ak H
       clear H
       have p311 : 0 ≤ (x8_1 : Int) := of_decide_eq_true (by first | (with_reducible assumption) | assumption)
       have q311 : x8_1 < (l0.length : Int) := of_decide_eq_true (by first | (with_reducible assumption) | assumption)
       obtain ⟨ad311, e311, hx311_0⟩ := Kd.at_int HR0.out x8_1 p311 q311
       cases e311
       replace hx311_0 := (HB.out.cell (World.block_lt_of_cell? w _ hx311_0)).trans hx311_0
       replace p311 := eq_true p311
       replace q311 := eq_true q311
       go_wp2
       repeat (go_quiet (fail); try go_wp2)
       go_roundg k1
       case measure => have := HK1.out; omega
       case rel => exact ⟨(wrap64 (x8_1 + 1)), (by first | rfl | (simp; done) | (simp [*]; done)), H', ⟨by have := HK1.out; omega⟩, ⟨by (with_reducible repeat (first | refine bN ?_ _ | refine bD ?_ | refine bA ?_ _)); exact BK307.out⟩, ⟨by repeat (first | (with_reducible first | exact HB.out | apply wA | apply wN | apply wD | refine below_set ?_ GE307.out) | exact HB.out)⟩⟩
     ·rw [if_neg c11] at H
      exact absurd H (by simp)
    ·rw [if_neg c10] at H
     have c10b0 : decide (x8_1 < (l0.length : Int)) = false := decide_eq_false c10
     clear c10
     (first | rw [c10b0] | (simp only [i64_w, i32_w]; rw [c10b0]) | skip)
     have H' := ak H
     clear H
     go_wp2
     repeat (go_quiet (fail); try go_wp2)
     go_meet
     case rel => exact ⟨_, (x8_1), (by first | rfl | (simp; done) | (simp [*]; done)), H', ⟨by have := HK1.out; first | omega | exact Nat.le_refl _⟩, ⟨by (with_reducible repeat (first | refine bN ?_ _ | refine bD ?_ | refine bA ?_ _)); exact BK307.out⟩, ⟨by repeat (first | (with_reducible first | exact HB.out | apply wA | apply wN | apply wD | refine below_set ?_ GE307.out) | exact HB.out)⟩⟩
 case rest =>
  clear HC5
  try clear c1
  try clear p2
  try clear p3
  try clear q3
  try clear hx3
  try clear c5
  try clear p6
  try clear c10
  try clear c10b0
  try clear c11
  try clear c11b0
  try clear c12
  try clear c12b0
  try clear c12b1
  try clear hcz7_0
  try clear hcz7_1
  try clear hcz7_2
  try clear hcz7_3
  try clear hcz7_4
  try clear hcz7_5
  try clear hcz9_0
  try clear hcz9_1
  try clear hcz9_2
  try clear hcz9_3
  try clear hcz9_4
  try clear hcz9_5
  try clear hfz7_0
  try clear hfz7_1
  try clear hfz7_2
  try clear hfz7_3
  try clear hfz7_4
  try clear hfz7_5
  try clear hfz9_0
  try clear hfz9_1
  try clear hfz9_2
  try clear hfz9_3
  try clear hfz9_4
  try clear hfz9_5
  try clear hx311_0
  try clear p2
  try clear p311
  try clear q311
  obtain ⟨kq, x8_4, rfl, HA, HJ4, BK307, HB⟩ := hcut
  cases kq with
  | zero => exact absurd HA.out (by simp [mummerref08_picture.j1])
  | succ kj4 =>
   have H := HA.out
   clear HA
   simp only [mummerref08_picture.j1] at H
   replace H := Option.bind_eq_some_iff.mp H
   obtain ⟨⟨t312, t313, t314⟩, A130, H⟩ := H
   try dsimp only at H
   have A13 := ak A130
   clear A130
   replace H := Option.bind_eq_some_iff.mp H
   obtain ⟨⟨t315, t316⟩, A140, H⟩ := H
   try dsimp only at H
   have A14 := ak A140
   clear A140
   have H' := ak H
   clear H
   have hcz15_0 : wc.cell? ⟨gb307, 0, none⟩ = some (.int .i64 a1_0) := (blk_cell BK307.out 0).trans rfl
   have hcz15_1 : wc.cell? ⟨gb307, 1, none⟩ = some (.int .i64 a1_1) := (blk_cell BK307.out 1).trans rfl
   have hcz15_2 : wc.cell? ⟨gb307, 2, none⟩ = some (.int .i64 a1_2) := (blk_cell BK307.out 2).trans rfl
   have hcz15_3 : wc.cell? ⟨gb307, 3, none⟩ = some (.int .i64 a1_3) := (blk_cell BK307.out 3).trans rfl
   have hcz15_4 : wc.cell? ⟨gb307, 4, none⟩ = some (.string a1_4) := (blk_cell BK307.out 4).trans rfl
   have hcz15_5 : wc.cell? ⟨gb307, 5, none⟩ = some (.int .i64 a1_5) := (blk_cell BK307.out 5).trans rfl
   have hfz15_0 := blk_frozen BK307.out 0
   have hfz15_1 := blk_frozen BK307.out 1
   have hfz15_2 := blk_frozen BK307.out 2
   have hfz15_3 := blk_frozen BK307.out 3
   have hfz15_4 := blk_frozen BK307.out 4
   have hfz15_5 := blk_frozen BK307.out 5
   go_wp2_with (first | (go_at_call 16; (with_reducible refine (mummerref08_Place.calls kj4 _ _ l0 a1_2 t312 t313 t314 _ ?side1 ?side2 A13.out).mono ?_); (case side1 => repeat (first | exact (Kd.C_below HR0.out HB.out) | (with_reducible refine Kd.C_alloc ?_ _) | (with_reducible refine Kd.C_drewN ?_ _) | (with_reducible refine Kd.C_drew ?_))); (case side2 => exact HC0.out); rintro e w16 ⟨rfl, hb⟩; have n0_ := ak (blk_below (g := gb307) (o := .cells #[.int .i64 a1_0, .int .i64 a1_1, .int .i64 a1_2, .int .i64 a1_3, .string a1_4, .int .i64 a1_5] 41 (0, 0)) (by (with_reducible repeat (first | refine bN ?_ _ | refine bD ?_ | refine bA ?_ _)); exact BK307.out) hb); have n1_ := ak (below_step (by repeat (first | (with_reducible first | exact HB.out | apply wA | apply wN | apply wD | refine below_set ?_ GE307.out) | exact HB.out)) hb); clear BK307; clear HB; have BK307 := n0_; have HB := n1_; clear n0_ n1_; (try clear hb); (try clear hb2); (try clear hk); (try clear hi)) | (go_at_call 25; (with_reducible refine (mummerref02_Starts.calls kj4 _ _ l0 t315 t316 _ ?side1 ?side2 A14.out).mono ?_); (case side1 => repeat (first | exact (Kd.C_below HR0.out HB.out) | (with_reducible refine Kd.C_alloc ?_ _) | (with_reducible refine Kd.C_drewN ?_ _) | (with_reducible refine Kd.C_drew ?_))); (case side2 => exact HC0.out); rintro e w17 ⟨v317, rfl, ho0, hb⟩; have n0_ := ak (Kd.R_lower ho0 (below_size (by repeat (first | (with_reducible first | exact HB.out | apply wA | apply wN | apply wD | refine below_set ?_ GE307.out) | exact HB.out)))); have n1_ := ak (blk_below (g := gb307) (o := .cells #[.int .i64 a1_0, .int .i64 a1_1, .int .i64 a1_2, .int .i64 a1_3, .string a1_4, .int .i64 a1_5] 41 (0, 0)) (by (with_reducible repeat (first | refine bN ?_ _ | refine bD ?_ | refine bA ?_ _)); exact BK307.out) hb); have n2_ := ak (below_step (by repeat (first | (with_reducible first | exact HB.out | apply wA | apply wN | apply wD | refine below_set ?_ GE307.out) | exact HB.out)) hb); clear BK307; clear HB; have HO318 := n0_; have BK307 := n1_; have HB := n2_; clear n0_ n1_ n2_; (try clear hb); (try clear hb2); (try clear hk); (try clear hi); (try clear ho0)))
   repeat (go_quiet (first | (go_at_call 16; (with_reducible refine (mummerref08_Place.calls kj4 _ _ l0 a1_2 t312 t313 t314 _ ?side1 ?side2 A13.out).mono ?_); (case side1 => repeat (first | exact (Kd.C_below HR0.out HB.out) | (with_reducible refine Kd.C_alloc ?_ _) | (with_reducible refine Kd.C_drewN ?_ _) | (with_reducible refine Kd.C_drew ?_))); (case side2 => exact HC0.out); rintro e w16 ⟨rfl, hb⟩; have n0_ := ak (blk_below (g := gb307) (o := .cells #[.int .i64 a1_0, .int .i64 a1_1, .int .i64 a1_2, .int .i64 a1_3, .string a1_4, .int .i64 a1_5] 41 (0, 0)) (by (with_reducible repeat (first | refine bN ?_ _ | refine bD ?_ | refine bA ?_ _)); exact BK307.out) hb); have n1_ := ak (below_step (by repeat (first | (with_reducible first | exact HB.out | apply wA | apply wN | apply wD | refine below_set ?_ GE307.out) | exact HB.out)) hb); clear BK307; clear HB; have BK307 := n0_; have HB := n1_; clear n0_ n1_; (try clear hb); (try clear hb2); (try clear hk); (try clear hi)) | (go_at_call 25; (with_reducible refine (mummerref02_Starts.calls kj4 _ _ l0 t315 t316 _ ?side1 ?side2 A14.out).mono ?_); (case side1 => repeat (first | exact (Kd.C_below HR0.out HB.out) | (with_reducible refine Kd.C_alloc ?_ _) | (with_reducible refine Kd.C_drewN ?_ _) | (with_reducible refine Kd.C_drew ?_))); (case side2 => exact HC0.out); rintro e w17 ⟨v317, rfl, ho0, hb⟩; have n0_ := ak (Kd.R_lower ho0 (below_size (by repeat (first | (with_reducible first | exact HB.out | apply wA | apply wN | apply wD | refine below_set ?_ GE307.out) | exact HB.out)))); have n1_ := ak (blk_below (g := gb307) (o := .cells #[.int .i64 a1_0, .int .i64 a1_1, .int .i64 a1_2, .int .i64 a1_3, .string a1_4, .int .i64 a1_5] 41 (0, 0)) (by (with_reducible repeat (first | refine bN ?_ _ | refine bD ?_ | refine bA ?_ _)); exact BK307.out) hb); have n2_ := ak (below_step (by repeat (first | (with_reducible first | exact HB.out | apply wA | apply wN | apply wD | refine below_set ?_ GE307.out) | exact HB.out)) hb); clear BK307; clear HB; have HO318 := n0_; have BK307 := n1_; have HB := n2_; clear n0_ n1_ n2_; (try clear hb); (try clear hb2); (try clear hk); (try clear hi); (try clear ho0))); try go_wp2_with (first | (go_at_call 16; (with_reducible refine (mummerref08_Place.calls kj4 _ _ l0 a1_2 t312 t313 t314 _ ?side1 ?side2 A13.out).mono ?_); (case side1 => repeat (first | exact (Kd.C_below HR0.out HB.out) | (with_reducible refine Kd.C_alloc ?_ _) | (with_reducible refine Kd.C_drewN ?_ _) | (with_reducible refine Kd.C_drew ?_))); (case side2 => exact HC0.out); rintro e w16 ⟨rfl, hb⟩; have n0_ := ak (blk_below (g := gb307) (o := .cells #[.int .i64 a1_0, .int .i64 a1_1, .int .i64 a1_2, .int .i64 a1_3, .string a1_4, .int .i64 a1_5] 41 (0, 0)) (by (with_reducible repeat (first | refine bN ?_ _ | refine bD ?_ | refine bA ?_ _)); exact BK307.out) hb); have n1_ := ak (below_step (by repeat (first | (with_reducible first | exact HB.out | apply wA | apply wN | apply wD | refine below_set ?_ GE307.out) | exact HB.out)) hb); clear BK307; clear HB; have BK307 := n0_; have HB := n1_; clear n0_ n1_; (try clear hb); (try clear hb2); (try clear hk); (try clear hi)) | (go_at_call 25; (with_reducible refine (mummerref02_Starts.calls kj4 _ _ l0 t315 t316 _ ?side1 ?side2 A14.out).mono ?_); (case side1 => repeat (first | exact (Kd.C_below HR0.out HB.out) | (with_reducible refine Kd.C_alloc ?_ _) | (with_reducible refine Kd.C_drewN ?_ _) | (with_reducible refine Kd.C_drew ?_))); (case side2 => exact HC0.out); rintro e w17 ⟨v317, rfl, ho0, hb⟩; have n0_ := ak (Kd.R_lower ho0 (below_size (by repeat (first | (with_reducible first | exact HB.out | apply wA | apply wN | apply wD | refine below_set ?_ GE307.out) | exact HB.out)))); have n1_ := ak (blk_below (g := gb307) (o := .cells #[.int .i64 a1_0, .int .i64 a1_1, .int .i64 a1_2, .int .i64 a1_3, .string a1_4, .int .i64 a1_5] 41 (0, 0)) (by (with_reducible repeat (first | refine bN ?_ _ | refine bD ?_ | refine bA ?_ _)); exact BK307.out) hb); have n2_ := ak (below_step (by repeat (first | (with_reducible first | exact HB.out | apply wA | apply wN | apply wD | refine below_set ?_ GE307.out) | exact HB.out)) hb); clear BK307; clear HB; have HO318 := n0_; have BK307 := n1_; have HB := n2_; clear n0_ n1_ n2_; (try clear hb); (try clear hb2); (try clear hk); (try clear hi); (try clear ho0))))
   go_loopg [14, 15] kj4 (fun kq v14 v15 w' => ∃ (x14_2 : Int) (x15_2 : Int), v14 = .int .i64 x14_2 ∧ v15 = .int .i64 x15_2 ∧ Aside0 (mummerref08_picture.l1 kq l0 t308 t310 x8_4 t313 t315 x14_2 x15_2 a1_0 a1_1 a1_2 a1_3 a1_4 a1_5 = some r) ∧ Aside0 (kq ≤ kj4) ∧ Aside0 (Kd.R (Kd.int .i64) 3 w' w.heap.size (fun _ => True) v317 t315) ∧ Aside0 (w'.heap[gb307]? = some (.cells #[.int .i64 a1_0, .int .i64 a1_1, .int .i64 a1_2, .int .i64 a1_3, .string a1_4, .int .i64 a1_5] 41 (0, 0))) ∧ Aside0 (Below w.heap.size w w'))
   case atStart => exact ⟨(0), (0), (by first | rfl | (simp; done) | (simp [*]; done)), (by first | rfl | (simp; done) | (simp [*]; done)), H', ⟨Nat.le_refl _⟩, ⟨by (with_reducible repeat (first | apply Kd.R_alloc | apply Kd.R_drewN | apply Kd.R_drew)); exact HO318.out⟩, ⟨by (with_reducible repeat (first | refine bN ?_ _ | refine bD ?_ | refine bA ?_ _)); exact BK307.out⟩, ⟨by repeat (first | (with_reducible first | exact HB.out | apply wA | apply wN | apply wD | refine below_set ?_ GE307.out) | exact HB.out)⟩⟩
   case round =>
    clear H'
    try clear c1
    try clear p2
    try clear p3
    try clear q3
    try clear hx3
    try clear c5
    try clear p6
    try clear c10
    try clear c10b0
    try clear c11
    try clear c11b0
    try clear c12
    try clear c12b0
    try clear c12b1
    try clear hcz15_0
    try clear hcz15_1
    try clear hcz15_2
    try clear hcz15_3
    try clear hcz15_4
    try clear hcz15_5
    try clear hcz7_0
    try clear hcz7_1
    try clear hcz7_2
    try clear hcz7_3
    try clear hcz7_4
    try clear hcz7_5
    try clear hcz9_0
    try clear hcz9_1
    try clear hcz9_2
    try clear hcz9_3
    try clear hcz9_4
    try clear hcz9_5
    try clear hfz15_0
    try clear hfz15_1
    try clear hfz15_2
    try clear hfz15_3
    try clear hfz15_4
    try clear hfz15_5
    try clear hfz7_0
    try clear hfz7_1
    try clear hfz7_2
    try clear hfz7_3
    try clear hfz7_4
    try clear hfz7_5
    try clear hfz9_0
    try clear hfz9_1
    try clear hfz9_2
    try clear hfz9_3
    try clear hfz9_4
    try clear hfz9_5
    try clear hx311_0
    try clear p2
    try clear p3
    try clear p311
    try clear p6
    try clear q3
    try clear q311
    obtain ⟨x14_2, x15_2, rfl, rfl, HA, HK2, HO_12, BK307, HB⟩ := hrel
    cases gk with
    | zero => exact absurd HA.out (by simp [mummerref08_picture.l1])
    | succ k2 =>
     have H := HA.out
     clear HA
     simp only [mummerref08_picture.l1] at H
     by_cases c18 : x15_2 < (t315.length : Int)
     ·rw [if_pos c18] at H
      have c18b0 : decide (x15_2 < (t315.length : Int)) = true := decide_eq_true c18
      clear c18
      by_cases c19 : 0 ≤ x15_2
      ·rw [if_pos c19] at H
       have c19b0 : decide (0 ≤ x15_2) = true := decide_eq_true c19
       clear c19
       by_cases c20 : (rd t315 x15_2) ≥ a1_2
       ·rw [if_pos c20] at H
        have c20b0 : decide (a1_2 ≤ (rd t315 x15_2)) = true := decide_eq_true c20
        clear c20
        by_cases c21 : (rd t315 x15_2) < a1_3
        ·rw [if_pos c21] at H
         have c21b0 : decide ((rd t315 x15_2) < a1_3) = true := decide_eq_true c21
         clear c21
         by_cases c22 : (rd t315 x15_2) < x8_4
         ·rw [if_pos c22] at H
          have c22b0 : decide ((rd t315 x15_2) < x8_4) = true := decide_eq_true c22
          clear c22
          have H' := ak H
          clear H
          obtain ⟨Ao23, co23, eo23⟩ := Kd.R_slice HO_12.out
          subst eo23
          have p319 : 0 ≤ (x15_2 : Int) := of_decide_eq_true (by first | (with_reducible assumption) | assumption)
          have q319 : x15_2 < (t315.length : Int) := of_decide_eq_true (by first | (with_reducible assumption) | assumption)
          obtain ⟨ad319, e319, hx319_0⟩ := Kd.at_int (Kd.R_reads' HO_12.out).2.2 x15_2 p319 q319
          cases e319
          replace p319 := eq_true p319
          replace q319 := eq_true q319
          have hcz24_0 : wr.cell? ⟨gb307, 0, none⟩ = some (.int .i64 a1_0) := (blk_cell BK307.out 0).trans rfl
          have hcz24_1 : wr.cell? ⟨gb307, 1, none⟩ = some (.int .i64 a1_1) := (blk_cell BK307.out 1).trans rfl
          have hcz24_2 : wr.cell? ⟨gb307, 2, none⟩ = some (.int .i64 a1_2) := (blk_cell BK307.out 2).trans rfl
          have hcz24_3 : wr.cell? ⟨gb307, 3, none⟩ = some (.int .i64 a1_3) := (blk_cell BK307.out 3).trans rfl
          have hcz24_4 : wr.cell? ⟨gb307, 4, none⟩ = some (.string a1_4) := (blk_cell BK307.out 4).trans rfl
          have hcz24_5 : wr.cell? ⟨gb307, 5, none⟩ = some (.int .i64 a1_5) := (blk_cell BK307.out 5).trans rfl
          have hfz24_0 := blk_frozen BK307.out 0
          have hfz24_1 := blk_frozen BK307.out 1
          have hfz24_2 := blk_frozen BK307.out 2
          have hfz24_3 := blk_frozen BK307.out 3
          have hfz24_4 := blk_frozen BK307.out 4
          have hfz24_5 := blk_frozen BK307.out 5
          have p320 : 0 ≤ (x15_2 : Int) := of_decide_eq_true (by first | (with_reducible assumption) | assumption)
          have q320 : x15_2 < (t315.length : Int) := of_decide_eq_true (by first | (with_reducible assumption) | assumption)
          obtain ⟨ad320, e320, hx320_0⟩ := Kd.at_int (Kd.R_reads' HO_12.out).2.2 x15_2 p320 q320
          obtain rfl : ad319 = ad320 := (by injection e320)
          replace p320 := eq_true p320
          replace q320 := eq_true q320
          have p321 : 0 ≤ (x15_2 : Int) := of_decide_eq_true (by first | (with_reducible assumption) | assumption)
          have q321 : x15_2 < (t315.length : Int) := of_decide_eq_true (by first | (with_reducible assumption) | assumption)
          obtain ⟨ad321, e321, hx321_0⟩ := Kd.at_int (Kd.R_reads' HO_12.out).2.2 x15_2 p321 q321
          obtain rfl : ad319 = ad321 := (by injection e321)
          replace p321 := eq_true p321
          replace q321 := eq_true q321
          go_wp2
          repeat (go_quiet (fail); try go_wp2)
          go_roundg k2
          case measure => have := HJ4.out; have := HK2.out; omega
          case rel => exact ⟨(wrap64 (x14_2 + 1)), (wrap64 (x15_2 + 1)), (by first | rfl | (simp; done) | (simp [*]; done)), (by first | rfl | (simp; done) | (simp [*]; done)), H', ⟨by have := HJ4.out; have := HK2.out; omega⟩, ⟨by (with_reducible repeat (first | apply Kd.R_alloc | apply Kd.R_drewN | apply Kd.R_drew)); exact HO_12.out⟩, ⟨by (with_reducible repeat (first | refine bN ?_ _ | refine bD ?_ | refine bA ?_ _)); exact BK307.out⟩, ⟨by repeat (first | (with_reducible first | exact HB.out | apply wA | apply wN | apply wD | refine below_set ?_ GE307.out) | exact HB.out)⟩⟩
         ·rw [if_neg c22] at H
          have c22b0 : decide ((rd t315 x15_2) < x8_4) = false := decide_eq_false c22
          clear c22
          have H' := ak H
          clear H
          obtain ⟨Ao25, co25, eo25⟩ := Kd.R_slice HO_12.out
          subst eo25
          have p319 : 0 ≤ (x15_2 : Int) := of_decide_eq_true (by first | (with_reducible assumption) | assumption)
          have q319 : x15_2 < (t315.length : Int) := of_decide_eq_true (by first | (with_reducible assumption) | assumption)
          obtain ⟨ad319, e319, hx319_0⟩ := Kd.at_int (Kd.R_reads' HO_12.out).2.2 x15_2 p319 q319
          cases e319
          replace p319 := eq_true p319
          replace q319 := eq_true q319
          have hcz26_0 : wr.cell? ⟨gb307, 0, none⟩ = some (.int .i64 a1_0) := (blk_cell BK307.out 0).trans rfl
          have hcz26_1 : wr.cell? ⟨gb307, 1, none⟩ = some (.int .i64 a1_1) := (blk_cell BK307.out 1).trans rfl
          have hcz26_2 : wr.cell? ⟨gb307, 2, none⟩ = some (.int .i64 a1_2) := (blk_cell BK307.out 2).trans rfl
          have hcz26_3 : wr.cell? ⟨gb307, 3, none⟩ = some (.int .i64 a1_3) := (blk_cell BK307.out 3).trans rfl
          have hcz26_4 : wr.cell? ⟨gb307, 4, none⟩ = some (.string a1_4) := (blk_cell BK307.out 4).trans rfl
          have hcz26_5 : wr.cell? ⟨gb307, 5, none⟩ = some (.int .i64 a1_5) := (blk_cell BK307.out 5).trans rfl
          have hfz26_0 := blk_frozen BK307.out 0
          have hfz26_1 := blk_frozen BK307.out 1
          have hfz26_2 := blk_frozen BK307.out 2
          have hfz26_3 := blk_frozen BK307.out 3
          have hfz26_4 := blk_frozen BK307.out 4
          have hfz26_5 := blk_frozen BK307.out 5
          have p320 : 0 ≤ (x15_2 : Int) := of_decide_eq_true (by first | (with_reducible assumption) | assumption)
          have q320 : x15_2 < (t315.length : Int) := of_decide_eq_true (by first | (with_reducible assumption) | assumption)
          obtain ⟨ad320, e320, hx320_0⟩ := Kd.at_int (Kd.R_reads' HO_12.out).2.2 x15_2 p320 q320
          obtain rfl : ad319 = ad320 := (by injection e320)
          replace p320 := eq_true p320
          replace q320 := eq_true q320
          have p321 : 0 ≤ (x15_2 : Int) := of_decide_eq_true (by first | (with_reducible assumption) | assumption)
          have q321 : x15_2 < (t315.length : Int) := of_decide_eq_true (by first | (with_reducible assumption) | assumption)
          obtain ⟨ad321, e321, hx321_0⟩ := Kd.at_int (Kd.R_reads' HO_12.out).2.2 x15_2 p321 q321
          obtain rfl : ad319 = ad321 := (by injection e321)
          replace p321 := eq_true p321
          replace q321 := eq_true q321
          go_wp2
          repeat (go_quiet (fail); try go_wp2)
          go_roundg k2
          case measure => have := HJ4.out; have := HK2.out; omega
          case rel => exact ⟨(x14_2), (wrap64 (x15_2 + 1)), (by first | rfl | (simp; done) | (simp [*]; done)), (by first | rfl | (simp; done) | (simp [*]; done)), H', ⟨by have := HJ4.out; have := HK2.out; omega⟩, ⟨by (with_reducible repeat (first | apply Kd.R_alloc | apply Kd.R_drewN | apply Kd.R_drew)); exact HO_12.out⟩, ⟨by (with_reducible repeat (first | refine bN ?_ _ | refine bD ?_ | refine bA ?_ _)); exact BK307.out⟩, ⟨by repeat (first | (with_reducible first | exact HB.out | apply wA | apply wN | apply wD | refine below_set ?_ GE307.out) | exact HB.out)⟩⟩
        ·rw [if_neg c21] at H
         have c21b0 : decide ((rd t315 x15_2) < a1_3) = false := decide_eq_false c21
         clear c21
         have H' := ak H
         clear H
         obtain ⟨Ao27, co27, eo27⟩ := Kd.R_slice HO_12.out
         subst eo27
         have p319 : 0 ≤ (x15_2 : Int) := of_decide_eq_true (by first | (with_reducible assumption) | assumption)
         have q319 : x15_2 < (t315.length : Int) := of_decide_eq_true (by first | (with_reducible assumption) | assumption)
         obtain ⟨ad319, e319, hx319_0⟩ := Kd.at_int (Kd.R_reads' HO_12.out).2.2 x15_2 p319 q319
         cases e319
         replace p319 := eq_true p319
         replace q319 := eq_true q319
         have hcz28_0 : wr.cell? ⟨gb307, 0, none⟩ = some (.int .i64 a1_0) := (blk_cell BK307.out 0).trans rfl
         have hcz28_1 : wr.cell? ⟨gb307, 1, none⟩ = some (.int .i64 a1_1) := (blk_cell BK307.out 1).trans rfl
         have hcz28_2 : wr.cell? ⟨gb307, 2, none⟩ = some (.int .i64 a1_2) := (blk_cell BK307.out 2).trans rfl
         have hcz28_3 : wr.cell? ⟨gb307, 3, none⟩ = some (.int .i64 a1_3) := (blk_cell BK307.out 3).trans rfl
         have hcz28_4 : wr.cell? ⟨gb307, 4, none⟩ = some (.string a1_4) := (blk_cell BK307.out 4).trans rfl
         have hcz28_5 : wr.cell? ⟨gb307, 5, none⟩ = some (.int .i64 a1_5) := (blk_cell BK307.out 5).trans rfl
         have hfz28_0 := blk_frozen BK307.out 0
         have hfz28_1 := blk_frozen BK307.out 1
         have hfz28_2 := blk_frozen BK307.out 2
         have hfz28_3 := blk_frozen BK307.out 3
         have hfz28_4 := blk_frozen BK307.out 4
         have hfz28_5 := blk_frozen BK307.out 5
         have p320 : 0 ≤ (x15_2 : Int) := of_decide_eq_true (by first | (with_reducible assumption) | assumption)
         have q320 : x15_2 < (t315.length : Int) := of_decide_eq_true (by first | (with_reducible assumption) | assumption)
         obtain ⟨ad320, e320, hx320_0⟩ := Kd.at_int (Kd.R_reads' HO_12.out).2.2 x15_2 p320 q320
         obtain rfl : ad319 = ad320 := (by injection e320)
         replace p320 := eq_true p320
         replace q320 := eq_true q320
         go_wp2
         repeat (go_quiet (fail); try go_wp2)
         go_roundg k2
         case measure => have := HJ4.out; have := HK2.out; omega
         case rel => exact ⟨(x14_2), (wrap64 (x15_2 + 1)), (by first | rfl | (simp; done) | (simp [*]; done)), (by first | rfl | (simp; done) | (simp [*]; done)), H', ⟨by have := HJ4.out; have := HK2.out; omega⟩, ⟨by (with_reducible repeat (first | apply Kd.R_alloc | apply Kd.R_drewN | apply Kd.R_drew)); exact HO_12.out⟩, ⟨by (with_reducible repeat (first | refine bN ?_ _ | refine bD ?_ | refine bA ?_ _)); exact BK307.out⟩, ⟨by repeat (first | (with_reducible first | exact HB.out | apply wA | apply wN | apply wD | refine below_set ?_ GE307.out) | exact HB.out)⟩⟩
       ·rw [if_neg c20] at H
        have c20b0 : decide (a1_2 ≤ (rd t315 x15_2)) = false := decide_eq_false c20
        clear c20
        have H' := ak H
        clear H
        obtain ⟨Ao29, co29, eo29⟩ := Kd.R_slice HO_12.out
        subst eo29
        have p319 : 0 ≤ (x15_2 : Int) := of_decide_eq_true (by first | (with_reducible assumption) | assumption)
        have q319 : x15_2 < (t315.length : Int) := of_decide_eq_true (by first | (with_reducible assumption) | assumption)
        obtain ⟨ad319, e319, hx319_0⟩ := Kd.at_int (Kd.R_reads' HO_12.out).2.2 x15_2 p319 q319
        cases e319
        replace p319 := eq_true p319
        replace q319 := eq_true q319
        have hcz30_0 : wr.cell? ⟨gb307, 0, none⟩ = some (.int .i64 a1_0) := (blk_cell BK307.out 0).trans rfl
        have hcz30_1 : wr.cell? ⟨gb307, 1, none⟩ = some (.int .i64 a1_1) := (blk_cell BK307.out 1).trans rfl
        have hcz30_2 : wr.cell? ⟨gb307, 2, none⟩ = some (.int .i64 a1_2) := (blk_cell BK307.out 2).trans rfl
        have hcz30_3 : wr.cell? ⟨gb307, 3, none⟩ = some (.int .i64 a1_3) := (blk_cell BK307.out 3).trans rfl
        have hcz30_4 : wr.cell? ⟨gb307, 4, none⟩ = some (.string a1_4) := (blk_cell BK307.out 4).trans rfl
        have hcz30_5 : wr.cell? ⟨gb307, 5, none⟩ = some (.int .i64 a1_5) := (blk_cell BK307.out 5).trans rfl
        have hfz30_0 := blk_frozen BK307.out 0
        have hfz30_1 := blk_frozen BK307.out 1
        have hfz30_2 := blk_frozen BK307.out 2
        have hfz30_3 := blk_frozen BK307.out 3
        have hfz30_4 := blk_frozen BK307.out 4
        have hfz30_5 := blk_frozen BK307.out 5
        go_wp2
        repeat (go_quiet (fail); try go_wp2)
        go_roundg k2
        case measure => have := HJ4.out; have := HK2.out; omega
        case rel => exact ⟨(x14_2), (wrap64 (x15_2 + 1)), (by first | rfl | (simp; done) | (simp [*]; done)), (by first | rfl | (simp; done) | (simp [*]; done)), H', ⟨by have := HJ4.out; have := HK2.out; omega⟩, ⟨by (with_reducible repeat (first | apply Kd.R_alloc | apply Kd.R_drewN | apply Kd.R_drew)); exact HO_12.out⟩, ⟨by (with_reducible repeat (first | refine bN ?_ _ | refine bD ?_ | refine bA ?_ _)); exact BK307.out⟩, ⟨by repeat (first | (with_reducible first | exact HB.out | apply wA | apply wN | apply wD | refine below_set ?_ GE307.out) | exact HB.out)⟩⟩
      ·rw [if_neg c19] at H
       exact absurd H (by simp)
     ·rw [if_neg c18] at H
      have c18b0 : decide (x15_2 < (t315.length : Int)) = false := decide_eq_false c18
      clear c18
      by_cases c31 : t308.size + 3 ≤ 9223372036854775807
      ·rw [if_pos c31] at H
       have c31b0 := eq_true c31
       have c31b1 : decide (t308.size + 3 ≤ 9223372036854775807) = true := decide_eq_true c31
       try have c31b2 : (9223372036854775807 < t308.size + 3) = False := eq_false (Nat.not_lt.2 c31)
       by_cases c32 : 0 ≤ t310
       ·rw [if_pos c32] at H
        have c32b0 := eq_true c32
        have c32b1 : decide (0 ≤ t310) = true := decide_eq_true c32
        clear c32
        by_cases c33 : t310 ≤ x8_4
        ·rw [if_pos c33] at H
         have c33b0 := eq_true c33
         have c33b1 : decide (t310 ≤ x8_4) = true := decide_eq_true c33
         clear c33
         by_cases c34 : x8_4 ≤ (l0.length : Int)
         ·rw [if_pos c34] at H
          have c34b0 := eq_true c34
          have c34b1 : decide (x8_4 ≤ (l0.length : Int)) = true := decide_eq_true c34
          clear c34
          by_cases c35 : (t308 ++ (⟨#[10, 32, 32]⟩ : ByteArray)).size + (strOfNums ((l0.take (x8_4 : Int).toNat).drop (t310 : Int).toNat)).size ≤ 9223372036854775807
          ·rw [if_pos c35] at H
           have c35b0 := eq_true c35
           have c35b1 : decide ((t308 ++ (⟨#[10, 32, 32]⟩ : ByteArray)).size + (strOfNums ((l0.take (x8_4 : Int).toNat).drop (t310 : Int).toNat)).size ≤ 9223372036854775807) = true := decide_eq_true c35
           try have c35b2 : (9223372036854775807 < (t308 ++ (⟨#[10, 32, 32]⟩ : ByteArray)).size + (strOfNums ((l0.take (x8_4 : Int).toNat).drop (t310 : Int).toNat)).size) = False := eq_false (Nat.not_lt.2 c35)
           try have c35b7 : (9223372036854775807 < t308.size + 3 + (strOfNums ((l0.take (x8_4 : Int).toNat).drop (t310 : Int).toNat)).size) = False := by have h7_ := c35; simp only [ByteArray.size_append] at h7_; exact eq_false (Nat.not_lt.2 h7_)
           by_cases c36 : ((t308 ++ (⟨#[10, 32, 32]⟩ : ByteArray)) ++ (strOfNums ((l0.take (x8_4 : Int).toNat).drop (t310 : Int).toNat))).size + 3 ≤ 9223372036854775807
           ·rw [if_pos c36] at H
            have c36b0 := eq_true c36
            have c36b1 : decide (((t308 ++ (⟨#[10, 32, 32]⟩ : ByteArray)) ++ (strOfNums ((l0.take (x8_4 : Int).toNat).drop (t310 : Int).toNat))).size + 3 ≤ 9223372036854775807) = true := decide_eq_true c36
            try have c36b2 : (9223372036854775807 < ((t308 ++ (⟨#[10, 32, 32]⟩ : ByteArray)) ++ (strOfNums ((l0.take (x8_4 : Int).toNat).drop (t310 : Int).toNat))).size + 3) = False := eq_false (Nat.not_lt.2 c36)
            try have c36b7 : (9223372036854775807 < t308.size + 3 + (strOfNums ((l0.take (x8_4 : Int).toNat).drop (t310 : Int).toNat)).size + 3) = False := by have h7_ := c36; simp only [ByteArray.size_append] at h7_; exact eq_false (Nat.not_lt.2 h7_)
            replace H := Option.bind_eq_some_iff.mp H
            obtain ⟨t323, A370, H⟩ := H
            try dsimp only at H
            have A37 := ak A370
            clear A370
            by_cases c38 : (((t308 ++ (⟨#[10, 32, 32]⟩ : ByteArray)) ++ (strOfNums ((l0.take (x8_4 : Int).toNat).drop (t310 : Int).toNat))) ++ (⟨#[10, 32, 32]⟩ : ByteArray)).size + t323.size ≤ 9223372036854775807
            ·rw [if_pos c38] at H
             have c38b0 := eq_true c38
             have c38b1 : decide ((((t308 ++ (⟨#[10, 32, 32]⟩ : ByteArray)) ++ (strOfNums ((l0.take (x8_4 : Int).toNat).drop (t310 : Int).toNat))) ++ (⟨#[10, 32, 32]⟩ : ByteArray)).size + t323.size ≤ 9223372036854775807) = true := decide_eq_true c38
             try have c38b2 : (9223372036854775807 < (((t308 ++ (⟨#[10, 32, 32]⟩ : ByteArray)) ++ (strOfNums ((l0.take (x8_4 : Int).toNat).drop (t310 : Int).toNat))) ++ (⟨#[10, 32, 32]⟩ : ByteArray)).size + t323.size) = False := eq_false (Nat.not_lt.2 c38)
             try have c38b7 : (9223372036854775807 < t308.size + 3 + (strOfNums ((l0.take (x8_4 : Int).toNat).drop (t310 : Int).toNat)).size + 3 + t323.size) = False := by have h7_ := c38; simp only [ByteArray.size_append] at h7_; exact eq_false (Nat.not_lt.2 h7_)
             obtain ⟨ji39, hji39⟩ : ∃ j_ : Int, (mx x14_2 1) = j_ := ⟨_, rfl⟩
             replace H : ((mummerref08_many.f k2 (⟨#[94]⟩ : ByteArray) (ji39)).bind fun t324 => (if ((((t308 ++ (⟨#[10, 32, 32]⟩ : ByteArray)) ++ (strOfNums ((l0.take (x8_4 : Int).toNat).drop (t310 : Int).toNat))) ++ (⟨#[10, 32, 32]⟩ : ByteArray)) ++ t323).size + t324.size ≤ 9223372036854775807 then (if (((((t308 ++ (⟨#[10, 32, 32]⟩ : ByteArray)) ++ (strOfNums ((l0.take (x8_4 : Int).toNat).drop (t310 : Int).toNat))) ++ (⟨#[10, 32, 32]⟩ : ByteArray)) ++ t323) ++ t324).size + 1 ≤ 9223372036854775807 then (some ((((((t308 ++ (⟨#[10, 32, 32]⟩ : ByteArray)) ++ (strOfNums ((l0.take (x8_4 : Int).toNat).drop (t310 : Int).toNat))) ++ (⟨#[10, 32, 32]⟩ : ByteArray)) ++ t323) ++ t324) ++ (⟨#[10]⟩ : ByteArray))) else (none)) else (none))) = some r := by first | (rw [hji39] at H; exact H) | (simp only [hji39] at H ⊢; exact H)
             (try rw [hji39] at A37)
             have hji39_ : (if x14_2 < 1 then 1 else x14_2) = ji39 := hji39
             replace H := Option.bind_eq_some_iff.mp H
             obtain ⟨t324, A400, H⟩ := H
             try dsimp only at H
             have A40 := ak A400
             clear A400
             by_cases c41 : ((((t308 ++ (⟨#[10, 32, 32]⟩ : ByteArray)) ++ (strOfNums ((l0.take (x8_4 : Int).toNat).drop (t310 : Int).toNat))) ++ (⟨#[10, 32, 32]⟩ : ByteArray)) ++ t323).size + t324.size ≤ 9223372036854775807
             ·rw [if_pos c41] at H
              have c41b0 := eq_true c41
              have c41b1 : decide (((((t308 ++ (⟨#[10, 32, 32]⟩ : ByteArray)) ++ (strOfNums ((l0.take (x8_4 : Int).toNat).drop (t310 : Int).toNat))) ++ (⟨#[10, 32, 32]⟩ : ByteArray)) ++ t323).size + t324.size ≤ 9223372036854775807) = true := decide_eq_true c41
              try have c41b2 : (9223372036854775807 < ((((t308 ++ (⟨#[10, 32, 32]⟩ : ByteArray)) ++ (strOfNums ((l0.take (x8_4 : Int).toNat).drop (t310 : Int).toNat))) ++ (⟨#[10, 32, 32]⟩ : ByteArray)) ++ t323).size + t324.size) = False := eq_false (Nat.not_lt.2 c41)
              try have c41b7 : (9223372036854775807 < t308.size + 3 + (strOfNums ((l0.take (x8_4 : Int).toNat).drop (t310 : Int).toNat)).size + 3 + t323.size + t324.size) = False := by have h7_ := c41; simp only [ByteArray.size_append] at h7_; exact eq_false (Nat.not_lt.2 h7_)
              by_cases c42 : (((((t308 ++ (⟨#[10, 32, 32]⟩ : ByteArray)) ++ (strOfNums ((l0.take (x8_4 : Int).toNat).drop (t310 : Int).toNat))) ++ (⟨#[10, 32, 32]⟩ : ByteArray)) ++ t323) ++ t324).size + 1 ≤ 9223372036854775807
              ·rw [if_pos c42] at H
               have c42b0 := eq_true c42
               have c42b1 : decide ((((((t308 ++ (⟨#[10, 32, 32]⟩ : ByteArray)) ++ (strOfNums ((l0.take (x8_4 : Int).toNat).drop (t310 : Int).toNat))) ++ (⟨#[10, 32, 32]⟩ : ByteArray)) ++ t323) ++ t324).size + 1 ≤ 9223372036854775807) = true := decide_eq_true c42
               try have c42b2 : (9223372036854775807 < (((((t308 ++ (⟨#[10, 32, 32]⟩ : ByteArray)) ++ (strOfNums ((l0.take (x8_4 : Int).toNat).drop (t310 : Int).toNat))) ++ (⟨#[10, 32, 32]⟩ : ByteArray)) ++ t323) ++ t324).size + 1) = False := eq_false (Nat.not_lt.2 c42)
               try have c42b7 : (9223372036854775807 < t308.size + 3 + (strOfNums ((l0.take (x8_4 : Int).toNat).drop (t310 : Int).toNat)).size + 3 + t323.size + t324.size + 1) = False := by have h7_ := c42; simp only [ByteArray.size_append] at h7_; exact eq_false (Nat.not_lt.2 h7_)
               obtain rfl := Option.some.inj H
               obtain ⟨Ao43, co43, eo43⟩ := Kd.R_slice HO_12.out
               subst eo43
               obtain ⟨i044, hi044, _, hsz44, _⟩ := info_parts info5
               obtain ⟨A44, hcut44, hA44, hC44⟩ := print_mid_of (P := Tryz.prog) (Value.int .u8) 0 29 5 .i64 .i64 Tryz.underlying29 hi044 hsz44 A0 c0 l0 t310 x8_4 (of_decide_eq_true (by first | (with_reducible assumption) | assumption)) (by first | omega | exact of_decide_eq_true (by first | (with_reducible assumption) | assumption)) (of_decide_eq_true (by first | (with_reducible assumption) | assumption)) HC0.out
               have HR322 := ak (Kd.C_of_reads (h1 := fun _ => rfl) (hA44 _ (Kd.reads_of_C HR0.out)))
               have HC322 := ak hC44
               clear hA44 hC44 hi044 hsz44
               have hcv45 := fun n_ : Nat => Kd.C_string (P := Tryz.prog) (A := A44) (c := (c0 - t310.toNat)) Tryz.underlying29 Tryz.underlying5 Tryz.underlying9 (Kd.C_drewN (Kd.C_below HR322.out HB.out) n_)
               have hle_ : min (x8_4 : Int).toNat l0.length = (x8_4 : Int).toNat := Nat.min_eq_left (by have h_ : x8_4 ≤ (l0.length : Int) := of_decide_eq_true (by first | (with_reducible assumption) | assumption); omega)
               simp only [List.length_drop, List.length_take, hle_] at hcv45
               clear hle_
               generalize hX9_ : strOfNums ((l0.take (x8_4 : Int).toNat).drop (t310 : Int).toNat) = X9_ at *
               have HX9_ := ak hX9_
               clear hX9_
               go_wp2_with (first | (go_at_call 91; (with_reducible refine (mummerref08_many.calls k2 (⟨#[32]⟩ : ByteArray) (wrap64 (t313 - 1)) t323 _ A37.out).mono ?_); rintro e w' ⟨rfl, ⟨nd, rfl⟩⟩; (try first | exact ⟨rfl, _, World.drewN_drewN _ _ _⟩ | exact ⟨rfl, _, Eq.trans (World.drewN_drewN _ _ _) (congrArg (World.drewN _) (Nat.add_assoc _ _ _))⟩)) | (go_at_call 91; (with_reducible refine (mummerref08_many.calls k2 (⟨#[94]⟩ : ByteArray) ji39 t324 _ A40.out).mono ?_); rintro e w' ⟨rfl, ⟨nd, rfl⟩⟩; (try first | exact ⟨rfl, _, World.drewN_drewN _ _ _⟩ | exact ⟨rfl, _, Eq.trans (World.drewN_drewN _ _ _) (congrArg (World.drewN _) (Nat.add_assoc _ _ _))⟩)))
               repeat (go_quiet (first | (go_at_call 91; (with_reducible refine (mummerref08_many.calls k2 (⟨#[32]⟩ : ByteArray) (wrap64 (t313 - 1)) t323 _ A37.out).mono ?_); rintro e w' ⟨rfl, ⟨nd, rfl⟩⟩; (try first | exact ⟨rfl, _, World.drewN_drewN _ _ _⟩ | exact ⟨rfl, _, Eq.trans (World.drewN_drewN _ _ _) (congrArg (World.drewN _) (Nat.add_assoc _ _ _))⟩)) | (go_at_call 91; (with_reducible refine (mummerref08_many.calls k2 (⟨#[94]⟩ : ByteArray) ji39 t324 _ A40.out).mono ?_); rintro e w' ⟨rfl, ⟨nd, rfl⟩⟩; (try first | exact ⟨rfl, _, World.drewN_drewN _ _ _⟩ | exact ⟨rfl, _, Eq.trans (World.drewN_drewN _ _ _) (congrArg (World.drewN _) (Nat.add_assoc _ _ _))⟩))); try go_wp2_with (first | (go_at_call 91; (with_reducible refine (mummerref08_many.calls k2 (⟨#[32]⟩ : ByteArray) (wrap64 (t313 - 1)) t323 _ A37.out).mono ?_); rintro e w' ⟨rfl, ⟨nd, rfl⟩⟩; (try first | exact ⟨rfl, _, World.drewN_drewN _ _ _⟩ | exact ⟨rfl, _, Eq.trans (World.drewN_drewN _ _ _) (congrArg (World.drewN _) (Nat.add_assoc _ _ _))⟩)) | (go_at_call 91; (with_reducible refine (mummerref08_many.calls k2 (⟨#[94]⟩ : ByteArray) ji39 t324 _ A40.out).mono ?_); rintro e w' ⟨rfl, ⟨nd, rfl⟩⟩; (try first | exact ⟨rfl, _, World.drewN_drewN _ _ _⟩ | exact ⟨rfl, _, Eq.trans (World.drewN_drewN _ _ _) (congrArg (World.drewN _) (Nat.add_assoc _ _ _))⟩))))
               go_ret
               exact ⟨by first | rfl | (rw [HX9_.out]; done) | (rw [HX9_.out]; rfl) | (simp [errW_none, errW_some] <;> rfl) | (simp only [← hji39]; first | rfl | (simp [errW_none, errW_some] <;> rfl)) | (simp [*, errW_none, errW_some] <;> rfl), by repeat (first | (with_reducible first | exact HB.out | apply wA | apply wN | apply wD | refine below_set ?_ GE307.out) | exact HB.out)⟩
              ·rw [if_neg c42] at H
               exact absurd H (by simp)
             ·rw [if_neg c41] at H
              exact absurd H (by simp)
            ·rw [if_neg c38] at H
             exact absurd H (by simp)
           ·rw [if_neg c36] at H
            exact absurd H (by simp)
          ·rw [if_neg c35] at H
           exact absurd H (by simp)
         ·rw [if_neg c34] at H
          exact absurd H (by simp)
        ·rw [if_neg c33] at H
         exact absurd H (by simp)
       ·rw [if_neg c32] at H
        exact absurd H (by simp)
      ·rw [if_neg c31] at H
       exact absurd H (by simp)
end Go.Proofs.YtdjkdlbokepoaaaGreatDoor.P
namespace Go.Proofs.YtdjkdlbokepoaaaGreatDoor.P
open Go.RowKit Go.Proofs.YtdjkdlbokepoaaaGreatDoorW.PrintWords Go.Proofs.YtdjkdlbokepoaaaGreatDoorW.PrintLast Go.Proofs.YtdjkdlbokepoaaaGreatDoorW.PrintMore
attribute [local go_sem] max2_int min2_int max_two min_two max_three min_three max_four min_four
set_option linter.unusedVariables false
set_option linter.unusedSimpArgs false
mutual
def mummerref08_Picture.j0 : Nat → List Int → List (S41) → Int → Int → Option (ByteArray × Int)
 | 0, _, _, _, _ => none
 | k + 1, x0, x1, x2, x9 => if x9 = 0 then (if x2 < 0 then (mummerref08_Picture.j1 k x0 x1 x2 x9 true) else (mummerref08_Picture.j1 k x0 x1 x2 x9 (decide (x2 ≥ (x1.length : Int))))) else (mummerref08_Picture.j1 k x0 x1 x2 x9 false)
def mummerref08_Picture.j1 : Nat → List Int → List (S41) → Int → Int → Bool → Option (ByteArray × Int)
 | 0, _, _, _, _, _ => none
 | k + 1, x0, x1, x2, x9, x38 => if x38 = true then (mummerref08_Picture.j2 k x0 x1 x2 4) else (mummerref08_Picture.j2 k x0 x1 x2 x9)
def mummerref08_Picture.j2 : Nat → List Int → List (S41) → Int → Int → Option (ByteArray × Int)
 | 0, _, _, _, _ => none
 | k + 1, x0, x1, x2, x9 => if x9 = 0 then ((mummerref08_chain.f k x1 x2).bind fun t329 => (mummerref08_Picture.l0 k x0 x1 (⟨#[]⟩ : ByteArray) t329 0)) else (some ((⟨#[]⟩ : ByteArray), x9))
def mummerref08_Picture.l0 : Nat → List Int → List (S41) → ByteArray → List Int → Int → Option (ByteArray × Int)
 | 0, _, _, _, _, _ => none
 | k + 1, x0, x1, x10, x11, x12 => if x12 < (x11.length : Int) then (if 0 ≤ x12 then (if 0 ≤ (rd x11 x12) then (if (rd x11 x12) < (x1.length : Int) then ((mummerref08_picture.f k x0 ((rd_T41 x1 (rd x11 x12)).f0) ((rd_T41 x1 (rd x11 x12)).f1) ((rd_T41 x1 (rd x11 x12)).f2.f0) ((rd_T41 x1 (rd x11 x12)).f2.f1) ((rd_T41 x1 (rd x11 x12)).f3) ((rd_T41 x1 (rd x11 x12)).f4)).bind fun t334 => (if x10.size + t334.size ≤ 9223372036854775807 then (mummerref08_Picture.l0 k x0 x1 (x10 ++ t334) x11 (wrap64 (x12 + 1))) else (none))) else (none)) else (none)) else (none)) else (some (x10, 0))
end
def mummerref08_Picture.f (k : Nat) (l0 : List Int) (l1 : List (S41)) (a2 : Int) : Option (ByteArray × Int) := (mummerref02_Check.f k l0).bind fun bt325 => (if bt325.2 = 0 then ((mummerref08_Check.f k (l0.length : Int) l1).bind fun bt327 => (mummerref08_Picture.j0 k l0 l1 a2 bt327.2)) else (mummerref08_Picture.j0 k l0 l1 a2 bt325.2))
set_option maxHeartbeats 8000000 in
set_option maxRecDepth 100000 in
theorem mummerref08_Picture.calls (k : Nat) (A0 : Option Addr) (c0 : Nat) (l0 : List Int) (A1 : Option Addr) (c1 : Nat) (l1 : List (S41)) (a2 : Int) (r1 : ByteArray) (r2 : Int) (w : World) (hr0 : Kd.C (Kd.int .u8) w A0 l0.length l0) (hc0 : l0.length ≤ c0) (hr1 : Kd.C k41 w A1 l1.length l1) (hc1 : l1.length ≤ c1) (h : mummerref08_Picture.f k l0 l1 a2 = some (r1, r2)) :
  Calls Tryz.prog 22 #[.slice A0 l0.length c0, .slice A1 l1.length c1, .int .i64 a2] w fun e w' => e = .returned (.tuple #[.string r1, .int .i64 r2]) ∧ Below w.heap.size w w' := by
 have hu41 := Tryz.underlying41
 have HR0 := ak hr0
 have HC0 := ak hc0
 clear hr0 hc0
 have HR1 := ak hr1
 have HC1 := ak hc1
 clear hr1 hc1
 have HB := ak (Below.refl w.heap.size w)
 have H : ((mummerref02_Check.f k l0).bind fun bt325 => (if bt325.2 = 0 then ((mummerref08_Check.f k (l0.length : Int) l1).bind fun bt327 => (mummerref08_Picture.j0 k l0 l1 a2 bt327.2)) else (mummerref08_Picture.j0 k l0 l1 a2 bt325.2))) = some (r1, r2) := h
 clear h
 replace H := Option.bind_eq_some_iff.mp H
 obtain ⟨⟨t325, t326⟩, A40, H⟩ := H
 try dsimp only at H
 have A4 := ak A40
 clear A40
 have HC5 := ak H
 clear H
 go_enter Tryz.func22, Tryz.ntmps22
 go_upto_if 19 with (first | ((with_reducible refine gate_callee (f := 50) rfl ?_); refine goesL_ (some 15) rfl rfl Tryz.func50 (by kernel_rfl) rfl #[.slice A0 l0.length c0] rfl (by (try simp only [List.map_toArray, List.map_cons, List.map_nil]); first | done | rfl | (simp only [List.length_drop, List.length_take]; rfl)) ?_; (with_reducible refine (mummerref02_Check.calls k _ _ l0 t325 t326 _ ?side1 ?side2 A4.out).mono ?_); (case side1 => repeat (first | exact HR0.out | (with_reducible refine Kd.C_alloc ?_ _) | (with_reducible refine Kd.C_drewN ?_ _) | (with_reducible refine Kd.C_drew ?_))); (case side2 => exact HC0.out); rintro e w6 ⟨rfl, hb⟩; refine ⟨_, rfl, ?_⟩; have n0_ := ak (below_step (by repeat (first | (with_reducible first | exact HB.out | apply wA | apply wN | apply wD) | exact HB.out)) hb); clear HB; have HB := n0_; clear n0_; (try clear hb); (try clear hb2); (try clear hk); (try clear hi)))
 (try simp only [Act.put, List.setIfInBounds_toArray, List.set_cons_zero, List.set_cons_succ])
 go_cut [9] (fun v9 wc => ∃ (kq : Nat) (x9_4 : Int), v9 = .int .i64 x9_4 ∧ Aside0 (mummerref08_Picture.j0 kq l0 l1 a2 x9_4 = some (r1, r2)) ∧ Aside0 (kq ≤ k) ∧ Aside0 (Below w.heap.size w wc))
 case first =>
  have H := HC5.out
  clear HC5
  by_cases c7 : t326 = 0
  ·rw [if_pos c7] at H
   have c7b0 : (t326 == 0) = true := beq_iff_eq.mpr c7
   have c7b1 : (t326 != 0) = false := bne_eq_false_iff_eq.mpr c7
   clear c7
   (first | rw [c7b0] | (simp only [i64_w, i32_w]; rw [c7b0]) | skip)
   replace H := Option.bind_eq_some_iff.mp H
   obtain ⟨⟨t327, t328⟩, A80, H⟩ := H
   replace H : (mummerref08_Picture.j0 k l0 l1 a2 t328) = some (r1, r2) := H
   have A8 := ak A80
   clear A80
   have H' := ak H
   clear H
   go_wp2_with (first | ((with_reducible refine gate_callee (f := 14) rfl ?_); refine goesL_ (some 24) rfl rfl Tryz.func14 (by kernel_rfl) rfl #[.int .i64 (l0.length : Int), .slice A1 l1.length c1] rfl (by (try simp only [List.map_toArray, List.map_cons, List.map_nil]); first | done | rfl | (simp only [List.length_drop, List.length_take]; rfl)) ?_; (with_reducible refine (mummerref08_Check.calls k (l0.length : Int) _ _ l1 t327 t328 _ ?side1 ?side2 A8.out).mono ?_); (case side1 => repeat (first | exact (Kd.C_below HR1.out HB.out) | (with_reducible refine Kd.C_alloc ?_ _) | (with_reducible refine Kd.C_drewN ?_ _) | (with_reducible refine Kd.C_drew ?_))); (case side2 => exact HC1.out); rintro e w9 ⟨rfl, hb⟩; refine ⟨_, rfl, ?_⟩; have n0_ := ak (below_step (by repeat (first | (with_reducible first | exact HB.out | apply wA | apply wN | apply wD) | exact HB.out)) hb); clear HB; have HB := n0_; clear n0_; (try clear hb); (try clear hb2); (try clear hk); (try clear hi)))
   go_meet
   case rel => exact ⟨_, (t328), (by first | rfl | (simp; done) | (simp [*]; done)), H', ⟨by first | omega | exact Nat.le_refl _⟩, ⟨by repeat (first | (with_reducible first | exact HB.out | apply wA | apply wN | apply wD) | exact HB.out)⟩⟩
  ·rw [if_neg c7] at H
   have c7b0 : (t326 == 0) = false := beq_eq_false_iff_ne.mpr c7
   have c7b1 : (t326 != 0) = true := bne_iff_ne.mpr c7
   (first | rw [c7b0] | (simp only [i64_w, i32_w]; rw [c7b0]) | skip)
   have H' := ak H
   clear H
   go_wp2
   go_meet
   case rel => exact ⟨_, (t326), (by first | rfl | (simp; done) | (simp [*]; done)), H', ⟨by first | omega | exact Nat.le_refl _⟩, ⟨by repeat (first | (with_reducible first | exact HB.out | apply wA | apply wN | apply wD) | exact HB.out)⟩⟩
 case rest =>
  clear HC5
  try clear c1
  try clear c2
  try clear p2
  try clear c5
  try clear c7
  try clear c7b0
  try clear c7b1
  obtain ⟨kq, x9_4, rfl, HA, HJ4, HB⟩ := hcut
  cases kq with
  | zero => exact absurd HA.out (by simp [mummerref08_Picture.j0])
  | succ kj4 =>
   have H := HA.out
   clear HA
   simp only [mummerref08_Picture.j0] at H
   have HC10 := ak H
   clear H
   go_upto_region 4 with (fail)
   go_cut [38] (fun v38 wc => ∃ (kq : Nat) (x38_9 : Bool), v38 = .bool x38_9 ∧ Aside0 (mummerref08_Picture.j1 kq l0 l1 a2 x9_4 x38_9 = some (r1, r2)) ∧ Aside0 (kq ≤ kj4) ∧ Aside0 (Below w.heap.size w wc))
   case first =>
    have H := HC10.out
    clear HC10
    by_cases c11 : x9_4 = 0
    ·rw [if_pos c11] at H
     have c11b0 : (x9_4 == 0) = true := beq_iff_eq.mpr c11
     have c11b1 : (x9_4 != 0) = false := bne_eq_false_iff_eq.mpr c11
     clear c11
     (first | rw [c11b0] | (simp only [i64_w, i32_w]; rw [c11b0]) | skip)
     by_cases c12 : a2 < 0
     ·rw [if_pos c12] at H
      have c12b0 : decide (a2 < 0) = true := decide_eq_true c12
      clear c12
      have H' := ak H
      clear H
      go_wp2
      go_meet
      case rel => exact ⟨_, (true), (by first | rfl | (simp; done) | (simp [*]; done)), H', ⟨by have := HJ4.out; first | omega | exact Nat.le_refl _⟩, ⟨by repeat (first | (with_reducible first | exact HB.out | apply wA | apply wN | apply wD) | exact HB.out)⟩⟩
     ·rw [if_neg c12] at H
      have c12b0 : decide (a2 < 0) = false := decide_eq_false c12
      clear c12
      have H' := ak H
      clear H
      go_wp2
      go_meet
      case rel => exact ⟨_, (decide (a2 ≥ (l1.length : Int))), (by first | rfl | (simp; done) | (simp [*]; done)), H', ⟨by have := HJ4.out; first | omega | exact Nat.le_refl _⟩, ⟨by repeat (first | (with_reducible first | exact HB.out | apply wA | apply wN | apply wD) | exact HB.out)⟩⟩
    ·rw [if_neg c11] at H
     have c11b0 : (x9_4 == 0) = false := beq_eq_false_iff_ne.mpr c11
     have c11b1 : (x9_4 != 0) = true := bne_iff_ne.mpr c11
     (first | rw [c11b0] | (simp only [i64_w, i32_w]; rw [c11b0]) | skip)
     have H' := ak H
     clear H
     go_wp2
     go_meet
     case rel => exact ⟨_, (false), (by first | rfl | (simp; done) | (simp [*]; done)), H', ⟨by have := HJ4.out; first | omega | exact Nat.le_refl _⟩, ⟨by repeat (first | (with_reducible first | exact HB.out | apply wA | apply wN | apply wD) | exact HB.out)⟩⟩
   case rest =>
    clear HC10
    try clear c1
    try clear c2
    try clear p2
    try clear c5
    try clear c7
    try clear c7b0
    try clear c7b1
    try clear c11
    try clear c11b0
    try clear c11b1
    try clear c12
    try clear c12b0
    try clear p2
    obtain ⟨kq, x38_9, rfl, HA, HJ9, HB⟩ := hcut
    cases kq with
    | zero => exact absurd HA.out (by simp [mummerref08_Picture.j1])
    | succ kj9 =>
     have H := HA.out
     clear HA
     simp only [mummerref08_Picture.j1] at H
     have HC13 := ak H
     clear H
     go_upto_if 38 with (fail)
     go_cut [9] (fun v9 wc => ∃ (kq : Nat) (x9_12 : Int), v9 = .int .i64 x9_12 ∧ Aside0 (mummerref08_Picture.j2 kq l0 l1 a2 x9_12 = some (r1, r2)) ∧ Aside0 (kq ≤ kj9) ∧ Aside0 (Below w.heap.size w wc))
     case first =>
      have H := HC13.out
      clear HC13
      by_cases c14 : x38_9 = true
      ·subst c14
       have H1 : (mummerref08_Picture.j2 kj9 l0 l1 a2 4) = some (r1, r2) := by rw [if_pos rfl] at H; exact H
       clear H
       have H := H1
       clear H1
       have H' := ak H
       clear H
       go_wp2
       go_meet
       case rel => exact ⟨_, (4), (by first | rfl | (simp; done) | (simp [*]; done)), H', ⟨by have := HJ4.out; have := HJ9.out; first | omega | exact Nat.le_refl _⟩, ⟨by repeat (first | (with_reducible first | exact HB.out | apply wA | apply wN | apply wD) | exact HB.out)⟩⟩
      ·replace c14 := Bool.eq_false_iff.mpr c14
       subst c14
       have H1 : (mummerref08_Picture.j2 kj9 l0 l1 a2 x9_4) = some (r1, r2) := by rw [if_neg (show ¬ (false = true) by decide)] at H; exact H
       clear H
       have H := H1
       clear H1
       have H' := ak H
       clear H
       go_wp2
       go_meet
       case rel => exact ⟨_, (x9_4), (by first | rfl | (simp; done) | (simp [*]; done)), H', ⟨by have := HJ4.out; have := HJ9.out; first | omega | exact Nat.le_refl _⟩, ⟨by repeat (first | (with_reducible first | exact HB.out | apply wA | apply wN | apply wD) | exact HB.out)⟩⟩
     case rest =>
      clear HC13
      try clear c1
      try clear c2
      try clear p2
      try clear c5
      try clear c7
      try clear c7b0
      try clear c7b1
      try clear c11
      try clear c11b0
      try clear c11b1
      try clear c12
      try clear c12b0
      try clear c14
      try clear p2
      obtain ⟨kq, x9_12, rfl, HA, HJ12, HB⟩ := hcut
      cases kq with
      | zero => exact absurd HA.out (by simp [mummerref08_Picture.j2])
      | succ kj12 =>
       have H := HA.out
       clear HA
       simp only [mummerref08_Picture.j2] at H
       by_cases c15 : x9_12 = 0
       ·rw [if_pos c15] at H
        have c15b0 : (x9_12 == 0) = true := beq_iff_eq.mpr c15
        have c15b1 : (x9_12 != 0) = false := bne_eq_false_iff_eq.mpr c15
        clear c15
        replace H := Option.bind_eq_some_iff.mp H
        obtain ⟨t329, A160, H⟩ := H
        replace H : (mummerref08_Picture.l0 kj12 l0 l1 (⟨#[]⟩ : ByteArray) t329 0) = some (r1, r2) := H
        have A16 := ak A160
        clear A160
        have H' := ak H
        clear H
        go_wp2_with (first | ((with_reducible refine gate_callee (f := 58) rfl ?_); refine goesL_ (some 44) rfl rfl Tryz.func58 (by kernel_rfl) rfl #[.slice A1 l1.length c1, .int .i64 a2] rfl (by (try simp only [List.map_toArray, List.map_cons, List.map_nil]); first | done | rfl | (simp only [List.length_drop, List.length_take]; rfl)) ?_; (with_reducible refine (mummerref08_chain.calls kj12 _ _ l1 a2 t329 _ ?side1 ?side2 A16.out).mono ?_); (case side1 => repeat (first | exact (Kd.C_below HR1.out HB.out) | (with_reducible refine Kd.C_alloc ?_ _) | (with_reducible refine Kd.C_drewN ?_ _) | (with_reducible refine Kd.C_drew ?_))); (case side2 => exact HC1.out); rintro e w17 ⟨v330, rfl, ho0, hb⟩; refine ⟨_, rfl, ?_⟩; have n0_ := ak (Kd.R_lower ho0 (below_size (by repeat (first | (with_reducible first | exact HB.out | apply wA | apply wN | apply wD) | exact HB.out)))); have n1_ := ak (below_step (by repeat (first | (with_reducible first | exact HB.out | apply wA | apply wN | apply wD) | exact HB.out)) hb); clear HB; have HO331 := n0_; have HB := n1_; clear n0_ n1_; (try clear hb); (try clear hb2); (try clear hk); (try clear hi); (try clear ho0)))
        go_loopg [10, 12] kj12 (fun kq v10 v12 w' => ∃ (x10_4 : ByteArray) (x12_4 : Int), v10 = .string x10_4 ∧ v12 = .int .i64 x12_4 ∧ Aside0 (mummerref08_Picture.l0 kq l0 l1 x10_4 t329 x12_4 = some (r1, r2)) ∧ Aside0 (kq ≤ kj12) ∧ Aside0 (Kd.R (Kd.int .i64) 3 w' w.heap.size (fun _ => True) v330 t329) ∧ Aside0 (Below w.heap.size w w'))
        case atStart => exact ⟨((⟨#[]⟩ : ByteArray)), (0), (by first | rfl | (simp; done) | (simp [*]; done)), (by first | rfl | (simp; done) | (simp [*]; done)), H', ⟨Nat.le_refl _⟩, ⟨by (with_reducible repeat (first | apply Kd.R_alloc | apply Kd.R_drewN | apply Kd.R_drew)); exact HO331.out⟩, ⟨by repeat (first | (with_reducible first | exact HB.out | apply wA | apply wN | apply wD) | exact HB.out)⟩⟩
        case round =>
         clear H'
         try clear c1
         try clear c2
         try clear p2
         try clear c5
         try clear c7
         try clear c7b0
         try clear c7b1
         try clear c11
         try clear c11b0
         try clear c11b1
         try clear c12
         try clear c12b0
         try clear c14
         try clear c15
         try clear c15b0
         try clear c15b1
         try clear p2
         obtain ⟨x10_4, x12_4, rfl, rfl, HA, HK4, HO_11, HB⟩ := hrel
         cases gk with
         | zero => exact absurd HA.out (by simp [mummerref08_Picture.l0])
         | succ k4 =>
          have H := HA.out
          clear HA
          simp only [mummerref08_Picture.l0] at H
          by_cases c18 : x12_4 < (t329.length : Int)
          ·rw [if_pos c18] at H
           have c18b0 : decide (x12_4 < (t329.length : Int)) = true := decide_eq_true c18
           clear c18
           by_cases c19 : 0 ≤ x12_4
           ·rw [if_pos c19] at H
            have c19b0 : decide (0 ≤ x12_4) = true := decide_eq_true c19
            clear c19
            by_cases c20 : 0 ≤ (rd t329 x12_4)
            ·rw [if_pos c20] at H
             have c20b0 : decide (0 ≤ (rd t329 x12_4)) = true := decide_eq_true c20
             clear c20
             by_cases c21 : (rd t329 x12_4) < (l1.length : Int)
             ·rw [if_pos c21] at H
              have c21b0 : decide ((rd t329 x12_4) < (l1.length : Int)) = true := decide_eq_true c21
              clear c21
              replace H := Option.bind_eq_some_iff.mp H
              obtain ⟨t334, A220, H⟩ := H
              try dsimp only at H
              have A22 := ak A220
              clear A220
              by_cases c23 : x10_4.size + t334.size ≤ 9223372036854775807
              ·rw [if_pos c23] at H
               have c23b0 := eq_true c23
               have c23b1 : decide (x10_4.size + t334.size ≤ 9223372036854775807) = true := decide_eq_true c23
               try have c23b2 : (9223372036854775807 < x10_4.size + t334.size) = False := eq_false (Nat.not_lt.2 c23)
               have H' := ak H
               clear H
               obtain ⟨Ao24, co24, eo24⟩ := Kd.R_slice HO_11.out
               subst eo24
               have p332 : 0 ≤ (x12_4 : Int) := of_decide_eq_true (by first | (with_reducible assumption) | assumption)
               have q332 : x12_4 < (t329.length : Int) := of_decide_eq_true (by first | (with_reducible assumption) | assumption)
               obtain ⟨ad332, e332, hx332_0⟩ := Kd.at_int (Kd.R_reads' HO_11.out).2.2 x12_4 p332 q332
               cases e332
               replace p332 := eq_true p332
               replace q332 := eq_true q332
               have p333 : 0 ≤ ((rd t329 x12_4) : Int) := of_decide_eq_true (by first | (with_reducible assumption) | assumption)
               have q333 : (rd t329 x12_4) < (l1.length : Int) := of_decide_eq_true (by first | (with_reducible assumption) | assumption)
               obtain ⟨ad333, e333, hx333_0, hx333_1, hx333_2, hx333_3, hx333_4, hx333_5⟩ := at_T41 HR1.out (rd t329 x12_4) p333 q333
               cases e333
               replace hx333_0 := (HB.out.cell (World.block_lt_of_cell? w _ hx333_0)).trans hx333_0
               replace hx333_1 := (HB.out.cell (World.block_lt_of_cell? w _ hx333_1)).trans hx333_1
               replace hx333_2 := (HB.out.cell (World.block_lt_of_cell? w _ hx333_2)).trans hx333_2
               replace hx333_3 := (HB.out.cell (World.block_lt_of_cell? w _ hx333_3)).trans hx333_3
               replace hx333_4 := (HB.out.cell (World.block_lt_of_cell? w _ hx333_4)).trans hx333_4
               replace hx333_5 := (HB.out.cell (World.block_lt_of_cell? w _ hx333_5)).trans hx333_5
               replace p333 := eq_true p333
               replace q333 := eq_true q333
               go_wp2_with (first | ((with_reducible refine gate_callee (f := 59) rfl ?_); refine goesL_ (some 60) rfl rfl Tryz.func59 (by kernel_rfl) rfl #[.slice A0 l0.length c0, .agg #[.int .i64 ((rd_T41 l1 (rd t329 x12_4)).f0), .int .i64 ((rd_T41 l1 (rd t329 x12_4)).f1), .int .i64 ((rd_T41 l1 (rd t329 x12_4)).f2.f0), .int .i64 ((rd_T41 l1 (rd t329 x12_4)).f2.f1), .string ((rd_T41 l1 (rd t329 x12_4)).f3), .int .i64 ((rd_T41 l1 (rd t329 x12_4)).f4)]] rfl (by (try simp only [List.map_toArray, List.map_cons, List.map_nil]); first | done | rfl | (simp only [List.length_drop, List.length_take]; rfl)) ?_; (with_reducible refine (mummerref08_picture.calls k4 _ _ l0 ((rd_T41 l1 (rd t329 x12_4)).f0) ((rd_T41 l1 (rd t329 x12_4)).f1) ((rd_T41 l1 (rd t329 x12_4)).f2.f0) ((rd_T41 l1 (rd t329 x12_4)).f2.f1) ((rd_T41 l1 (rd t329 x12_4)).f3) ((rd_T41 l1 (rd t329 x12_4)).f4) t334 _ ?side1 ?side2 A22.out).mono ?_); (case side1 => repeat (first | exact (Kd.C_below HR0.out HB.out) | (with_reducible refine Kd.C_alloc ?_ _) | (with_reducible refine Kd.C_drewN ?_ _) | (with_reducible refine Kd.C_drew ?_))); (case side2 => exact HC0.out); rintro e w25 ⟨rfl, hb⟩; refine ⟨_, rfl, ?_⟩; have n0_ := ak (Kd.R_below (by (with_reducible repeat (first | apply Kd.R_alloc | apply Kd.R_drewN | apply Kd.R_drew)); exact HO_11.out) hb); have n1_ := ak (below_step (by repeat (first | (with_reducible first | exact HB.out | apply wA | apply wN | apply wD) | exact HB.out)) hb); clear HO_11; clear HB; have HO_11 := n0_; have HB := n1_; clear n0_ n1_; (try clear hb); (try clear hb2); (try clear hk); (try clear hi)))
               go_roundg k4
               case measure => have := HJ4.out; have := HJ9.out; have := HJ12.out; have := HK4.out; omega
               case rel => exact ⟨(x10_4 ++ t334), (wrap64 (x12_4 + 1)), (by first | rfl | (simp; done) | (simp [*]; done)), (by first | rfl | (simp; done) | (simp [*]; done)), H', ⟨by have := HJ4.out; have := HJ9.out; have := HJ12.out; have := HK4.out; omega⟩, ⟨by (with_reducible repeat (first | apply Kd.R_alloc | apply Kd.R_drewN | apply Kd.R_drew)); exact HO_11.out⟩, ⟨by repeat (first | (with_reducible first | exact HB.out | apply wA | apply wN | apply wD) | exact HB.out)⟩⟩
              ·rw [if_neg c23] at H
               exact absurd H (by simp)
             ·rw [if_neg c21] at H
              exact absurd H (by simp)
            ·rw [if_neg c20] at H
             exact absurd H (by simp)
           ·rw [if_neg c19] at H
            exact absurd H (by simp)
          ·rw [if_neg c18] at H
           have c18b0 : decide (x12_4 < (t329.length : Int)) = false := decide_eq_false c18
           clear c18
           simp only [Option.some.injEq, Prod.mk.injEq] at H
           obtain ⟨rfl, rfl⟩ := H
           obtain ⟨Ao26, co26, eo26⟩ := Kd.R_slice HO_11.out
           subst eo26
           go_wp2
           go_ret2
           exact ⟨by first | rfl | (simp [errW_none, errW_some] <;> rfl) | (simp [*, errW_none, errW_some] <;> rfl), by repeat (first | (with_reducible first | exact HB.out | apply wA | apply wN | apply wD) | exact HB.out)⟩
       ·rw [if_neg c15] at H
        have c15b0 : (x9_12 == 0) = false := beq_eq_false_iff_ne.mpr c15
        have c15b1 : (x9_12 != 0) = true := bne_iff_ne.mpr c15
        simp only [Option.some.injEq, Prod.mk.injEq] at H
        obtain ⟨rfl, rfl⟩ := H
        go_wp2
        go_ret2
        exact ⟨by first | rfl | (simp [errW_none, errW_some] <;> rfl) | (simp [*, errW_none, errW_some] <;> rfl), by repeat (first | (with_reducible first | exact HB.out | apply wA | apply wN | apply wD) | exact HB.out)⟩
end Go.Proofs.YtdjkdlbokepoaaaGreatDoor.P
namespace Go.Proofs.YtdjkdlbokepoaaaGreatDoor.P
open Go.RowKit Go.Proofs.YtdjkdlbokepoaaaGreatDoorW.PrintWords Go.Proofs.YtdjkdlbokepoaaaGreatDoorW.PrintLast Go.Proofs.YtdjkdlbokepoaaaGreatDoorW.PrintMore
attribute [local go_sem] max2_int min2_int max_two min_two max_three min_three max_four min_four
set_option linter.unusedVariables false
set_option linter.unusedSimpArgs false
mutual
def mummerlaw08_FaultsTells.j0 : Nat → List Int → List (S41) → Int → Bool → Option (Bool)
 | 0, _, _, _, _ => none
 | k + 1, x0, x1, x2, x18 => if x18 = true then ((mummerlaw08_shown.f).bind fun t336 => (some t336)) else ((faults_Picture.f k x0 x1 x2).bind fun bt337 => ((mummerref08_Picture.f k x0 x1 x2).bind fun bt339 => (if bt337.1.toList = bt339.1.toList then (if bt337.2 = bt339.2 then (mummerlaw08_FaultsTells.l0 k x0 x1 0) else (some false)) else (some false))))
def mummerlaw08_FaultsTells.l0 : Nat → List Int → List (S41) → Int → Option (Bool)
 | 0, _, _, _ => none
 | k + 1, x0, x1, x11 => if x11 < (x1.length : Int) then (if 0 ≤ x11 then ((faults_Message.f k x0 ((rd_T41 x1 x11).f0) ((rd_T41 x1 x11).f1) ((rd_T41 x1 x11).f2.f0) ((rd_T41 x1 x11).f2.f1) ((rd_T41 x1 x11).f3) ((rd_T41 x1 x11).f4)).bind fun bt343 => ((mummerref08_Message.f k x0 ((rd_T41 x1 x11).f0) ((rd_T41 x1 x11).f1) ((rd_T41 x1 x11).f2.f0) ((rd_T41 x1 x11).f2.f1) ((rd_T41 x1 x11).f3) ((rd_T41 x1 x11).f4)).bind fun bt346 => (if bt343.1.toList = bt346.1.toList then (if bt343.2 = bt346.2 then (mummerlaw08_FaultsTells.l0 k x0 x1 (wrap64 (x11 + 1))) else (some false)) else (some false)))) else (none)) else ((mummerlaw08_shown.f).bind fun t341 => (some t341))
end
def mummerlaw08_FaultsTells.f (k : Nat) (l0 : List Int) (l1 : List (S41)) (a2 : Int) : Option (Bool) := if (l0.length : Int) > 600 then (mummerlaw08_FaultsTells.j0 k l0 l1 a2 true) else ((mummerlaw08_far.f k l1).bind fun t335 => (mummerlaw08_FaultsTells.j0 k l0 l1 a2 t335))
set_option maxHeartbeats 8000000 in
set_option maxRecDepth 100000 in
theorem mummerlaw08_FaultsTells.calls (k : Nat) (A0 : Option Addr) (c0 : Nat) (l0 : List Int) (A1 : Option Addr) (c1 : Nat) (l1 : List (S41)) (a2 : Int) (r : Bool) (w : World) (hr0 : Kd.C (Kd.int .u8) w A0 l0.length l0) (hc0 : l0.length ≤ c0) (hr1 : Kd.C k41 w A1 l1.length l1) (hc1 : l1.length ≤ c1) (hrt : Aside0 (r = true)) (h : mummerlaw08_FaultsTells.f k l0 l1 a2 = some r) (HT : Aside0 (Ft.All w)) :
  Calls Tryz.prog 5 #[.slice A0 l0.length c0, .slice A1 l1.length c1, .int .i64 a2] w fun e w' => e = .returned (.bool r) ∧ Below w.heap.size w w' := by
 have hu41 := Tryz.underlying41
 have HR0 := ak hr0
 have HC0 := ak hc0
 clear hr0 hc0
 have HR1 := ak hr1
 have HC1 := ak hc1
 clear hr1 hc1
 have HB := ak (Below.refl w.heap.size w)
 have H : (if (l0.length : Int) > 600 then (mummerlaw08_FaultsTells.j0 k l0 l1 a2 true) else ((mummerlaw08_far.f k l1).bind fun t335 => (mummerlaw08_FaultsTells.j0 k l0 l1 a2 t335))) = some r := h
 clear h
 have HC4 := ak H
 clear H
 go_enter Tryz.func5, Tryz.ntmps5
 go_upto_region 1 with (fail)
 go_cut [18] (fun v18 wc => ∃ (kq : Nat) (x18_3 : Bool), v18 = .bool x18_3 ∧ Aside0 (mummerlaw08_FaultsTells.j0 kq l0 l1 a2 x18_3 = some r) ∧ Aside0 (kq ≤ k) ∧ Aside0 (Below w.heap.size w wc))
 case first =>
  have H := HC4.out
  clear HC4
  by_cases c5 : (l0.length : Int) > 600
  ·rw [if_pos c5] at H
   have c5b0 : decide (600 < (l0.length : Int)) = true := decide_eq_true c5
   have c5b1 : decide (600 < l0.length) = true := decide_eq_true (by omega)
   clear c5
   (first | rw [c5b0] | (simp only [i64_w, i32_w]; rw [c5b0]) | skip)
   have H' := ak H
   clear H
   go_wp2
   go_meet
   case rel => exact ⟨_, (true), (by first | rfl | (simp; done) | (simp [*]; done)), H', ⟨by first | omega | exact Nat.le_refl _⟩, ⟨by repeat (first | (with_reducible first | exact HB.out | apply wA | apply wN | apply wD) | exact HB.out)⟩⟩
  ·rw [if_neg c5] at H
   have c5b0 : decide (600 < (l0.length : Int)) = false := decide_eq_false c5
   have c5b1 : decide (600 < l0.length) = false := decide_eq_false (by omega)
   clear c5
   (first | rw [c5b0] | (simp only [i64_w, i32_w]; rw [c5b0]) | skip)
   replace H := Option.bind_eq_some_iff.mp H
   obtain ⟨t335, A60, H⟩ := H
   replace H : (mummerlaw08_FaultsTells.j0 k l0 l1 a2 t335) = some r := H
   have A6 := ak A60
   clear A60
   have H' := ak H
   clear H
   go_wp2_with (first | (go_at_call 11; (with_reducible refine (mummerlaw08_far.calls k _ _ l1 t335 _ ?side1 ?side2 A6.out).mono ?_); (case side1 => repeat (first | exact (Kd.C_below HR1.out HB.out) | (with_reducible refine Kd.C_alloc ?_ _) | (with_reducible refine Kd.C_drewN ?_ _) | (with_reducible refine Kd.C_drew ?_))); (case side2 => exact HC1.out); rintro e w' ⟨rfl, ⟨nd, rfl⟩⟩))
   go_meet
   case rel => exact ⟨_, (t335), (by first | rfl | (simp; done) | (simp [*]; done)), H', ⟨by first | omega | exact Nat.le_refl _⟩, ⟨by repeat (first | (with_reducible first | exact HB.out | apply wA | apply wN | apply wD) | exact HB.out)⟩⟩
 case rest =>
  clear HC4
  try clear c1
  try clear p2
  try clear c5
  try clear c5b0
  try clear c5b1
  obtain ⟨kq, x18_3, rfl, HA, HJ3, HB⟩ := hcut
  cases kq with
  | zero => exact absurd HA.out (by simp [mummerlaw08_FaultsTells.j0])
  | succ kj3 =>
   have H := HA.out
   clear HA
   simp only [mummerlaw08_FaultsTells.j0] at H
   by_cases c7 : x18_3 = true
   ·subst c7
    have H1 : ((mummerlaw08_shown.f).bind fun t336 => (some t336)) = some r := by rw [if_pos rfl] at H; exact H
    clear H
    have H := H1
    clear H1
    replace H := Option.bind_eq_some_iff.mp H
    obtain ⟨t336, A80, H⟩ := H
    replace H : (some t336) = some r := H
    have A8 := ak A80
    clear A80
    obtain rfl := Option.some.inj H
    go_wp2_with (first | ((with_reducible refine gate_callee (f := 12) rfl ?_); refine goesL_ (some 19) rfl rfl Tryz.func12 (by kernel_rfl) rfl #[] rfl (by (try simp only [List.map_toArray, List.map_cons, List.map_nil]); first | done | rfl | (simp only [List.length_drop, List.length_take]; rfl)) ?_; (with_reducible refine (mummerlaw08_shown.calls  t336 _ hrt A8.out ⟨Ft.All.stay HT.out (by repeat (first | (with_reducible first | exact HB.out | apply wA | apply wN | apply wD) | exact HB.out | (refine below_set ?_ (by assumption)) | (refine below_set ?_ (Aside0.out (by assumption)))))⟩).mono ?_); rintro e w9 ⟨rfl, hb⟩; refine ⟨_, rfl, ?_⟩; have n0_ := ak (below_step (by repeat (first | (with_reducible first | exact HB.out | apply wA | apply wN | apply wD) | exact HB.out)) hb); clear HB; have HB := n0_; clear n0_; (try clear hb); (try clear hb2); (try clear hk); (try clear hi)))
    go_ret
    exact ⟨by first | rfl | (simp [errW_none, errW_some] <;> rfl) | (simp [*, errW_none, errW_some] <;> rfl), by repeat (first | (with_reducible first | exact HB.out | apply wA | apply wN | apply wD) | exact HB.out)⟩
   ·replace c7 := Bool.eq_false_iff.mpr c7
    subst c7
    have H1 : ((faults_Picture.f kj3 l0 l1 a2).bind fun bt337 => ((mummerref08_Picture.f kj3 l0 l1 a2).bind fun bt339 => (if bt337.1.toList = bt339.1.toList then (if bt337.2 = bt339.2 then (mummerlaw08_FaultsTells.l0 kj3 l0 l1 0) else (some false)) else (some false)))) = some r := by rw [if_neg (show ¬ (false = true) by decide)] at H; exact H
    clear H
    have H := H1
    clear H1
    replace H := Option.bind_eq_some_iff.mp H
    obtain ⟨⟨t337, t338⟩, A100, H⟩ := H
    try dsimp only at H
    have A10 := ak A100
    clear A100
    replace H := Option.bind_eq_some_iff.mp H
    obtain ⟨⟨t339, t340⟩, A110, H⟩ := H
    try dsimp only at H
    have A11 := ak A110
    clear A110
    by_cases c12 : t337.toList = t339.toList
    ·rw [if_pos c12] at H
     have c12b0 : (t337.toList == t339.toList) = true := beq_iff_eq.mpr c12
     have c12b1 : (t337.toList != t339.toList) = false := bne_eq_false_iff_eq.mpr c12
     clear c12
     by_cases c13 : t338 = t340
     ·rw [if_pos c13] at H
      have c13b0 : (t338 == t340) = true := beq_iff_eq.mpr c13
      have c13b1 : (t338 != t340) = false := bne_eq_false_iff_eq.mpr c13
      clear c13
      have H' := ak H
      clear H
      go_wp2_with (first | ((with_reducible refine gate_callee (f := 21) rfl ?_); refine goesL_ (some 24) rfl rfl Tryz.func21 (by kernel_rfl) rfl #[.slice A0 l0.length c0, .slice A1 l1.length c1, .int .i64 a2] rfl (by (try simp only [List.map_toArray, List.map_cons, List.map_nil]); first | done | rfl | (simp only [List.length_drop, List.length_take]; rfl)) ?_; (with_reducible refine (faults_Picture.calls kj3 _ _ l0 _ _ l1 a2 t337 t338 _ ?side1 ?side2 ?side3 ?side4 A10.out ⟨Ft.All.stay HT.out (by repeat (first | (with_reducible first | exact HB.out | apply wA | apply wN | apply wD) | exact HB.out | (refine below_set ?_ (by assumption)) | (refine below_set ?_ (Aside0.out (by assumption)))))⟩).mono ?_); (case side1 => repeat (first | exact (Kd.C_below HR0.out HB.out) | (with_reducible refine Kd.C_alloc ?_ _) | (with_reducible refine Kd.C_drewN ?_ _) | (with_reducible refine Kd.C_drew ?_))); (case side2 => exact HC0.out); (case side3 => repeat (first | exact (Kd.C_below HR1.out HB.out) | (with_reducible refine Kd.C_alloc ?_ _) | (with_reducible refine Kd.C_drewN ?_ _) | (with_reducible refine Kd.C_drew ?_))); (case side4 => exact HC1.out); rintro e w14 ⟨rfl, hb⟩; refine ⟨_, rfl, ?_⟩; have n0_ := ak (below_step (by repeat (first | (with_reducible first | exact HB.out | apply wA | apply wN | apply wD) | exact HB.out)) hb); clear HB; have HB := n0_; clear n0_; (try clear hb); (try clear hb2); (try clear hk); (try clear hi)) | ((with_reducible refine gate_callee (f := 22) rfl ?_); refine goesL_ (some 31) rfl rfl Tryz.func22 (by kernel_rfl) rfl #[.slice A0 l0.length c0, .slice A1 l1.length c1, .int .i64 a2] rfl (by (try simp only [List.map_toArray, List.map_cons, List.map_nil]); first | done | rfl | (simp only [List.length_drop, List.length_take]; rfl)) ?_; (with_reducible refine (mummerref08_Picture.calls kj3 _ _ l0 _ _ l1 a2 t339 t340 _ ?side1 ?side2 ?side3 ?side4 A11.out).mono ?_); (case side1 => repeat (first | exact (Kd.C_below HR0.out HB.out) | (with_reducible refine Kd.C_alloc ?_ _) | (with_reducible refine Kd.C_drewN ?_ _) | (with_reducible refine Kd.C_drew ?_))); (case side2 => exact HC0.out); (case side3 => repeat (first | exact (Kd.C_below HR1.out HB.out) | (with_reducible refine Kd.C_alloc ?_ _) | (with_reducible refine Kd.C_drewN ?_ _) | (with_reducible refine Kd.C_drew ?_))); (case side4 => exact HC1.out); rintro e w15 ⟨rfl, hb⟩; refine ⟨_, rfl, ?_⟩; have n0_ := ak (below_step (by repeat (first | (with_reducible first | exact HB.out | apply wA | apply wN | apply wD) | exact HB.out)) hb); clear HB; have HB := n0_; clear n0_; (try clear hb); (try clear hb2); (try clear hk); (try clear hi)))
      go_loopg [11] kj3 (fun kq v11 w' => ∃ (x11_2 : Int), v11 = .int .i64 x11_2 ∧ Aside0 (mummerlaw08_FaultsTells.l0 kq l0 l1 x11_2 = some r) ∧ Aside0 (kq ≤ kj3) ∧ Aside0 (Below w.heap.size w w'))
      case atStart => exact ⟨(0), (by first | rfl | (simp; done) | (simp [*]; done)), H', ⟨Nat.le_refl _⟩, ⟨by repeat (first | (with_reducible first | exact HB.out | apply wA | apply wN | apply wD) | exact HB.out)⟩⟩
      case round =>
       clear H'
       try clear c1
       try clear c2
       try clear p2
       try clear c5
       try clear c5b0
       try clear c5b1
       try clear c7
       try clear c12
       try clear c12b0
       try clear c12b1
       try clear c13
       try clear c13b0
       try clear c13b1
       try clear p2
       obtain ⟨x11_2, rfl, HA, HK2, HB⟩ := hrel
       cases gk with
       | zero => exact absurd HA.out (by simp [mummerlaw08_FaultsTells.l0])
       | succ k2 =>
        have H := HA.out
        clear HA
        simp only [mummerlaw08_FaultsTells.l0] at H
        by_cases c16 : x11_2 < (l1.length : Int)
        ·rw [if_pos c16] at H
         have c16b0 : decide (x11_2 < (l1.length : Int)) = true := decide_eq_true c16
         clear c16
         by_cases c17 : 0 ≤ x11_2
         ·rw [if_pos c17] at H
          have c17b0 : decide (0 ≤ x11_2) = true := decide_eq_true c17
          clear c17
          replace H := Option.bind_eq_some_iff.mp H
          obtain ⟨⟨t343, t344⟩, A180, H⟩ := H
          try dsimp only at H
          have A18 := ak A180
          clear A180
          replace H := Option.bind_eq_some_iff.mp H
          obtain ⟨⟨t346, t347⟩, A190, H⟩ := H
          try dsimp only at H
          have A19 := ak A190
          clear A190
          by_cases c20 : t343.toList = t346.toList
          ·rw [if_pos c20] at H
           have c20b0 : (t343.toList == t346.toList) = true := beq_iff_eq.mpr c20
           have c20b1 : (t343.toList != t346.toList) = false := bne_eq_false_iff_eq.mpr c20
           clear c20
           by_cases c21 : t344 = t347
           ·rw [if_pos c21] at H
            have c21b0 : (t344 == t347) = true := beq_iff_eq.mpr c21
            have c21b1 : (t344 != t347) = false := bne_eq_false_iff_eq.mpr c21
            clear c21
            have H' := ak H
            clear H
            have p342 : 0 ≤ (x11_2 : Int) := of_decide_eq_true (by first | (with_reducible assumption) | assumption)
            have q342 : x11_2 < (l1.length : Int) := of_decide_eq_true (by first | (with_reducible assumption) | assumption)
            obtain ⟨ad342, e342, hx342_0, hx342_1, hx342_2, hx342_3, hx342_4, hx342_5⟩ := at_T41 HR1.out x11_2 p342 q342
            cases e342
            replace hx342_0 := (HB.out.cell (World.block_lt_of_cell? w _ hx342_0)).trans hx342_0
            replace hx342_1 := (HB.out.cell (World.block_lt_of_cell? w _ hx342_1)).trans hx342_1
            replace hx342_2 := (HB.out.cell (World.block_lt_of_cell? w _ hx342_2)).trans hx342_2
            replace hx342_3 := (HB.out.cell (World.block_lt_of_cell? w _ hx342_3)).trans hx342_3
            replace hx342_4 := (HB.out.cell (World.block_lt_of_cell? w _ hx342_4)).trans hx342_4
            replace hx342_5 := (HB.out.cell (World.block_lt_of_cell? w _ hx342_5)).trans hx342_5
            replace p342 := eq_true p342
            replace q342 := eq_true q342
            go_wp2_with (first | ((with_reducible refine gate_callee (f := 23) rfl ?_); refine goesL_ (some 54) rfl rfl Tryz.func23 (by kernel_rfl) rfl #[.slice A0 l0.length c0, .agg #[.int .i64 ((rd_T41 l1 x11_2).f0), .int .i64 ((rd_T41 l1 x11_2).f1), .int .i64 ((rd_T41 l1 x11_2).f2.f0), .int .i64 ((rd_T41 l1 x11_2).f2.f1), .string ((rd_T41 l1 x11_2).f3), .int .i64 ((rd_T41 l1 x11_2).f4)]] rfl (by (try simp only [List.map_toArray, List.map_cons, List.map_nil]); first | done | rfl | (simp only [List.length_drop, List.length_take]; rfl)) ?_; (with_reducible refine (faults_Message.calls k2 _ _ l0 ((rd_T41 l1 x11_2).f0) ((rd_T41 l1 x11_2).f1) ((rd_T41 l1 x11_2).f2.f0) ((rd_T41 l1 x11_2).f2.f1) ((rd_T41 l1 x11_2).f3) ((rd_T41 l1 x11_2).f4) t343 t344 _ ?side1 ?side2 A18.out ⟨Ft.All.stay HT.out (by repeat (first | (with_reducible first | exact HB.out | apply wA | apply wN | apply wD) | exact HB.out | (refine below_set ?_ (by assumption)) | (refine below_set ?_ (Aside0.out (by assumption)))))⟩).mono ?_); (case side1 => repeat (first | exact (Kd.C_below HR0.out HB.out) | (with_reducible refine Kd.C_alloc ?_ _) | (with_reducible refine Kd.C_drewN ?_ _) | (with_reducible refine Kd.C_drew ?_))); (case side2 => exact HC0.out); rintro e w22 ⟨rfl, hb⟩; refine ⟨_, rfl, ?_⟩; have n0_ := ak (below_step (by repeat (first | (with_reducible first | exact HB.out | apply wA | apply wN | apply wD) | exact HB.out)) hb); clear HB; have HB := n0_; clear n0_; (try clear hb); (try clear hb2); (try clear hk); (try clear hi); have p345 : 0 ≤ (x11_2 : Int) := of_decide_eq_true (by first | (with_reducible assumption) | assumption); have q345 : x11_2 < (l1.length : Int) := of_decide_eq_true (by first | (with_reducible assumption) | assumption); obtain ⟨ad345, e345, hx345_0, hx345_1, hx345_2, hx345_3, hx345_4, hx345_5⟩ := at_T41 HR1.out x11_2 p345 q345; obtain rfl : ad342 = ad345 := (by injection e345); replace hx345_0 := (HB.out.cell (World.block_lt_of_cell? w _ hx345_0)).trans hx345_0; replace hx345_1 := (HB.out.cell (World.block_lt_of_cell? w _ hx345_1)).trans hx345_1; replace hx345_2 := (HB.out.cell (World.block_lt_of_cell? w _ hx345_2)).trans hx345_2; replace hx345_3 := (HB.out.cell (World.block_lt_of_cell? w _ hx345_3)).trans hx345_3; replace hx345_4 := (HB.out.cell (World.block_lt_of_cell? w _ hx345_4)).trans hx345_4; replace hx345_5 := (HB.out.cell (World.block_lt_of_cell? w _ hx345_5)).trans hx345_5; replace p345 := eq_true p345; replace q345 := eq_true q345) | ((with_reducible refine gate_callee (f := 24) rfl ?_); refine goesL_ (some 63) rfl rfl Tryz.func24 (by kernel_rfl) rfl #[.slice A0 l0.length c0, .agg #[.int .i64 ((rd_T41 l1 x11_2).f0), .int .i64 ((rd_T41 l1 x11_2).f1), .int .i64 ((rd_T41 l1 x11_2).f2.f0), .int .i64 ((rd_T41 l1 x11_2).f2.f1), .string ((rd_T41 l1 x11_2).f3), .int .i64 ((rd_T41 l1 x11_2).f4)]] rfl (by (try simp only [List.map_toArray, List.map_cons, List.map_nil]); first | done | rfl | (simp only [List.length_drop, List.length_take]; rfl)) ?_; (with_reducible refine (mummerref08_Message.calls k2 _ _ l0 ((rd_T41 l1 x11_2).f0) ((rd_T41 l1 x11_2).f1) ((rd_T41 l1 x11_2).f2.f0) ((rd_T41 l1 x11_2).f2.f1) ((rd_T41 l1 x11_2).f3) ((rd_T41 l1 x11_2).f4) t346 t347 _ ?side1 ?side2 A19.out).mono ?_); (case side1 => repeat (first | exact (Kd.C_below HR0.out HB.out) | (with_reducible refine Kd.C_alloc ?_ _) | (with_reducible refine Kd.C_drewN ?_ _) | (with_reducible refine Kd.C_drew ?_))); (case side2 => exact HC0.out); rintro e w23 ⟨rfl, hb⟩; refine ⟨_, rfl, ?_⟩; have n0_ := ak (below_step (by repeat (first | (with_reducible first | exact HB.out | apply wA | apply wN | apply wD) | exact HB.out)) hb); clear HB; have HB := n0_; clear n0_; (try clear hb); (try clear hb2); (try clear hk); (try clear hi)))
            go_roundg k2
            case measure => have := HJ3.out; have := HK2.out; omega
            case rel => exact ⟨(wrap64 (x11_2 + 1)), (by first | rfl | (simp; done) | (simp [*]; done)), H', ⟨by have := HJ3.out; have := HK2.out; omega⟩, ⟨by repeat (first | (with_reducible first | exact HB.out | apply wA | apply wN | apply wD) | exact HB.out)⟩⟩
           ·rw [if_neg c21] at H
            have c21b0 : (t344 == t347) = false := beq_eq_false_iff_ne.mpr c21
            have c21b1 : (t344 != t347) = true := bne_iff_ne.mpr c21
            exact absurd ((Option.some.inj H).trans hrt.out) (by decide)
          ·rw [if_neg c20] at H
           have c20b0 : (t343.toList == t346.toList) = false := beq_eq_false_iff_ne.mpr c20
           have c20b1 : (t343.toList != t346.toList) = true := bne_iff_ne.mpr c20
           exact absurd ((Option.some.inj H).trans hrt.out) (by decide)
         ·rw [if_neg c17] at H
          exact absurd H (by simp)
        ·rw [if_neg c16] at H
         have c16b0 : decide (x11_2 < (l1.length : Int)) = false := decide_eq_false c16
         clear c16
         replace H := Option.bind_eq_some_iff.mp H
         obtain ⟨t341, A240, H⟩ := H
         replace H : (some t341) = some r := H
         have A24 := ak A240
         clear A240
         obtain rfl := Option.some.inj H
         go_wp2_with (first | ((with_reducible refine gate_callee (f := 12) rfl ?_); refine goesL_ (some 74) rfl rfl Tryz.func12 (by kernel_rfl) rfl #[] rfl (by (try simp only [List.map_toArray, List.map_cons, List.map_nil]); first | done | rfl | (simp only [List.length_drop, List.length_take]; rfl)) ?_; (with_reducible refine (mummerlaw08_shown.calls  t341 _ hrt A24.out ⟨Ft.All.stay HT.out (by repeat (first | (with_reducible first | exact HB.out | apply wA | apply wN | apply wD) | exact HB.out | (refine below_set ?_ (by assumption)) | (refine below_set ?_ (Aside0.out (by assumption)))))⟩).mono ?_); rintro e w25 ⟨rfl, hb⟩; refine ⟨_, rfl, ?_⟩; have n0_ := ak (below_step (by repeat (first | (with_reducible first | exact HB.out | apply wA | apply wN | apply wD) | exact HB.out)) hb); clear HB; have HB := n0_; clear n0_; (try clear hb); (try clear hb2); (try clear hk); (try clear hi)))
         go_ret
         exact ⟨by first | rfl | (simp [errW_none, errW_some] <;> rfl) | (simp [*, errW_none, errW_some] <;> rfl), by repeat (first | (with_reducible first | exact HB.out | apply wA | apply wN | apply wD) | exact HB.out)⟩
     ·rw [if_neg c13] at H
      have c13b0 : (t338 == t340) = false := beq_eq_false_iff_ne.mpr c13
      have c13b1 : (t338 != t340) = true := bne_iff_ne.mpr c13
      exact absurd ((Option.some.inj H).trans hrt.out) (by decide)
    ·rw [if_neg c12] at H
     have c12b0 : (t337.toList == t339.toList) = false := beq_eq_false_iff_ne.mpr c12
     have c12b1 : (t337.toList != t339.toList) = true := bne_iff_ne.mpr c12
     exact absurd ((Option.some.inj H).trans hrt.out) (by decide)
end Go.Proofs.YtdjkdlbokepoaaaGreatDoor.P
