import Derived.Test.YtdjkdlbokepoaaaGreatDoorProg
import Derived.Below
import Derived.Deep.Draws
import Derived.Deep.AppendLies
import Derived.Maps.AppendAt
import Derived.OwnWalk
import Derived.Laws.BytesArg
import Derived.Laws.MakeOwn
import Derived.Laws.OwnMore
import Derived.Deep.OwnRows
import Derived.Tactics
import Derived.Lib.ConvBytes
import Derived.Laws.Slices
import Derived.WalkKit
import Derived.KernelRfl
import Derived.RowKit3
import Derived.Deep.LoopGhost
import Derived.Deep.QuietTactic
import Derived.BigQuiet
import Derived.WideLaws
import Derived.Deep.DeepCutAuto
import Derived.Deep.CutBlock
import Derived.Deep.RegionHeld3
import Derived.Laws.Rows
import Derived.Lib.AppendStr
import Derived.ArgAppend
import Derived.Laws.IdiomCopy
import Derived.OrdersHeld
import Derived.Laws.BitsLemmas
import Derived.RowKit
import Derived.Lib.LazyBuf
import Derived.Carry
import Derived.Laws.Cover1
import Derived.Test.YtdjkdlbokepoaaaGreatDoorKA28
import Derived.OwnWalkIn
import Derived.Shelf.Abstract
import Derived.Shelf.RegionOpen
import Derived.Test.YtdjkdlbokepoaaaGreatDoorKA2
import Derived.Test.YtdjkdlbokepoaaaGreatDoorKA3
import Derived.Test.YtdjkdlbokepoaaaGreatDoorKA29
import Derived.Test.YtdjkdlbokepoaaaGreatDoorKA5
import Derived.Test.YtdjkdlbokepoaaaGreatDoorKA8
import Derived.Test.YtdjkdlbokepoaaaGreatDoorKA9
import Derived.Test.YtdjkdlbokepoaaaGreatDoorKA10
import Derived.Test.YtdjkdlbokepoaaaGreatDoorKA11
import Derived.Test.YtdjkdlbokepoaaaGreatDoorKA32
import Derived.Test.YtdjkdlbokepoaaaGreatDoorKA33
import Derived.Test.YtdjkdlbokepoaaaGreatDoorKA13
namespace Go.Proofs.YtdjkdlbokepoaaaGreatDoor.P
open Go.RowKit YtdjkdlbokepoaaaGreatDoorW.PrintWords YtdjkdlbokepoaaaGreatDoorW.PrintLast YtdjkdlbokepoaaaGreatDoorW.PrintMore
attribute [local go_sem] max2_int min2_int max_two min_two max_three min_three max_four min_four
set_option linter.unusedVariables false
set_option linter.unusedSimpArgs false
def errW : Option Int → Value
 | none => .nilIface
 | some c => .iface 0 (.int .i64 c)
theorem errW_none : errW none = .nilIface := rfl
theorem errW_some (c : Int) : errW (some c) = .iface 0 (.int .i64 c) := rfl
theorem info3 : (Tryz.prog.info? 3).map (fun i => (i.zero, i.size, i.bytes)) = some (some (.int .i64 0), 1, 8) := by kernel_rfl
theorem info5 : (Tryz.prog.info? 5).map (fun i => (i.zero, i.size, i.bytes)) = some (some (.int .u8 0), 1, 1) := by kernel_rfl
structure S39 where
 f0 : Int
 f1 : Int
def z39 : S39 := ⟨(0 : Int), (0 : Int)⟩
def k39 : Kd S39 := Kd.iso (Kd.pair (Kd.int .i64) (Kd.int .i64)) (fun x : S39 => (x.f0, x.f1))
theorem k39_open {w : World} {x : S39} {cs : List Value} (h : k39.K w x cs) : cs = [.int .i64 x.f0, .int .i64 x.f1] := by
 obtain ⟨_, _, rfl, rfl, rfl⟩ := h
 exact rfl
theorem k39_mkM (w : World) (base : Nat) (ok : Nat → Prop) (x : S39)  : k39.M w base ok x [.int .i64 x.f0, .int .i64 x.f1] := ⟨[.int .i64 x.f0], [.int .i64 x.f1], rfl, rfl, rfl⟩
structure S41 where
 f0 : Int
 f1 : Int
 f2 : S39
 f3 : ByteArray
 f4 : Int
def z41 : S41 := ⟨(0 : Int), (0 : Int), z39, (⟨#[]⟩ : ByteArray), (0 : Int)⟩
def k41 : Kd S41 := Kd.iso (Kd.pair (Kd.int .i64) (Kd.pair (Kd.int .i64) (Kd.pair k39 (Kd.pair Kd.string (Kd.int .i64))))) (fun x : S41 => (x.f0, x.f1, x.f2, x.f3, x.f4))
theorem k41_open {w : World} {x : S41} {cs : List Value} (h : k41.K w x cs) : cs = [.int .i64 x.f0, .int .i64 x.f1, .int .i64 x.f2.f0, .int .i64 x.f2.f1, .string x.f3, .int .i64 x.f4] := by
 obtain ⟨_, _, rfl, rfl, ⟨_, _, rfl, rfl, ⟨_, _, rfl, s2, ⟨_, _, rfl, rfl, rfl⟩⟩⟩⟩ := h
 obtain rfl := k39_open s2
 exact rfl
theorem k41_mkM (w : World) (base : Nat) (ok : Nat → Prop) (x : S41)  : k41.M w base ok x [.int .i64 x.f0, .int .i64 x.f1, .int .i64 x.f2.f0, .int .i64 x.f2.f1, .string x.f3, .int .i64 x.f4] := ⟨[.int .i64 x.f0], [.int .i64 x.f1, .int .i64 x.f2.f0, .int .i64 x.f2.f1, .string x.f3, .int .i64 x.f4], rfl, rfl, ⟨[.int .i64 x.f1], [.int .i64 x.f2.f0, .int .i64 x.f2.f1, .string x.f3, .int .i64 x.f4], rfl, rfl, ⟨[.int .i64 x.f2.f0, .int .i64 x.f2.f1], [.string x.f3, .int .i64 x.f4], rfl, (k39_mkM w base ok x.f2 ), ⟨[.string x.f3], [.int .i64 x.f4], rfl, rfl, rfl⟩⟩⟩⟩
def rd_T41 (xs : List S41) (i : Int) : S41 := xs.getD i.toNat z41
theorem at_T41 {w : World} {A : Option Addr} {n : Nat} {xs : List S41} (h : Kd.C k41 w A n xs) (i : Int) (h0 : 0 ≤ i) (h1 : i < n) : ∃ ad , A = some ad ∧ w.cell? (ad.add (i.toNat * 6)) = some (.int .i64 (rd_T41 xs i).f0) ∧ w.cell? ⟨(ad.add (i.toNat * 6)).block, (ad.add (i.toNat * 6)).off + 1, none⟩ = some (.int .i64 (rd_T41 xs i).f1) ∧ w.cell? ⟨(ad.add (i.toNat * 6)).block, (ad.add (i.toNat * 6)).off + 2, none⟩ = some (.int .i64 (rd_T41 xs i).f2.f0) ∧ w.cell? ⟨(ad.add (i.toNat * 6)).block, (ad.add (i.toNat * 6)).off + 3, none⟩ = some (.int .i64 (rd_T41 xs i).f2.f1) ∧ w.cell? ⟨(ad.add (i.toNat * 6)).block, (ad.add (i.toNat * 6)).off + 4, none⟩ = some (.string (rd_T41 xs i).f3) ∧ w.cell? ⟨(ad.add (i.toNat * 6)).block, (ad.add (i.toNat * 6)).off + 5, none⟩ = some (.int .i64 (rd_T41 xs i).f4) := by
 obtain ⟨ad, c, e, _, hK, hc0⟩ := Kd.C_get h z41 i h0 h1
 have hc : ∀ j u, c[j]? = some u → w.cell? (ad.add (i.toNat * 6 + j)) = some u := hc0
 obtain rfl := k41_open hK
 exact ⟨ad, e, hc 0 _ rfl, by rw [← add_field _ _ 1 (by omega)]; exact hc 1 _ rfl, by rw [← add_field _ _ 2 (by omega)]; exact hc 2 _ rfl, by rw [← add_field _ _ 3 (by omega)]; exact hc 3 _ rfl, by rw [← add_field _ _ 4 (by omega)]; exact hc 4 _ rfl, by rw [← add_field _ _ 5 (by omega)]; exact hc 5 _ rfl⟩
abbrev Y : Bool := true
theorem ak {p : Prop} (h : p) : Aside0 p := ⟨h⟩
theorem bN {W : World} {g : Nat} {o : Obj} (h : W.heap[g]? = some o) (m : Nat) : (W.drewN m).heap[g]? = some o := blk_drewN h m
theorem bD {W : World} {g : Nat} {o : Obj} (h : W.heap[g]? = some o) : W.drew.heap[g]? = some o := blk_drew h
theorem bA {W : World} {g : Nat} {o : Obj} (h : W.heap[g]? = some o) (o' : Obj) : (W.alloc o').heap[g]? = some o := blk_alloc h o'
theorem wA {w W : World} (h : Below w.heap.size w W) (o : Obj) : Below w.heap.size w (W.alloc o) := below_alloc h o
theorem wN {B : Nat} {w W : World} (h : Below B w W) (n : Nat) : Below B w (W.drewN n) := pw_below_drewN h n
theorem wD {B : Nat} {w W : World} (h : Below B w W) : Below B w W.drew := below_drew1 h
end Go.Proofs.YtdjkdlbokepoaaaGreatDoor.P
namespace Go.Proofs.YtdjkdlbokepoaaaGreatDoor.P
open Go.RowKit YtdjkdlbokepoaaaGreatDoorW.PrintWords YtdjkdlbokepoaaaGreatDoorW.PrintLast YtdjkdlbokepoaaaGreatDoorW.PrintMore
attribute [local go_sem] max2_int min2_int max_two min_two max_three min_three max_four min_four
set_option linter.unusedVariables false
set_option linter.unusedSimpArgs false
def conv9to29.f (a0 : ByteArray) : Option (List Int) := Ft.convF a0
instance instS41 : Inhabited S41 := ⟨z41⟩
def cells41 (x : S41) : List Value := [.int .i64 x.f0, .int .i64 x.f1, .int .i64 x.f2.f0, .int .i64 x.f2.f1, .string x.f3, .int .i64 x.f4]
def chainG (l : List S41) : Nat → Int → List Int
 | 0, _ => []
 | k + 1, i => if i < 0 then [] else i :: chainG l k (rd_T41 l i).f4
def Downs (l : List S41) : Prop := ∀ i : Nat, i < l.length → -1 ≤ (rd_T41 l i).f4 ∧ (rd_T41 l i).f4 < (i : Int)
def linkOf (l : List S41) (i : Int) : Int × Int := (i, (rd_T41 l i).f0)
def downsB (l : List S41) : Bool := (List.range l.length).all fun i => decide (-1 ≤ (rd_T41 l i).f4 ∧ (rd_T41 l i).f4 < (i : Int))
theorem downs_of {l : List S41} (h : downsB l = true) : Downs l := fun i hi => of_decide_eq_true (List.all_eq_true.1 h i (List.mem_range.2 hi))
def mummerlaw08_far.l0 : Nat → List (S41) → Int → Option (Bool)
 | 0, _, _ => none
 | k + 1, x0, x3 => if x3 < (x0.length : Int) then (if 0 ≤ x3 then (if (((rd_T41 x0 x3).f3).size : Int) > 200 then (some true) else (mummerlaw08_far.l0 k x0 (wrap64 (x3 + 1)))) else (none)) else (some false)
def mummerlaw08_far.f (k : Nat) (l0 : List (S41)) : Option (Bool) := if (l0.length : Int) > 60 then (some true) else (mummerlaw08_far.l0 k l0 0)
set_option maxHeartbeats 8000000 in
set_option maxRecDepth 100000 in
theorem mummerlaw08_far.calls (k : Nat) (A0 : Option Addr) (c0 : Nat) (l0 : List (S41)) (r : Bool) (w : World) (hr0 : Kd.C k41 w A0 l0.length l0) (hc0 : l0.length ≤ c0) (h : mummerlaw08_far.f k l0 = some r) :
  Calls Tryz.prog 11 #[.slice A0 l0.length c0] w fun e w' => e = .returned (.bool r) ∧ Drawn0 w w' := by
 have HR0 := ak hr0
 have HC0 := ak hc0
 clear hr0 hc0
 have H : (if (l0.length : Int) > 60 then (some true) else (mummerlaw08_far.l0 k l0 0)) = some r := h
 clear h
 by_cases c2 : (l0.length : Int) > 60
 ·rw [if_pos c2] at H
  have c2b0 : decide (60 < (l0.length : Int)) = true := decide_eq_true c2
  have c2b1 : decide (60 < l0.length) = true := decide_eq_true (by omega)
  clear c2
  obtain rfl := Option.some.inj H
  go_enter Tryz.func11, Tryz.ntmps11
  go_wp2
  go_ret
  exact ⟨by first | rfl | (simp; done) | (simp [*]; done), by repeat (first | exact Drawn0.refl _ | apply Drawn0.step)⟩
 ·rw [if_neg c2] at H
  have c2b0 : decide (60 < (l0.length : Int)) = false := decide_eq_false c2
  have c2b1 : decide (60 < l0.length) = false := decide_eq_false (by omega)
  clear c2
  have H' := ak H
  clear H
  go_enter Tryz.func11, Tryz.ntmps11
  go_wp2
  go_loopg [3] k (fun kq v3 w' => ∃ (x3_1 : Int), v3 = .int .i64 x3_1 ∧ Aside0 (mummerlaw08_far.l0 kq l0 x3_1 = some r) ∧ Aside0 (kq ≤ k) ∧ Drawn0 w w')
  case atStart => exact ⟨(0), (by first | rfl | (simp; done) | (simp [*]; done)), H', ⟨Nat.le_refl _⟩, by repeat (first | exact Drawn0.refl _ | apply Drawn0.step)⟩
  case round =>
   clear H'
   try clear c1
   try clear c2
   try clear c2b0
   try clear c2b1
   try clear p2
   obtain ⟨x3_1, rfl, HA, HK1, ⟨m1, rfl⟩⟩ := hrel
   cases gk with
   | zero => exact absurd HA.out (by simp [mummerlaw08_far.l0])
   | succ k1 =>
    have H := HA.out
    clear HA
    simp only [mummerlaw08_far.l0] at H
    by_cases c3 : x3_1 < (l0.length : Int)
    ·rw [if_pos c3] at H
     have c3b0 : decide (x3_1 < (l0.length : Int)) = true := decide_eq_true c3
     clear c3
     by_cases c4 : 0 ≤ x3_1
     ·rw [if_pos c4] at H
      have c4b0 : decide (0 ≤ x3_1) = true := decide_eq_true c4
      clear c4
      by_cases c5 : (((rd_T41 l0 x3_1).f3).size : Int) > 200
      ·rw [if_pos c5] at H
       have c5b0 : decide (200 < (((rd_T41 l0 x3_1).f3).size : Int)) = true := decide_eq_true c5
       have c5b1 : decide (200 < ((rd_T41 l0 x3_1).f3).size) = true := decide_eq_true (by omega)
       clear c5
       obtain rfl := Option.some.inj H
       have p101 : 0 ≤ (x3_1 : Int) := of_decide_eq_true (by first | (with_reducible assumption) | assumption)
       have q101 : x3_1 < (l0.length : Int) := of_decide_eq_true (by first | (with_reducible assumption) | assumption)
       obtain ⟨ad101, e101, hx101_0, hx101_1, hx101_2, hx101_3, hx101_4, hx101_5⟩ := at_T41 HR0.out x3_1 p101 q101
       cases e101
       replace p101 := eq_true p101
       replace q101 := eq_true q101
       go_wp2
       go_ret
       exact ⟨by first | rfl | (simp; done) | (simp [*]; done), by repeat (first | exact Drawn0.refl _ | apply Drawn0.step)⟩
      ·rw [if_neg c5] at H
       have c5b0 : decide (200 < (((rd_T41 l0 x3_1).f3).size : Int)) = false := decide_eq_false c5
       have c5b1 : decide (200 < ((rd_T41 l0 x3_1).f3).size) = false := decide_eq_false (by omega)
       clear c5
       have H' := ak H
       clear H
       have p101 : 0 ≤ (x3_1 : Int) := of_decide_eq_true (by first | (with_reducible assumption) | assumption)
       have q101 : x3_1 < (l0.length : Int) := of_decide_eq_true (by first | (with_reducible assumption) | assumption)
       obtain ⟨ad101, e101, hx101_0, hx101_1, hx101_2, hx101_3, hx101_4, hx101_5⟩ := at_T41 HR0.out x3_1 p101 q101
       cases e101
       replace p101 := eq_true p101
       replace q101 := eq_true q101
       go_wp2
       go_roundg k1
       case measure => have := HK1.out; omega
       case rel => exact ⟨(wrap64 (x3_1 + 1)), (by first | rfl | (simp; done) | (simp [*]; done)), H', ⟨by have := HK1.out; omega⟩, by repeat (first | exact Drawn0.refl _ | apply Drawn0.step)⟩
     ·rw [if_neg c4] at H
      exact absurd H (by simp)
    ·rw [if_neg c3] at H
     have c3b0 : decide (x3_1 < (l0.length : Int)) = false := decide_eq_false c3
     clear c3
     obtain rfl := Option.some.inj H
     go_wp2
     go_ret
     exact ⟨by first | rfl | (simp; done) | (simp [*]; done), by repeat (first | exact Drawn0.refl _ | apply Drawn0.step)⟩
def runes_Check.f (l0 : List Int) : Option (Int × Int) := Sc.checkL l0
theorem runes_Check.calls (A0 : Option Addr) (c0 : Nat) (l0 : List Int) (r1 : Int) (r2 : Int) (w : World) (hr0 : Kd.C (Kd.int .u8) w A0 l0.length l0) (hc0 : l0.length ≤ c0) (h : runes_Check.f l0 = some (r1, r2)) (HT : Aside0 (Ft.All w)) :
  Calls Tryz.prog 45 #[.slice A0 l0.length c0] w fun e w' => e = .returned (.tuple #[.int .i64 r1, .int .i64 r2]) ∧ Below w.heap.size w w' :=
 Sc.check_all l0 A0 c0 r1 r2 w hr0 hc0 h HT.out.tab
end Go.Proofs.YtdjkdlbokepoaaaGreatDoor.P
namespace Go.Proofs.YtdjkdlbokepoaaaGreatDoor.P
open Go.RowKit YtdjkdlbokepoaaaGreatDoorW.PrintWords YtdjkdlbokepoaaaGreatDoorW.PrintLast YtdjkdlbokepoaaaGreatDoorW.PrintMore
attribute [local go_sem] max2_int min2_int max_two min_two max_three min_three max_four min_four
set_option linter.unusedVariables false
set_option linter.unusedSimpArgs false
def strings_ContainsFunc.f (a0 : ByteArray) : Option Bool := some (decide (0 ≤ Lib.idxFunc (fun r => decide (r < 32)) true a0))
theorem strings_ContainsFunc.calls (a0 : ByteArray) (r : Bool) (w : World) (h : strings_ContainsFunc.f a0 = some r) :
  Calls Tryz.prog 75 #[.string a0, .func (.func 76) #[] #[]] w fun e w' => e = .returned (.bool r) ∧ Below w.heap.size w w' := by
 unfold strings_ContainsFunc.f at h
 obtain rfl := Option.some.inj h
 exact Ft.contains_calls a0 w
def faults_plain.f (a0 : ByteArray) : Option (Bool) := (conv9to29.f a0).bind fun t125 => ((runes_Check.f t125).bind fun bt128 => (if bt128.2 = 0 then ((strings_ContainsFunc.f a0).bind fun t130 => (some (!t130))) else (some false)))
set_option maxHeartbeats 8000000 in
set_option maxRecDepth 100000 in
theorem faults_plain.calls (a0 : ByteArray) (r : Bool) (w : World) (h : faults_plain.f a0 = some r) (HT : Aside0 (Ft.All w)) :
  Calls Tryz.prog 43 #[.string a0] w fun e w' => e = .returned (.bool r) ∧ Below w.heap.size w w' := by
 have HB := ak (Below.refl w.heap.size w)
 have H : ((conv9to29.f a0).bind fun t125 => ((runes_Check.f t125).bind fun bt128 => (if bt128.2 = 0 then ((strings_ContainsFunc.f a0).bind fun t130 => (some (!t130))) else (some false)))) = some r := h
 clear h
 replace H := Option.bind_eq_some_iff.mp H
 obtain ⟨t125, A20, H⟩ := H
 try dsimp only at H
 have A2 := ak A20
 clear A20
 replace H := Option.bind_eq_some_iff.mp H
 obtain ⟨⟨t128, t129⟩, A30, H⟩ := H
 try dsimp only at H
 have A3 := ak A30
 clear A30
 by_cases c4 : t129 = 0
 ·rw [if_pos c4] at H
  have c4b0 : (t129 == 0) = true := beq_iff_eq.mpr c4
  have c4b1 : (t129 != 0) = false := bne_eq_false_iff_eq.mpr c4
  clear c4
  replace H := Option.bind_eq_some_iff.mp H
  obtain ⟨t130, A50, H⟩ := H
  replace H : (some (!t130)) = some r := H
  have A5 := ak A50
  clear A50
  obtain rfl := Option.some.inj H
  go_enter Tryz.func43, Tryz.ntmps43
  go_wp2
  refine Ft.upC_ a0 t125 A2.out ?_
  intro v126 w6 ho0 hb
  have n0_ := ak (Ft.Cv_lower ho0 (below_size (by repeat (first | (with_reducible first | exact HB.out | apply wA | apply wN | apply wD) | exact HB.out)))); have n1_ := ak (below_step (by repeat (first | (with_reducible first | exact HB.out | apply wA | apply wN | apply wD) | exact HB.out)) hb); clear HB; have HO127 := n0_; have HB := n1_; clear n0_ n1_; (try clear hb); (try clear hb2); (try clear hk); (try clear hi); (try clear ho0); obtain ⟨Ao7, co7, eo7⟩ := Ft.Cv_slice HO127.out; subst eo7
  go_wp2_with (first | ((with_reducible refine gate_callee (f := 45) rfl ?_); refine goesL_ (some 8) rfl rfl Tryz.func45 (by kernel_rfl) rfl #[.slice Ao7 t125.length co7] rfl (by (try simp only [List.map_toArray, List.map_cons, List.map_nil]); first | done | rfl | (simp only [List.length_drop, List.length_take]; rfl)) ?_; (with_reducible refine (runes_Check.calls _ _ t125 t128 t129 _ ?side1 ?side2 A3.out ⟨Ft.All.stay HT.out (by repeat (first | (with_reducible first | exact HB.out | apply wA | apply wN | apply wD) | exact HB.out | (refine below_set ?_ (by assumption)) | (refine below_set ?_ (Aside0.out (by assumption)))))⟩).mono ?_); (case side1 => repeat (first | exact (Ft.Cv_reads' HO127.out).2.2 | (with_reducible refine Kd.C_alloc ?_ _) | (with_reducible refine Kd.C_drewN ?_ _) | (with_reducible refine Kd.C_drew ?_))); (case side2 => exact (Ft.Cv_reads' HO127.out).2.1); rintro e w8 ⟨rfl, hb⟩; refine ⟨_, rfl, ?_⟩; have n0_ := ak (Ft.Cv_below (by (with_reducible repeat (first | apply Ft.Cv_alloc | apply Ft.Cv_drewN | apply Ft.Cv_drew)); exact HO127.out) hb); have n1_ := ak (below_step (by repeat (first | (with_reducible first | exact HB.out | apply wA | apply wN | apply wD) | exact HB.out)) hb); clear HO127; clear HB; have HO127 := n0_; have HB := n1_; clear n0_ n1_; (try clear hb); (try clear hb2); (try clear hk); (try clear hi)) | (go_at_call 75; (with_reducible refine (strings_ContainsFunc.calls a0 t130 _ A5.out).mono ?_); rintro e w9 ⟨rfl, hb⟩; have n0_ := ak (Ft.Cv_below (by (with_reducible repeat (first | apply Ft.Cv_alloc | apply Ft.Cv_drewN | apply Ft.Cv_drew)); exact HO127.out) hb); have n1_ := ak (below_step (by repeat (first | (with_reducible first | exact HB.out | apply wA | apply wN | apply wD) | exact HB.out)) hb); clear HO127; clear HB; have HO127 := n0_; have HB := n1_; clear n0_ n1_; (try clear hb); (try clear hb2); (try clear hk); (try clear hi)))
  go_ret
  exact ⟨by first | rfl | (simp [errW_none, errW_some] <;> rfl) | (simp [*, errW_none, errW_some] <;> rfl), by repeat (first | (with_reducible first | exact HB.out | apply wA | apply wN | apply wD) | exact HB.out)⟩
 ·rw [if_neg c4] at H
  have c4b0 : (t129 == 0) = false := beq_eq_false_iff_ne.mpr c4
  have c4b1 : (t129 != 0) = true := bne_iff_ne.mpr c4
  obtain rfl := Option.some.inj H
  go_enter Tryz.func43, Tryz.ntmps43
  go_wp2
  refine Ft.upC_ a0 t125 A2.out ?_
  intro v126 w10 ho0 hb
  have n0_ := ak (Ft.Cv_lower ho0 (below_size (by repeat (first | (with_reducible first | exact HB.out | apply wA | apply wN | apply wD) | exact HB.out)))); have n1_ := ak (below_step (by repeat (first | (with_reducible first | exact HB.out | apply wA | apply wN | apply wD) | exact HB.out)) hb); clear HB; have HO127 := n0_; have HB := n1_; clear n0_ n1_; (try clear hb); (try clear hb2); (try clear hk); (try clear hi); (try clear ho0); obtain ⟨Ao11, co11, eo11⟩ := Ft.Cv_slice HO127.out; subst eo11
  go_wp2_with (first | ((with_reducible refine gate_callee (f := 45) rfl ?_); refine goesL_ (some 8) rfl rfl Tryz.func45 (by kernel_rfl) rfl #[.slice Ao11 t125.length co11] rfl (by (try simp only [List.map_toArray, List.map_cons, List.map_nil]); first | done | rfl | (simp only [List.length_drop, List.length_take]; rfl)) ?_; (with_reducible refine (runes_Check.calls _ _ t125 t128 t129 _ ?side1 ?side2 A3.out ⟨Ft.All.stay HT.out (by repeat (first | (with_reducible first | exact HB.out | apply wA | apply wN | apply wD) | exact HB.out | (refine below_set ?_ (by assumption)) | (refine below_set ?_ (Aside0.out (by assumption)))))⟩).mono ?_); (case side1 => repeat (first | exact (Ft.Cv_reads' HO127.out).2.2 | (with_reducible refine Kd.C_alloc ?_ _) | (with_reducible refine Kd.C_drewN ?_ _) | (with_reducible refine Kd.C_drew ?_))); (case side2 => exact (Ft.Cv_reads' HO127.out).2.1); rintro e w12 ⟨rfl, hb⟩; refine ⟨_, rfl, ?_⟩; have n0_ := ak (Ft.Cv_below (by (with_reducible repeat (first | apply Ft.Cv_alloc | apply Ft.Cv_drewN | apply Ft.Cv_drew)); exact HO127.out) hb); have n1_ := ak (below_step (by repeat (first | (with_reducible first | exact HB.out | apply wA | apply wN | apply wD) | exact HB.out)) hb); clear HO127; clear HB; have HO127 := n0_; have HB := n1_; clear n0_ n1_; (try clear hb); (try clear hb2); (try clear hk); (try clear hi)))
  go_ret
  exact ⟨by first | rfl | (simp [errW_none, errW_some] <;> rfl) | (simp [*, errW_none, errW_some] <;> rfl), by repeat (first | (with_reducible first | exact HB.out | apply wA | apply wN | apply wD) | exact HB.out)⟩
end Go.Proofs.YtdjkdlbokepoaaaGreatDoor.P
namespace Go.Proofs.YtdjkdlbokepoaaaGreatDoor.P
open Go.RowKit YtdjkdlbokepoaaaGreatDoorW.PrintWords YtdjkdlbokepoaaaGreatDoorW.PrintLast YtdjkdlbokepoaaaGreatDoorW.PrintMore
attribute [local go_sem] max2_int min2_int max_two min_two max_three min_three max_four min_four
set_option linter.unusedVariables false
set_option linter.unusedSimpArgs false
mutual
def faults_Check.l0 : Nat → Int → List (S41) → Int → Int → Option (Int × Int)
 | 0, _, _, _, _ => none
 | k + 1, x0, x12, x13, x14 => if x14 < x13 then (if 0 ≤ x14 then (if x14 < (x12.length : Int) then (if ((rd_T41 x12 x14).f0) < 1 then (faults_Check.j1 k x0 x14 x12 x13 x14 true ((rd_T41 x12 x14).f0) ((rd_T41 x12 x14).f1) ((rd_T41 x12 x14).f2.f0) ((rd_T41 x12 x14).f2.f1) ((rd_T41 x12 x14).f3) ((rd_T41 x12 x14).f4)) else (if ((rd_T41 x12 x14).f0) > 999 then (faults_Check.j1 k x0 x14 x12 x13 x14 true ((rd_T41 x12 x14).f0) ((rd_T41 x12 x14).f1) ((rd_T41 x12 x14).f2.f0) ((rd_T41 x12 x14).f2.f1) ((rd_T41 x12 x14).f3) ((rd_T41 x12 x14).f4)) else (if ((rd_T41 x12 x14).f1) < 1 then (faults_Check.j1 k x0 x14 x12 x13 x14 true ((rd_T41 x12 x14).f0) ((rd_T41 x12 x14).f1) ((rd_T41 x12 x14).f2.f0) ((rd_T41 x12 x14).f2.f1) ((rd_T41 x12 x14).f3) ((rd_T41 x12 x14).f4)) else (if ((rd_T41 x12 x14).f1) > 8 then (faults_Check.j1 k x0 x14 x12 x13 x14 true ((rd_T41 x12 x14).f0) ((rd_T41 x12 x14).f1) ((rd_T41 x12 x14).f2.f0) ((rd_T41 x12 x14).f2.f1) ((rd_T41 x12 x14).f3) ((rd_T41 x12 x14).f4)) else (if ((rd_T41 x12 x14).f2.f0) < 0 then (faults_Check.j1 k x0 x14 x12 x13 x14 true ((rd_T41 x12 x14).f0) ((rd_T41 x12 x14).f1) ((rd_T41 x12 x14).f2.f0) ((rd_T41 x12 x14).f2.f1) ((rd_T41 x12 x14).f3) ((rd_T41 x12 x14).f4)) else (if ((rd_T41 x12 x14).f2.f0) > ((rd_T41 x12 x14).f2.f1) then (faults_Check.j1 k x0 x14 x12 x13 x14 true ((rd_T41 x12 x14).f0) ((rd_T41 x12 x14).f1) ((rd_T41 x12 x14).f2.f0) ((rd_T41 x12 x14).f2.f1) ((rd_T41 x12 x14).f3) ((rd_T41 x12 x14).f4)) else (faults_Check.j1 k x0 x14 x12 x13 x14 (decide (((rd_T41 x12 x14).f2.f1) > x0)) ((rd_T41 x12 x14).f0) ((rd_T41 x12 x14).f1) ((rd_T41 x12 x14).f2.f0) ((rd_T41 x12 x14).f2.f1) ((rd_T41 x12 x14).f3) ((rd_T41 x12 x14).f4)))))))) else (none)) else (none)) else (some (0, 0))
def faults_Check.j1 : Nat → Int → Int → List (S41) → Int → Int → Bool → Int → Int → Int → Int → ByteArray → Int → Option (Int × Int)
 | 0, _, _, _, _, _, _, _, _, _, _, _, _ => none
 | k + 1, x0, x6, x12, x13, x14, x21, x133000, x133001, x133002, x133003, x133004, x133005 => if x21 = true then (some (x6, 7)) else (if (x133004.size : Int) > 60 then (some (x6, 3)) else ((faults_plain.f x133004).bind fun t134 => (if t134 = true then (if x133005 < (-1) then (some (x6, 4)) else (if x133005 ≥ x6 then (some (x6, 4)) else (faults_Check.l0 k x0 x12 x13 (wrap64 (x14 + 1))))) else (some (x6, 6)))))
end
def faults_Check.f (k : Nat) (a0 : Int) (l1 : List (S41)) : Option (Int × Int) := if (l1.length : Int) > 50 then (some (0, 3)) else (faults_Check.l0 k a0 l1 (l1.length : Int) 0)
set_option maxHeartbeats 8000000 in
set_option maxRecDepth 100000 in
theorem faults_Check.calls (k : Nat) (a0 : Int) (A1 : Option Addr) (c1 : Nat) (l1 : List (S41)) (r1 : Int) (r2 : Int) (w : World) (hr1 : Kd.C k41 w A1 l1.length l1) (hc1 : l1.length ≤ c1) (h : faults_Check.f k a0 l1 = some (r1, r2)) (HT : Aside0 (Ft.All w)) :
  Calls Tryz.prog 13 #[.int .i64 a0, .slice A1 l1.length c1] w fun e w' => e = .returned (.tuple #[.int .i64 r1, .int .i64 r2]) ∧ Below w.heap.size w w' := by
 have hu41 := Tryz.underlying41
 have hu39 := Tryz.underlying39
 have HR1 := ak hr1
 have HC1 := ak hc1
 clear hr1 hc1
 have HB := ak (Below.refl w.heap.size w)
 have H : (if (l1.length : Int) > 50 then (some (0, 3)) else (faults_Check.l0 k a0 l1 (l1.length : Int) 0)) = some (r1, r2) := h
 clear h
 by_cases c3 : (l1.length : Int) > 50
 ·rw [if_pos c3] at H
  have c3b0 : decide (50 < (l1.length : Int)) = true := decide_eq_true c3
  have c3b1 : decide (50 < l1.length) = true := decide_eq_true (by omega)
  clear c3
  simp only [Option.some.injEq, Prod.mk.injEq] at H
  obtain ⟨rfl, rfl⟩ := H
  go_enter Tryz.func13, Tryz.ntmps13
  go_wp2
  go_ret2
  exact ⟨by first | rfl | (simp [errW_none, errW_some] <;> rfl) | (simp [*, errW_none, errW_some] <;> rfl), by repeat (first | (with_reducible first | exact HB.out | apply wA | apply wN | apply wD) | exact HB.out)⟩
 ·rw [if_neg c3] at H
  have c3b0 : decide (50 < (l1.length : Int)) = false := decide_eq_false c3
  have c3b1 : decide (50 < l1.length) = false := decide_eq_false (by omega)
  clear c3
  have H' := ak H
  clear H
  go_enter Tryz.func13, Tryz.ntmps13
  go_wp2
  go_loopg [14] k (fun kq v14 w' => ∃ (x14_1 : Int), v14 = .int .i64 x14_1 ∧ Aside0 (faults_Check.l0 kq a0 l1 (l1.length : Int) x14_1 = some (r1, r2)) ∧ Aside0 (kq ≤ k) ∧ Aside0 (Below w.heap.size w w'))
  case atStart => exact ⟨(0), (by first | rfl | (simp; done) | (simp [*]; done)), H', ⟨Nat.le_refl _⟩, ⟨by repeat (first | (with_reducible first | exact HB.out | apply wA | apply wN | apply wD) | exact HB.out)⟩⟩
  case round =>
   clear H'
   try clear c1
   try clear p2
   try clear c3
   try clear c3b0
   try clear c3b1
   obtain ⟨x14_1, rfl, HA, HK1, HB⟩ := hrel
   cases gk with
   | zero => exact absurd HA.out (by simp [faults_Check.l0])
   | succ k1 =>
    have H := HA.out
    clear HA
    simp only [faults_Check.l0] at H
    by_cases c4 : x14_1 < (l1.length : Int)
    ·rw [if_pos c4] at H
     have c4b0 : decide (x14_1 < (l1.length : Int)) = true := decide_eq_true c4
     clear c4
     by_cases c5 : 0 ≤ x14_1
     ·rw [if_pos c5] at H
      have c5b0 : decide (0 ≤ x14_1) = true := decide_eq_true c5
      clear c5
      by_cases c6 : x14_1 < (l1.length : Int)
      ·rw [if_pos c6] at H
       have c6b0 : decide (x14_1 < (l1.length : Int)) = true := decide_eq_true c6
       clear c6
       have HC7 := ak H
       clear H
       have p131 : 0 ≤ (x14_1 : Int) := of_decide_eq_true (by first | (with_reducible assumption) | assumption)
       have q131 : x14_1 < (l1.length : Int) := of_decide_eq_true (by first | (with_reducible assumption) | assumption)
       obtain ⟨ad131, e131, hx131_0, hx131_1, hx131_2, hx131_3, hx131_4, hx131_5⟩ := at_T41 HR1.out x14_1 p131 q131
       cases e131
       replace hx131_0 := (HB.out.cell (World.block_lt_of_cell? w _ hx131_0)).trans hx131_0
       replace hx131_1 := (HB.out.cell (World.block_lt_of_cell? w _ hx131_1)).trans hx131_1
       replace hx131_2 := (HB.out.cell (World.block_lt_of_cell? w _ hx131_2)).trans hx131_2
       replace hx131_3 := (HB.out.cell (World.block_lt_of_cell? w _ hx131_3)).trans hx131_3
       replace hx131_4 := (HB.out.cell (World.block_lt_of_cell? w _ hx131_4)).trans hx131_4
       replace hx131_5 := (HB.out.cell (World.block_lt_of_cell? w _ hx131_5)).trans hx131_5
       replace p131 := eq_true p131
       replace q131 := eq_true q131
       go_upto_region 7 with (first | ((with_reducible refine gate_dst (N := 7) rfl ?_); refine box_event ?hg (N := 7) ?hd (cs := #[.int .i64 0, .int .i64 0, .int .i64 0, .int .i64 0, .string (⟨#[]⟩ : ByteArray), .int .i64 0]) (t := 41) ?hr ?_; (case hd => rfl); (case hg => rfl); (case hr => first | (go_simp; done) | (go_simp; rfl)); intro gb132 hg w8 hbox hb; have n0_ := ak (below_step (by repeat (first | (with_reducible first | exact HB.out | apply wA | apply wN | apply wD) | exact HB.out)) hb); have n1_ := ak (hbox); have n2_ := ak ((by rw [hg]; exact (below_size (by repeat (first | (with_reducible first | exact HB.out | apply wA | apply wN | apply wD) | exact HB.out))) : w.heap.size ≤ gb132)); have n3_ := ak ((by rw [hg]; exact (below_size (by repeat (first | (with_reducible first | exact HB.out | apply wA | apply wN | apply wD) | exact HB.out))) : w.heap.size ≤ gb132)); clear HB; have HB := n0_; have BK132 := n1_; have GW132 := n2_; have GE132 := n3_; clear n0_ n1_ n2_ n3_; clear hb hbox hg; have hcz9_0 : w8.cell? ⟨gb132, 0, none⟩ = some (.int .i64 0) := (blk_cell BK132.out 0).trans rfl; have hcz9_1 : w8.cell? ⟨gb132, 1, none⟩ = some (.int .i64 0) := (blk_cell BK132.out 1).trans rfl; have hcz9_2 : w8.cell? ⟨gb132, 2, none⟩ = some (.int .i64 0) := (blk_cell BK132.out 2).trans rfl; have hcz9_3 : w8.cell? ⟨gb132, 3, none⟩ = some (.int .i64 0) := (blk_cell BK132.out 3).trans rfl; have hcz9_4 : w8.cell? ⟨gb132, 4, none⟩ = some (.string (⟨#[]⟩ : ByteArray)) := (blk_cell BK132.out 4).trans rfl; have hcz9_5 : w8.cell? ⟨gb132, 5, none⟩ = some (.int .i64 0) := (blk_cell BK132.out 5).trans rfl; have hfz9_0 := blk_frozen BK132.out 0; have hfz9_1 := blk_frozen BK132.out 1; have hfz9_2 := blk_frozen BK132.out 2; have hfz9_3 := blk_frozen BK132.out 3; have hfz9_4 := blk_frozen BK132.out 4; have hfz9_5 := blk_frozen BK132.out 5) | ((with_reducible refine gate_dst (N := 8) rfl ?_); refine box_event ?hg (N := 8) ?hd (cs := #[.int .i64 0, .int .i64 0]) (t := 39) ?hr ?_; (case hd => rfl); (case hg => rfl); (case hr => first | (go_simp; done) | (go_simp; rfl)); intro gb133 hg w10 hbox hb; have n0_ := ak (blk_below (g := gb132) (o := .cells #[.int .i64 ((rd_T41 l1 x14_1).f0), .int .i64 ((rd_T41 l1 x14_1).f1), .int .i64 ((rd_T41 l1 x14_1).f2.f0), .int .i64 ((rd_T41 l1 x14_1).f2.f1), .string ((rd_T41 l1 x14_1).f3), .int .i64 ((rd_T41 l1 x14_1).f4)] 41 (0, 0)) (by (with_reducible repeat (first | refine bN ?_ _ | refine bD ?_ | refine bA ?_ _)); refine blk_put (cs := #[.int .i64 ((rd_T41 l1 x14_1).f0), .int .i64 ((rd_T41 l1 x14_1).f1), .int .i64 ((rd_T41 l1 x14_1).f2.f0), .int .i64 ((rd_T41 l1 x14_1).f2.f1), .string ((rd_T41 l1 x14_1).f3), .int .i64 0]) ?_ 5 _ rfl; (with_reducible repeat (first | refine bN ?_ _ | refine bD ?_ | refine bA ?_ _)); refine blk_put (cs := #[.int .i64 ((rd_T41 l1 x14_1).f0), .int .i64 ((rd_T41 l1 x14_1).f1), .int .i64 ((rd_T41 l1 x14_1).f2.f0), .int .i64 ((rd_T41 l1 x14_1).f2.f1), .string (⟨#[]⟩ : ByteArray), .int .i64 0]) ?_ 4 _ rfl; (with_reducible repeat (first | refine bN ?_ _ | refine bD ?_ | refine bA ?_ _)); refine blk_put (cs := #[.int .i64 ((rd_T41 l1 x14_1).f0), .int .i64 ((rd_T41 l1 x14_1).f1), .int .i64 ((rd_T41 l1 x14_1).f2.f0), .int .i64 0, .string (⟨#[]⟩ : ByteArray), .int .i64 0]) ?_ 3 _ rfl; (with_reducible repeat (first | refine bN ?_ _ | refine bD ?_ | refine bA ?_ _)); refine blk_put (cs := #[.int .i64 ((rd_T41 l1 x14_1).f0), .int .i64 ((rd_T41 l1 x14_1).f1), .int .i64 0, .int .i64 0, .string (⟨#[]⟩ : ByteArray), .int .i64 0]) ?_ 2 _ rfl; (with_reducible repeat (first | refine bN ?_ _ | refine bD ?_ | refine bA ?_ _)); refine blk_put (cs := #[.int .i64 ((rd_T41 l1 x14_1).f0), .int .i64 0, .int .i64 0, .int .i64 0, .string (⟨#[]⟩ : ByteArray), .int .i64 0]) ?_ 1 _ rfl; (with_reducible repeat (first | refine bN ?_ _ | refine bD ?_ | refine bA ?_ _)); refine blk_put (cs := #[.int .i64 0, .int .i64 0, .int .i64 0, .int .i64 0, .string (⟨#[]⟩ : ByteArray), .int .i64 0]) ?_ 0 _ rfl; (with_reducible repeat (first | refine bN ?_ _ | refine bD ?_ | refine bA ?_ _)); exact BK132.out) hb); have n1_ := ak (below_step (by repeat (first | (with_reducible first | exact HB.out | apply wA | apply wN | apply wD | refine below_set ?_ GE132.out) | exact HB.out)) hb); have n2_ := ak (hbox); have n3_ := ak ((by rw [hg]; exact (below_size (by repeat (first | (with_reducible first | exact HB.out | apply wA | apply wN | apply wD | refine below_set ?_ GE132.out) | exact HB.out))) : w.heap.size ≤ gb133)); have n4_ := ak ((by rw [hg]; exact (below_size (by repeat (first | (with_reducible first | exact HB.out | apply wA | apply wN | apply wD | refine below_set ?_ GE132.out) | exact HB.out))) : w.heap.size ≤ gb133)); have n5_ := ak ((by rw [hg]; exact Nat.ne_of_lt (blk_lt (g := gb132) (o := .cells #[.int .i64 ((rd_T41 l1 x14_1).f0), .int .i64 ((rd_T41 l1 x14_1).f1), .int .i64 ((rd_T41 l1 x14_1).f2.f0), .int .i64 ((rd_T41 l1 x14_1).f2.f1), .string ((rd_T41 l1 x14_1).f3), .int .i64 ((rd_T41 l1 x14_1).f4)] 41 (0, 0)) (by (with_reducible repeat (first | refine bN ?_ _ | refine bD ?_ | refine bA ?_ _)); refine blk_put (cs := #[.int .i64 ((rd_T41 l1 x14_1).f0), .int .i64 ((rd_T41 l1 x14_1).f1), .int .i64 ((rd_T41 l1 x14_1).f2.f0), .int .i64 ((rd_T41 l1 x14_1).f2.f1), .string ((rd_T41 l1 x14_1).f3), .int .i64 0]) ?_ 5 _ rfl; (with_reducible repeat (first | refine bN ?_ _ | refine bD ?_ | refine bA ?_ _)); refine blk_put (cs := #[.int .i64 ((rd_T41 l1 x14_1).f0), .int .i64 ((rd_T41 l1 x14_1).f1), .int .i64 ((rd_T41 l1 x14_1).f2.f0), .int .i64 ((rd_T41 l1 x14_1).f2.f1), .string (⟨#[]⟩ : ByteArray), .int .i64 0]) ?_ 4 _ rfl; (with_reducible repeat (first | refine bN ?_ _ | refine bD ?_ | refine bA ?_ _)); refine blk_put (cs := #[.int .i64 ((rd_T41 l1 x14_1).f0), .int .i64 ((rd_T41 l1 x14_1).f1), .int .i64 ((rd_T41 l1 x14_1).f2.f0), .int .i64 0, .string (⟨#[]⟩ : ByteArray), .int .i64 0]) ?_ 3 _ rfl; (with_reducible repeat (first | refine bN ?_ _ | refine bD ?_ | refine bA ?_ _)); refine blk_put (cs := #[.int .i64 ((rd_T41 l1 x14_1).f0), .int .i64 ((rd_T41 l1 x14_1).f1), .int .i64 0, .int .i64 0, .string (⟨#[]⟩ : ByteArray), .int .i64 0]) ?_ 2 _ rfl; (with_reducible repeat (first | refine bN ?_ _ | refine bD ?_ | refine bA ?_ _)); refine blk_put (cs := #[.int .i64 ((rd_T41 l1 x14_1).f0), .int .i64 0, .int .i64 0, .int .i64 0, .string (⟨#[]⟩ : ByteArray), .int .i64 0]) ?_ 1 _ rfl; (with_reducible repeat (first | refine bN ?_ _ | refine bD ?_ | refine bA ?_ _)); refine blk_put (cs := #[.int .i64 0, .int .i64 0, .int .i64 0, .int .i64 0, .string (⟨#[]⟩ : ByteArray), .int .i64 0]) ?_ 0 _ rfl; (with_reducible repeat (first | refine bN ?_ _ | refine bD ?_ | refine bA ?_ _)); exact BK132.out)) : gb132 ≠ gb133)); have n6_ := ak ((by rw [hg]; exact Nat.ne_of_gt (blk_lt (g := gb132) (o := .cells #[.int .i64 ((rd_T41 l1 x14_1).f0), .int .i64 ((rd_T41 l1 x14_1).f1), .int .i64 ((rd_T41 l1 x14_1).f2.f0), .int .i64 ((rd_T41 l1 x14_1).f2.f1), .string ((rd_T41 l1 x14_1).f3), .int .i64 ((rd_T41 l1 x14_1).f4)] 41 (0, 0)) (by (with_reducible repeat (first | refine bN ?_ _ | refine bD ?_ | refine bA ?_ _)); refine blk_put (cs := #[.int .i64 ((rd_T41 l1 x14_1).f0), .int .i64 ((rd_T41 l1 x14_1).f1), .int .i64 ((rd_T41 l1 x14_1).f2.f0), .int .i64 ((rd_T41 l1 x14_1).f2.f1), .string ((rd_T41 l1 x14_1).f3), .int .i64 0]) ?_ 5 _ rfl; (with_reducible repeat (first | refine bN ?_ _ | refine bD ?_ | refine bA ?_ _)); refine blk_put (cs := #[.int .i64 ((rd_T41 l1 x14_1).f0), .int .i64 ((rd_T41 l1 x14_1).f1), .int .i64 ((rd_T41 l1 x14_1).f2.f0), .int .i64 ((rd_T41 l1 x14_1).f2.f1), .string (⟨#[]⟩ : ByteArray), .int .i64 0]) ?_ 4 _ rfl; (with_reducible repeat (first | refine bN ?_ _ | refine bD ?_ | refine bA ?_ _)); refine blk_put (cs := #[.int .i64 ((rd_T41 l1 x14_1).f0), .int .i64 ((rd_T41 l1 x14_1).f1), .int .i64 ((rd_T41 l1 x14_1).f2.f0), .int .i64 0, .string (⟨#[]⟩ : ByteArray), .int .i64 0]) ?_ 3 _ rfl; (with_reducible repeat (first | refine bN ?_ _ | refine bD ?_ | refine bA ?_ _)); refine blk_put (cs := #[.int .i64 ((rd_T41 l1 x14_1).f0), .int .i64 ((rd_T41 l1 x14_1).f1), .int .i64 0, .int .i64 0, .string (⟨#[]⟩ : ByteArray), .int .i64 0]) ?_ 2 _ rfl; (with_reducible repeat (first | refine bN ?_ _ | refine bD ?_ | refine bA ?_ _)); refine blk_put (cs := #[.int .i64 ((rd_T41 l1 x14_1).f0), .int .i64 0, .int .i64 0, .int .i64 0, .string (⟨#[]⟩ : ByteArray), .int .i64 0]) ?_ 1 _ rfl; (with_reducible repeat (first | refine bN ?_ _ | refine bD ?_ | refine bA ?_ _)); refine blk_put (cs := #[.int .i64 0, .int .i64 0, .int .i64 0, .int .i64 0, .string (⟨#[]⟩ : ByteArray), .int .i64 0]) ?_ 0 _ rfl; (with_reducible repeat (first | refine bN ?_ _ | refine bD ?_ | refine bA ?_ _)); exact BK132.out)) : gb133 ≠ gb132)); clear BK132; clear HB; have BK132 := n0_; have HB := n1_; have BK133 := n2_; have GW133 := n3_; have GE133 := n4_; have NB132_133 := n5_; have NB133_132 := n6_; clear n0_ n1_ n2_ n3_ n4_ n5_ n6_; clear hb hbox hg; have hnb11 := NB133_132.out; have hnc11 := NB132_133.out; have hcz12_0 : w10.cell? ⟨gb133, 0, none⟩ = some (.int .i64 0) := (blk_cell BK133.out 0).trans rfl; have hcz12_1 : w10.cell? ⟨gb133, 1, none⟩ = some (.int .i64 0) := (blk_cell BK133.out 1).trans rfl; have hfz12_0 := blk_frozen BK133.out 0; have hfz12_1 := blk_frozen BK133.out 1))
       (try simp only [Act.put, List.setIfInBounds_toArray, List.set_cons_zero, List.set_cons_succ])
       go_cut [21] (fun v21 wc => ∃ (kq : Nat) (x21_6 : Bool), v21 = .bool x21_6 ∧ Aside0 (faults_Check.j1 kq a0 x14_1 l1 (l1.length : Int) x14_1 x21_6 ((rd_T41 l1 x14_1).f0) ((rd_T41 l1 x14_1).f1) ((rd_T41 l1 x14_1).f2.f0) ((rd_T41 l1 x14_1).f2.f1) ((rd_T41 l1 x14_1).f3) ((rd_T41 l1 x14_1).f4) = some (r1, r2)) ∧ Aside0 (kq ≤ k1) ∧ Aside0 (wc.heap[gb132]? = some (.cells #[.int .i64 ((rd_T41 l1 x14_1).f0), .int .i64 ((rd_T41 l1 x14_1).f1), .int .i64 ((rd_T41 l1 x14_1).f2.f0), .int .i64 ((rd_T41 l1 x14_1).f2.f1), .string ((rd_T41 l1 x14_1).f3), .int .i64 ((rd_T41 l1 x14_1).f4)] 41 (0, 0))) ∧ Aside0 (wc.heap[gb133]? = some (.cells #[.int .i64 ((rd_T41 l1 x14_1).f2.f0), .int .i64 ((rd_T41 l1 x14_1).f2.f1)] 39 (0, 0))) ∧ Aside0 (Below w.heap.size w wc))
       case first =>
        have H := HC7.out
        clear HC7
        by_cases c13 : ((rd_T41 l1 x14_1).f0) < 1
        ·rw [if_pos c13] at H
         have c13b0 : decide (((rd_T41 l1 x14_1).f0) < 1) = true := decide_eq_true c13
         clear c13
         (first | rw [c13b0] | (simp only [i64_w, i32_w]; rw [c13b0]) | skip)
         have H' := ak H
         clear H
         have hnb14 := NB132_133.out
         have hnc14 := NB133_132.out
         have hcz15_0 : w10.cell? ⟨gb132, 0, none⟩ = some (.int .i64 ((rd_T41 l1 x14_1).f0)) := (blk_cell BK132.out 0).trans rfl
         have hcz15_1 : w10.cell? ⟨gb132, 1, none⟩ = some (.int .i64 ((rd_T41 l1 x14_1).f1)) := (blk_cell BK132.out 1).trans rfl
         have hcz15_2 : w10.cell? ⟨gb132, 2, none⟩ = some (.int .i64 ((rd_T41 l1 x14_1).f2.f0)) := (blk_cell BK132.out 2).trans rfl
         have hcz15_3 : w10.cell? ⟨gb132, 3, none⟩ = some (.int .i64 ((rd_T41 l1 x14_1).f2.f1)) := (blk_cell BK132.out 3).trans rfl
         have hcz15_4 : w10.cell? ⟨gb132, 4, none⟩ = some (.string ((rd_T41 l1 x14_1).f3)) := (blk_cell BK132.out 4).trans rfl
         have hcz15_5 : w10.cell? ⟨gb132, 5, none⟩ = some (.int .i64 ((rd_T41 l1 x14_1).f4)) := (blk_cell BK132.out 5).trans rfl
         have hfz15_0 := blk_frozen BK132.out 0
         have hfz15_1 := blk_frozen BK132.out 1
         have hfz15_2 := blk_frozen BK132.out 2
         have hfz15_3 := blk_frozen BK132.out 3
         have hfz15_4 := blk_frozen BK132.out 4
         have hfz15_5 := blk_frozen BK132.out 5
         go_wp2
         go_meet
         case rel => exact ⟨_, (true), (by first | rfl | (simp; done) | (simp [*]; done)), H', ⟨by have := HK1.out; first | omega | exact Nat.le_refl _⟩, ⟨by (with_reducible repeat (first | refine bN ?_ _ | refine bD ?_ | refine bA ?_ _)); refine blk_far ?_ NB132_133.out _; (with_reducible repeat (first | refine bN ?_ _ | refine bD ?_ | refine bA ?_ _)); refine blk_far ?_ NB132_133.out _; (with_reducible repeat (first | refine bN ?_ _ | refine bD ?_ | refine bA ?_ _)); exact BK132.out⟩, ⟨by (with_reducible repeat (first | refine bN ?_ _ | refine bD ?_ | refine bA ?_ _)); refine blk_put (cs := #[.int .i64 ((rd_T41 l1 x14_1).f2.f0), .int .i64 0]) ?_ 1 _ rfl; (with_reducible repeat (first | refine bN ?_ _ | refine bD ?_ | refine bA ?_ _)); refine blk_put (cs := #[.int .i64 0, .int .i64 0]) ?_ 0 _ rfl; (with_reducible repeat (first | refine bN ?_ _ | refine bD ?_ | refine bA ?_ _)); exact BK133.out⟩, ⟨by repeat (first | (with_reducible first | exact HB.out | apply wA | apply wN | apply wD | refine below_set ?_ GE132.out | refine below_set ?_ GE133.out) | exact HB.out)⟩⟩
        ·rw [if_neg c13] at H
         have c13b0 : decide (((rd_T41 l1 x14_1).f0) < 1) = false := decide_eq_false c13
         clear c13
         (first | rw [c13b0] | (simp only [i64_w, i32_w]; rw [c13b0]) | skip)
         by_cases c16 : ((rd_T41 l1 x14_1).f0) > 999
         ·rw [if_pos c16] at H
          have c16b0 : decide (999 < ((rd_T41 l1 x14_1).f0)) = true := decide_eq_true c16
          clear c16
          have H' := ak H
          clear H
          have hnb17 := NB132_133.out
          have hnc17 := NB133_132.out
          have hcz18_0 : w10.cell? ⟨gb132, 0, none⟩ = some (.int .i64 ((rd_T41 l1 x14_1).f0)) := (blk_cell BK132.out 0).trans rfl
          have hcz18_1 : w10.cell? ⟨gb132, 1, none⟩ = some (.int .i64 ((rd_T41 l1 x14_1).f1)) := (blk_cell BK132.out 1).trans rfl
          have hcz18_2 : w10.cell? ⟨gb132, 2, none⟩ = some (.int .i64 ((rd_T41 l1 x14_1).f2.f0)) := (blk_cell BK132.out 2).trans rfl
          have hcz18_3 : w10.cell? ⟨gb132, 3, none⟩ = some (.int .i64 ((rd_T41 l1 x14_1).f2.f1)) := (blk_cell BK132.out 3).trans rfl
          have hcz18_4 : w10.cell? ⟨gb132, 4, none⟩ = some (.string ((rd_T41 l1 x14_1).f3)) := (blk_cell BK132.out 4).trans rfl
          have hcz18_5 : w10.cell? ⟨gb132, 5, none⟩ = some (.int .i64 ((rd_T41 l1 x14_1).f4)) := (blk_cell BK132.out 5).trans rfl
          have hfz18_0 := blk_frozen BK132.out 0
          have hfz18_1 := blk_frozen BK132.out 1
          have hfz18_2 := blk_frozen BK132.out 2
          have hfz18_3 := blk_frozen BK132.out 3
          have hfz18_4 := blk_frozen BK132.out 4
          have hfz18_5 := blk_frozen BK132.out 5
          go_wp2
          go_meet
          case rel => exact ⟨_, (true), (by first | rfl | (simp; done) | (simp [*]; done)), H', ⟨by have := HK1.out; first | omega | exact Nat.le_refl _⟩, ⟨by (with_reducible repeat (first | refine bN ?_ _ | refine bD ?_ | refine bA ?_ _)); refine blk_far ?_ NB132_133.out _; (with_reducible repeat (first | refine bN ?_ _ | refine bD ?_ | refine bA ?_ _)); refine blk_far ?_ NB132_133.out _; (with_reducible repeat (first | refine bN ?_ _ | refine bD ?_ | refine bA ?_ _)); exact BK132.out⟩, ⟨by (with_reducible repeat (first | refine bN ?_ _ | refine bD ?_ | refine bA ?_ _)); refine blk_put (cs := #[.int .i64 ((rd_T41 l1 x14_1).f2.f0), .int .i64 0]) ?_ 1 _ rfl; (with_reducible repeat (first | refine bN ?_ _ | refine bD ?_ | refine bA ?_ _)); refine blk_put (cs := #[.int .i64 0, .int .i64 0]) ?_ 0 _ rfl; (with_reducible repeat (first | refine bN ?_ _ | refine bD ?_ | refine bA ?_ _)); exact BK133.out⟩, ⟨by repeat (first | (with_reducible first | exact HB.out | apply wA | apply wN | apply wD | refine below_set ?_ GE132.out | refine below_set ?_ GE133.out) | exact HB.out)⟩⟩
         ·rw [if_neg c16] at H
          have c16b0 : decide (999 < ((rd_T41 l1 x14_1).f0)) = false := decide_eq_false c16
          clear c16
          by_cases c19 : ((rd_T41 l1 x14_1).f1) < 1
          ·rw [if_pos c19] at H
           have c19b0 : decide (((rd_T41 l1 x14_1).f1) < 1) = true := decide_eq_true c19
           clear c19
           have H' := ak H
           clear H
           have hnb20 := NB132_133.out
           have hnc20 := NB133_132.out
           have hcz21_0 : w10.cell? ⟨gb132, 0, none⟩ = some (.int .i64 ((rd_T41 l1 x14_1).f0)) := (blk_cell BK132.out 0).trans rfl
           have hcz21_1 : w10.cell? ⟨gb132, 1, none⟩ = some (.int .i64 ((rd_T41 l1 x14_1).f1)) := (blk_cell BK132.out 1).trans rfl
           have hcz21_2 : w10.cell? ⟨gb132, 2, none⟩ = some (.int .i64 ((rd_T41 l1 x14_1).f2.f0)) := (blk_cell BK132.out 2).trans rfl
           have hcz21_3 : w10.cell? ⟨gb132, 3, none⟩ = some (.int .i64 ((rd_T41 l1 x14_1).f2.f1)) := (blk_cell BK132.out 3).trans rfl
           have hcz21_4 : w10.cell? ⟨gb132, 4, none⟩ = some (.string ((rd_T41 l1 x14_1).f3)) := (blk_cell BK132.out 4).trans rfl
           have hcz21_5 : w10.cell? ⟨gb132, 5, none⟩ = some (.int .i64 ((rd_T41 l1 x14_1).f4)) := (blk_cell BK132.out 5).trans rfl
           have hfz21_0 := blk_frozen BK132.out 0
           have hfz21_1 := blk_frozen BK132.out 1
           have hfz21_2 := blk_frozen BK132.out 2
           have hfz21_3 := blk_frozen BK132.out 3
           have hfz21_4 := blk_frozen BK132.out 4
           have hfz21_5 := blk_frozen BK132.out 5
           go_wp2
           go_meet
           case rel => exact ⟨_, (true), (by first | rfl | (simp; done) | (simp [*]; done)), H', ⟨by have := HK1.out; first | omega | exact Nat.le_refl _⟩, ⟨by (with_reducible repeat (first | refine bN ?_ _ | refine bD ?_ | refine bA ?_ _)); refine blk_far ?_ NB132_133.out _; (with_reducible repeat (first | refine bN ?_ _ | refine bD ?_ | refine bA ?_ _)); refine blk_far ?_ NB132_133.out _; (with_reducible repeat (first | refine bN ?_ _ | refine bD ?_ | refine bA ?_ _)); exact BK132.out⟩, ⟨by (with_reducible repeat (first | refine bN ?_ _ | refine bD ?_ | refine bA ?_ _)); refine blk_put (cs := #[.int .i64 ((rd_T41 l1 x14_1).f2.f0), .int .i64 0]) ?_ 1 _ rfl; (with_reducible repeat (first | refine bN ?_ _ | refine bD ?_ | refine bA ?_ _)); refine blk_put (cs := #[.int .i64 0, .int .i64 0]) ?_ 0 _ rfl; (with_reducible repeat (first | refine bN ?_ _ | refine bD ?_ | refine bA ?_ _)); exact BK133.out⟩, ⟨by repeat (first | (with_reducible first | exact HB.out | apply wA | apply wN | apply wD | refine below_set ?_ GE132.out | refine below_set ?_ GE133.out) | exact HB.out)⟩⟩
          ·rw [if_neg c19] at H
           have c19b0 : decide (((rd_T41 l1 x14_1).f1) < 1) = false := decide_eq_false c19
           clear c19
           by_cases c22 : ((rd_T41 l1 x14_1).f1) > 8
           ·rw [if_pos c22] at H
            have c22b0 : decide (8 < ((rd_T41 l1 x14_1).f1)) = true := decide_eq_true c22
            clear c22
            have H' := ak H
            clear H
            have hnb23 := NB132_133.out
            have hnc23 := NB133_132.out
            have hcz24_0 : w10.cell? ⟨gb132, 0, none⟩ = some (.int .i64 ((rd_T41 l1 x14_1).f0)) := (blk_cell BK132.out 0).trans rfl
            have hcz24_1 : w10.cell? ⟨gb132, 1, none⟩ = some (.int .i64 ((rd_T41 l1 x14_1).f1)) := (blk_cell BK132.out 1).trans rfl
            have hcz24_2 : w10.cell? ⟨gb132, 2, none⟩ = some (.int .i64 ((rd_T41 l1 x14_1).f2.f0)) := (blk_cell BK132.out 2).trans rfl
            have hcz24_3 : w10.cell? ⟨gb132, 3, none⟩ = some (.int .i64 ((rd_T41 l1 x14_1).f2.f1)) := (blk_cell BK132.out 3).trans rfl
            have hcz24_4 : w10.cell? ⟨gb132, 4, none⟩ = some (.string ((rd_T41 l1 x14_1).f3)) := (blk_cell BK132.out 4).trans rfl
            have hcz24_5 : w10.cell? ⟨gb132, 5, none⟩ = some (.int .i64 ((rd_T41 l1 x14_1).f4)) := (blk_cell BK132.out 5).trans rfl
            have hfz24_0 := blk_frozen BK132.out 0
            have hfz24_1 := blk_frozen BK132.out 1
            have hfz24_2 := blk_frozen BK132.out 2
            have hfz24_3 := blk_frozen BK132.out 3
            have hfz24_4 := blk_frozen BK132.out 4
            have hfz24_5 := blk_frozen BK132.out 5
            go_wp2
            go_meet
            case rel => exact ⟨_, (true), (by first | rfl | (simp; done) | (simp [*]; done)), H', ⟨by have := HK1.out; first | omega | exact Nat.le_refl _⟩, ⟨by (with_reducible repeat (first | refine bN ?_ _ | refine bD ?_ | refine bA ?_ _)); refine blk_far ?_ NB132_133.out _; (with_reducible repeat (first | refine bN ?_ _ | refine bD ?_ | refine bA ?_ _)); refine blk_far ?_ NB132_133.out _; (with_reducible repeat (first | refine bN ?_ _ | refine bD ?_ | refine bA ?_ _)); exact BK132.out⟩, ⟨by (with_reducible repeat (first | refine bN ?_ _ | refine bD ?_ | refine bA ?_ _)); refine blk_put (cs := #[.int .i64 ((rd_T41 l1 x14_1).f2.f0), .int .i64 0]) ?_ 1 _ rfl; (with_reducible repeat (first | refine bN ?_ _ | refine bD ?_ | refine bA ?_ _)); refine blk_put (cs := #[.int .i64 0, .int .i64 0]) ?_ 0 _ rfl; (with_reducible repeat (first | refine bN ?_ _ | refine bD ?_ | refine bA ?_ _)); exact BK133.out⟩, ⟨by repeat (first | (with_reducible first | exact HB.out | apply wA | apply wN | apply wD | refine below_set ?_ GE132.out | refine below_set ?_ GE133.out) | exact HB.out)⟩⟩
           ·rw [if_neg c22] at H
            have c22b0 : decide (8 < ((rd_T41 l1 x14_1).f1)) = false := decide_eq_false c22
            clear c22
            by_cases c25 : ((rd_T41 l1 x14_1).f2.f0) < 0
            ·rw [if_pos c25] at H
             have c25b0 : decide (((rd_T41 l1 x14_1).f2.f0) < 0) = true := decide_eq_true c25
             clear c25
             have H' := ak H
             clear H
             have hnb26 := NB132_133.out
             have hnc26 := NB133_132.out
             have hcz27_0 : w10.cell? ⟨gb132, 0, none⟩ = some (.int .i64 ((rd_T41 l1 x14_1).f0)) := (blk_cell BK132.out 0).trans rfl
             have hcz27_1 : w10.cell? ⟨gb132, 1, none⟩ = some (.int .i64 ((rd_T41 l1 x14_1).f1)) := (blk_cell BK132.out 1).trans rfl
             have hcz27_2 : w10.cell? ⟨gb132, 2, none⟩ = some (.int .i64 ((rd_T41 l1 x14_1).f2.f0)) := (blk_cell BK132.out 2).trans rfl
             have hcz27_3 : w10.cell? ⟨gb132, 3, none⟩ = some (.int .i64 ((rd_T41 l1 x14_1).f2.f1)) := (blk_cell BK132.out 3).trans rfl
             have hcz27_4 : w10.cell? ⟨gb132, 4, none⟩ = some (.string ((rd_T41 l1 x14_1).f3)) := (blk_cell BK132.out 4).trans rfl
             have hcz27_5 : w10.cell? ⟨gb132, 5, none⟩ = some (.int .i64 ((rd_T41 l1 x14_1).f4)) := (blk_cell BK132.out 5).trans rfl
             have hfz27_0 := blk_frozen BK132.out 0
             have hfz27_1 := blk_frozen BK132.out 1
             have hfz27_2 := blk_frozen BK132.out 2
             have hfz27_3 := blk_frozen BK132.out 3
             have hfz27_4 := blk_frozen BK132.out 4
             have hfz27_5 := blk_frozen BK132.out 5
             have hcz28_0 : w10.cell? ⟨gb133, 0, none⟩ = some (.int .i64 0) := (blk_cell BK133.out 0).trans rfl
             have hcz28_1 : w10.cell? ⟨gb133, 1, none⟩ = some (.int .i64 0) := (blk_cell BK133.out 1).trans rfl
             have hfz28_0 := blk_frozen BK133.out 0
             have hfz28_1 := blk_frozen BK133.out 1
             go_wp2
             go_meet
             case rel => exact ⟨_, (true), (by first | rfl | (simp; done) | (simp [*]; done)), H', ⟨by have := HK1.out; first | omega | exact Nat.le_refl _⟩, ⟨by (with_reducible repeat (first | refine bN ?_ _ | refine bD ?_ | refine bA ?_ _)); refine blk_far ?_ NB132_133.out _; (with_reducible repeat (first | refine bN ?_ _ | refine bD ?_ | refine bA ?_ _)); refine blk_far ?_ NB132_133.out _; (with_reducible repeat (first | refine bN ?_ _ | refine bD ?_ | refine bA ?_ _)); exact BK132.out⟩, ⟨by (with_reducible repeat (first | refine bN ?_ _ | refine bD ?_ | refine bA ?_ _)); refine blk_put (cs := #[.int .i64 ((rd_T41 l1 x14_1).f2.f0), .int .i64 0]) ?_ 1 _ rfl; (with_reducible repeat (first | refine bN ?_ _ | refine bD ?_ | refine bA ?_ _)); refine blk_put (cs := #[.int .i64 0, .int .i64 0]) ?_ 0 _ rfl; (with_reducible repeat (first | refine bN ?_ _ | refine bD ?_ | refine bA ?_ _)); exact BK133.out⟩, ⟨by repeat (first | (with_reducible first | exact HB.out | apply wA | apply wN | apply wD | refine below_set ?_ GE132.out | refine below_set ?_ GE133.out) | exact HB.out)⟩⟩
            ·rw [if_neg c25] at H
             have c25b0 : decide (((rd_T41 l1 x14_1).f2.f0) < 0) = false := decide_eq_false c25
             clear c25
             by_cases c29 : ((rd_T41 l1 x14_1).f2.f0) > ((rd_T41 l1 x14_1).f2.f1)
             ·rw [if_pos c29] at H
              have c29b0 : decide (((rd_T41 l1 x14_1).f2.f1) < ((rd_T41 l1 x14_1).f2.f0)) = true := decide_eq_true c29
              clear c29
              have H' := ak H
              clear H
              have hnb30 := NB132_133.out
              have hnc30 := NB133_132.out
              have hcz31_0 : w10.cell? ⟨gb132, 0, none⟩ = some (.int .i64 ((rd_T41 l1 x14_1).f0)) := (blk_cell BK132.out 0).trans rfl
              have hcz31_1 : w10.cell? ⟨gb132, 1, none⟩ = some (.int .i64 ((rd_T41 l1 x14_1).f1)) := (blk_cell BK132.out 1).trans rfl
              have hcz31_2 : w10.cell? ⟨gb132, 2, none⟩ = some (.int .i64 ((rd_T41 l1 x14_1).f2.f0)) := (blk_cell BK132.out 2).trans rfl
              have hcz31_3 : w10.cell? ⟨gb132, 3, none⟩ = some (.int .i64 ((rd_T41 l1 x14_1).f2.f1)) := (blk_cell BK132.out 3).trans rfl
              have hcz31_4 : w10.cell? ⟨gb132, 4, none⟩ = some (.string ((rd_T41 l1 x14_1).f3)) := (blk_cell BK132.out 4).trans rfl
              have hcz31_5 : w10.cell? ⟨gb132, 5, none⟩ = some (.int .i64 ((rd_T41 l1 x14_1).f4)) := (blk_cell BK132.out 5).trans rfl
              have hfz31_0 := blk_frozen BK132.out 0
              have hfz31_1 := blk_frozen BK132.out 1
              have hfz31_2 := blk_frozen BK132.out 2
              have hfz31_3 := blk_frozen BK132.out 3
              have hfz31_4 := blk_frozen BK132.out 4
              have hfz31_5 := blk_frozen BK132.out 5
              have hcz32_0 : w10.cell? ⟨gb133, 0, none⟩ = some (.int .i64 0) := (blk_cell BK133.out 0).trans rfl
              have hcz32_1 : w10.cell? ⟨gb133, 1, none⟩ = some (.int .i64 0) := (blk_cell BK133.out 1).trans rfl
              have hfz32_0 := blk_frozen BK133.out 0
              have hfz32_1 := blk_frozen BK133.out 1
              go_wp2
              go_meet
              case rel => exact ⟨_, (true), (by first | rfl | (simp; done) | (simp [*]; done)), H', ⟨by have := HK1.out; first | omega | exact Nat.le_refl _⟩, ⟨by (with_reducible repeat (first | refine bN ?_ _ | refine bD ?_ | refine bA ?_ _)); refine blk_far ?_ NB132_133.out _; (with_reducible repeat (first | refine bN ?_ _ | refine bD ?_ | refine bA ?_ _)); refine blk_far ?_ NB132_133.out _; (with_reducible repeat (first | refine bN ?_ _ | refine bD ?_ | refine bA ?_ _)); exact BK132.out⟩, ⟨by (with_reducible repeat (first | refine bN ?_ _ | refine bD ?_ | refine bA ?_ _)); refine blk_put (cs := #[.int .i64 ((rd_T41 l1 x14_1).f2.f0), .int .i64 0]) ?_ 1 _ rfl; (with_reducible repeat (first | refine bN ?_ _ | refine bD ?_ | refine bA ?_ _)); refine blk_put (cs := #[.int .i64 0, .int .i64 0]) ?_ 0 _ rfl; (with_reducible repeat (first | refine bN ?_ _ | refine bD ?_ | refine bA ?_ _)); exact BK133.out⟩, ⟨by repeat (first | (with_reducible first | exact HB.out | apply wA | apply wN | apply wD | refine below_set ?_ GE132.out | refine below_set ?_ GE133.out) | exact HB.out)⟩⟩
             ·rw [if_neg c29] at H
              have c29b0 : decide (((rd_T41 l1 x14_1).f2.f1) < ((rd_T41 l1 x14_1).f2.f0)) = false := decide_eq_false c29
              clear c29
              have H' := ak H
              clear H
              have hnb33 := NB132_133.out
              have hnc33 := NB133_132.out
              have hcz34_0 : w10.cell? ⟨gb132, 0, none⟩ = some (.int .i64 ((rd_T41 l1 x14_1).f0)) := (blk_cell BK132.out 0).trans rfl
              have hcz34_1 : w10.cell? ⟨gb132, 1, none⟩ = some (.int .i64 ((rd_T41 l1 x14_1).f1)) := (blk_cell BK132.out 1).trans rfl
              have hcz34_2 : w10.cell? ⟨gb132, 2, none⟩ = some (.int .i64 ((rd_T41 l1 x14_1).f2.f0)) := (blk_cell BK132.out 2).trans rfl
              have hcz34_3 : w10.cell? ⟨gb132, 3, none⟩ = some (.int .i64 ((rd_T41 l1 x14_1).f2.f1)) := (blk_cell BK132.out 3).trans rfl
              have hcz34_4 : w10.cell? ⟨gb132, 4, none⟩ = some (.string ((rd_T41 l1 x14_1).f3)) := (blk_cell BK132.out 4).trans rfl
              have hcz34_5 : w10.cell? ⟨gb132, 5, none⟩ = some (.int .i64 ((rd_T41 l1 x14_1).f4)) := (blk_cell BK132.out 5).trans rfl
              have hfz34_0 := blk_frozen BK132.out 0
              have hfz34_1 := blk_frozen BK132.out 1
              have hfz34_2 := blk_frozen BK132.out 2
              have hfz34_3 := blk_frozen BK132.out 3
              have hfz34_4 := blk_frozen BK132.out 4
              have hfz34_5 := blk_frozen BK132.out 5
              have hcz35_0 : w10.cell? ⟨gb133, 0, none⟩ = some (.int .i64 0) := (blk_cell BK133.out 0).trans rfl
              have hcz35_1 : w10.cell? ⟨gb133, 1, none⟩ = some (.int .i64 0) := (blk_cell BK133.out 1).trans rfl
              have hfz35_0 := blk_frozen BK133.out 0
              have hfz35_1 := blk_frozen BK133.out 1
              go_wp2
              go_meet
              case rel => exact ⟨_, (decide (((rd_T41 l1 x14_1).f2.f1) > a0)), (by first | rfl | (simp; done) | (simp [*]; done)), H', ⟨by have := HK1.out; first | omega | exact Nat.le_refl _⟩, ⟨by (with_reducible repeat (first | refine bN ?_ _ | refine bD ?_ | refine bA ?_ _)); refine blk_far ?_ NB132_133.out _; (with_reducible repeat (first | refine bN ?_ _ | refine bD ?_ | refine bA ?_ _)); refine blk_far ?_ NB132_133.out _; (with_reducible repeat (first | refine bN ?_ _ | refine bD ?_ | refine bA ?_ _)); exact BK132.out⟩, ⟨by (with_reducible repeat (first | refine bN ?_ _ | refine bD ?_ | refine bA ?_ _)); refine blk_put (cs := #[.int .i64 ((rd_T41 l1 x14_1).f2.f0), .int .i64 0]) ?_ 1 _ rfl; (with_reducible repeat (first | refine bN ?_ _ | refine bD ?_ | refine bA ?_ _)); refine blk_put (cs := #[.int .i64 0, .int .i64 0]) ?_ 0 _ rfl; (with_reducible repeat (first | refine bN ?_ _ | refine bD ?_ | refine bA ?_ _)); exact BK133.out⟩, ⟨by repeat (first | (with_reducible first | exact HB.out | apply wA | apply wN | apply wD | refine below_set ?_ GE132.out | refine below_set ?_ GE133.out) | exact HB.out)⟩⟩
       case rest =>
        clear HC7
        try clear c1
        try clear p1
        try clear q1
        try clear hx1
        try clear c2
        try clear p2
        try clear c3
        try clear c3b0
        try clear c3b1
        try clear c4
        try clear c4b0
        try clear c5
        try clear c5b0
        try clear c6
        try clear c6b0
        try clear c11
        try clear c13
        try clear c13b0
        try clear p13
        try clear q13
        try clear hx13
        try clear c14
        try clear c16
        try clear c16b0
        try clear c17
        try clear c19
        try clear c19b0
        try clear c20
        try clear c22
        try clear c22b0
        try clear c23
        try clear c25
        try clear c25b0
        try clear c26
        try clear c29
        try clear c29b0
        try clear c30
        try clear c33
        try clear hcz12_0
        try clear hcz12_1
        try clear hcz15_0
        try clear hcz15_1
        try clear hcz15_2
        try clear hcz15_3
        try clear hcz15_4
        try clear hcz15_5
        try clear hcz18_0
        try clear hcz18_1
        try clear hcz18_2
        try clear hcz18_3
        try clear hcz18_4
        try clear hcz18_5
        try clear hcz21_0
        try clear hcz21_1
        try clear hcz21_2
        try clear hcz21_3
        try clear hcz21_4
        try clear hcz21_5
        try clear hcz24_0
        try clear hcz24_1
        try clear hcz24_2
        try clear hcz24_3
        try clear hcz24_4
        try clear hcz24_5
        try clear hcz27_0
        try clear hcz27_1
        try clear hcz27_2
        try clear hcz27_3
        try clear hcz27_4
        try clear hcz27_5
        try clear hcz28_0
        try clear hcz28_1
        try clear hcz31_0
        try clear hcz31_1
        try clear hcz31_2
        try clear hcz31_3
        try clear hcz31_4
        try clear hcz31_5
        try clear hcz32_0
        try clear hcz32_1
        try clear hcz34_0
        try clear hcz34_1
        try clear hcz34_2
        try clear hcz34_3
        try clear hcz34_4
        try clear hcz34_5
        try clear hcz35_0
        try clear hcz35_1
        try clear hcz9_0
        try clear hcz9_1
        try clear hcz9_2
        try clear hcz9_3
        try clear hcz9_4
        try clear hcz9_5
        try clear hfz12_0
        try clear hfz12_1
        try clear hfz15_0
        try clear hfz15_1
        try clear hfz15_2
        try clear hfz15_3
        try clear hfz15_4
        try clear hfz15_5
        try clear hfz18_0
        try clear hfz18_1
        try clear hfz18_2
        try clear hfz18_3
        try clear hfz18_4
        try clear hfz18_5
        try clear hfz21_0
        try clear hfz21_1
        try clear hfz21_2
        try clear hfz21_3
        try clear hfz21_4
        try clear hfz21_5
        try clear hfz24_0
        try clear hfz24_1
        try clear hfz24_2
        try clear hfz24_3
        try clear hfz24_4
        try clear hfz24_5
        try clear hfz27_0
        try clear hfz27_1
        try clear hfz27_2
        try clear hfz27_3
        try clear hfz27_4
        try clear hfz27_5
        try clear hfz28_0
        try clear hfz28_1
        try clear hfz31_0
        try clear hfz31_1
        try clear hfz31_2
        try clear hfz31_3
        try clear hfz31_4
        try clear hfz31_5
        try clear hfz32_0
        try clear hfz32_1
        try clear hfz34_0
        try clear hfz34_1
        try clear hfz34_2
        try clear hfz34_3
        try clear hfz34_4
        try clear hfz34_5
        try clear hfz35_0
        try clear hfz35_1
        try clear hfz9_0
        try clear hfz9_1
        try clear hfz9_2
        try clear hfz9_3
        try clear hfz9_4
        try clear hfz9_5
        try clear hx131_0
        try clear hx131_1
        try clear hx131_2
        try clear hx131_3
        try clear hx131_4
        try clear hx131_5
        try clear p131
        try clear p2
        try clear q131
        obtain ⟨kq, x21_6, rfl, HA, HJ6, BK132, BK133, HB⟩ := hcut
        cases kq with
        | zero => exact absurd HA.out (by simp [faults_Check.j1])
        | succ kj6 =>
         have H := HA.out
         clear HA
         simp only [faults_Check.j1] at H
         by_cases c36 : x21_6 = true
         ·subst c36
          have H1 : (some (x14_1, 7)) = some (r1, r2) := by rw [if_pos rfl] at H; exact H
          clear H
          have H := H1
          clear H1
          simp only [Option.some.injEq, Prod.mk.injEq] at H
          obtain ⟨rfl, rfl⟩ := H
          go_wp2
          go_ret2
          exact ⟨by first | rfl | (simp [errW_none, errW_some] <;> rfl) | (simp [*, errW_none, errW_some] <;> rfl), by repeat (first | (with_reducible first | exact HB.out | apply wA | apply wN | apply wD | refine below_set ?_ GE132.out | refine below_set ?_ GE133.out) | exact HB.out)⟩
         ·replace c36 := Bool.eq_false_iff.mpr c36
          subst c36
          have H1 : (if (((rd_T41 l1 x14_1).f3).size : Int) > 60 then (some (x14_1, 3)) else ((faults_plain.f ((rd_T41 l1 x14_1).f3)).bind fun t134 => (if t134 = true then (if ((rd_T41 l1 x14_1).f4) < (-1) then (some (x14_1, 4)) else (if ((rd_T41 l1 x14_1).f4) ≥ x14_1 then (some (x14_1, 4)) else (faults_Check.l0 kj6 a0 l1 (l1.length : Int) (wrap64 (x14_1 + 1))))) else (some (x14_1, 6))))) = some (r1, r2) := by rw [if_neg (show ¬ (false = true) by decide)] at H; exact H
          clear H
          have H := H1
          clear H1
          by_cases c37 : (((rd_T41 l1 x14_1).f3).size : Int) > 60
          ·rw [if_pos c37] at H
           have c37b0 : decide (60 < (((rd_T41 l1 x14_1).f3).size : Int)) = true := decide_eq_true c37
           have c37b1 : decide (60 < ((rd_T41 l1 x14_1).f3).size) = true := decide_eq_true (by omega)
           clear c37
           simp only [Option.some.injEq, Prod.mk.injEq] at H
           obtain ⟨rfl, rfl⟩ := H
           have hnb38 := NB132_133.out
           have hnc38 := NB133_132.out
           have hcz39_0 : wc.cell? ⟨gb132, 0, none⟩ = some (.int .i64 ((rd_T41 l1 x14_1).f0)) := (blk_cell BK132.out 0).trans rfl
           have hcz39_1 : wc.cell? ⟨gb132, 1, none⟩ = some (.int .i64 ((rd_T41 l1 x14_1).f1)) := (blk_cell BK132.out 1).trans rfl
           have hcz39_2 : wc.cell? ⟨gb132, 2, none⟩ = some (.int .i64 ((rd_T41 l1 x14_1).f2.f0)) := (blk_cell BK132.out 2).trans rfl
           have hcz39_3 : wc.cell? ⟨gb132, 3, none⟩ = some (.int .i64 ((rd_T41 l1 x14_1).f2.f1)) := (blk_cell BK132.out 3).trans rfl
           have hcz39_4 : wc.cell? ⟨gb132, 4, none⟩ = some (.string ((rd_T41 l1 x14_1).f3)) := (blk_cell BK132.out 4).trans rfl
           have hcz39_5 : wc.cell? ⟨gb132, 5, none⟩ = some (.int .i64 ((rd_T41 l1 x14_1).f4)) := (blk_cell BK132.out 5).trans rfl
           have hfz39_0 := blk_frozen BK132.out 0
           have hfz39_1 := blk_frozen BK132.out 1
           have hfz39_2 := blk_frozen BK132.out 2
           have hfz39_3 := blk_frozen BK132.out 3
           have hfz39_4 := blk_frozen BK132.out 4
           have hfz39_5 := blk_frozen BK132.out 5
           go_wp2
           go_ret2
           exact ⟨by first | rfl | (simp [errW_none, errW_some] <;> rfl) | (simp [*, errW_none, errW_some] <;> rfl), by repeat (first | (with_reducible first | exact HB.out | apply wA | apply wN | apply wD | refine below_set ?_ GE132.out | refine below_set ?_ GE133.out) | exact HB.out)⟩
          ·rw [if_neg c37] at H
           have c37b0 : decide (60 < (((rd_T41 l1 x14_1).f3).size : Int)) = false := decide_eq_false c37
           have c37b1 : decide (60 < ((rd_T41 l1 x14_1).f3).size) = false := decide_eq_false (by omega)
           clear c37
           replace H := Option.bind_eq_some_iff.mp H
           obtain ⟨t134, A400, H⟩ := H
           try dsimp only at H
           have A40 := ak A400
           clear A400
           by_cases c41 : t134 = true
           ·subst c41
            have H1 : (if ((rd_T41 l1 x14_1).f4) < (-1) then (some (x14_1, 4)) else (if ((rd_T41 l1 x14_1).f4) ≥ x14_1 then (some (x14_1, 4)) else (faults_Check.l0 kj6 a0 l1 (l1.length : Int) (wrap64 (x14_1 + 1))))) = some (r1, r2) := by rw [if_pos rfl] at H; exact H
            clear H
            have H := H1
            clear H1
            by_cases c42 : ((rd_T41 l1 x14_1).f4) < (-1)
            ·rw [if_pos c42] at H
             have c42b0 : decide (((rd_T41 l1 x14_1).f4) < (-1)) = true := decide_eq_true c42
             clear c42
             simp only [Option.some.injEq, Prod.mk.injEq] at H
             obtain ⟨rfl, rfl⟩ := H
             have hnb43 := NB132_133.out
             have hnc43 := NB133_132.out
             have hcz44_0 : wc.cell? ⟨gb132, 0, none⟩ = some (.int .i64 ((rd_T41 l1 x14_1).f0)) := (blk_cell BK132.out 0).trans rfl
             have hcz44_1 : wc.cell? ⟨gb132, 1, none⟩ = some (.int .i64 ((rd_T41 l1 x14_1).f1)) := (blk_cell BK132.out 1).trans rfl
             have hcz44_2 : wc.cell? ⟨gb132, 2, none⟩ = some (.int .i64 ((rd_T41 l1 x14_1).f2.f0)) := (blk_cell BK132.out 2).trans rfl
             have hcz44_3 : wc.cell? ⟨gb132, 3, none⟩ = some (.int .i64 ((rd_T41 l1 x14_1).f2.f1)) := (blk_cell BK132.out 3).trans rfl
             have hcz44_4 : wc.cell? ⟨gb132, 4, none⟩ = some (.string ((rd_T41 l1 x14_1).f3)) := (blk_cell BK132.out 4).trans rfl
             have hcz44_5 : wc.cell? ⟨gb132, 5, none⟩ = some (.int .i64 ((rd_T41 l1 x14_1).f4)) := (blk_cell BK132.out 5).trans rfl
             have hfz44_0 := blk_frozen BK132.out 0
             have hfz44_1 := blk_frozen BK132.out 1
             have hfz44_2 := blk_frozen BK132.out 2
             have hfz44_3 := blk_frozen BK132.out 3
             have hfz44_4 := blk_frozen BK132.out 4
             have hfz44_5 := blk_frozen BK132.out 5
             go_wp2_with (first | ((with_reducible refine gate_callee (f := 43) rfl ?_); refine goesL_ (some 68) rfl rfl Tryz.func43 (by kernel_rfl) rfl #[.string ((rd_T41 l1 x14_1).f3)] rfl (by (try simp only [List.map_toArray, List.map_cons, List.map_nil]); first | done | rfl | (simp only [List.length_drop, List.length_take]; rfl)) ?_; (with_reducible refine (faults_plain.calls ((rd_T41 l1 x14_1).f3) true _ A40.out ⟨Ft.All.stay HT.out (by repeat (first | (with_reducible first | exact HB.out | apply wA | apply wN | apply wD) | exact HB.out | (refine below_set ?_ (by assumption)) | (refine below_set ?_ (Aside0.out (by assumption)))))⟩).mono ?_); rintro e w45 ⟨rfl, hb⟩; refine ⟨_, rfl, ?_⟩; have n0_ := ak (blk_below (g := gb132) (o := .cells #[.int .i64 ((rd_T41 l1 x14_1).f0), .int .i64 ((rd_T41 l1 x14_1).f1), .int .i64 ((rd_T41 l1 x14_1).f2.f0), .int .i64 ((rd_T41 l1 x14_1).f2.f1), .string ((rd_T41 l1 x14_1).f3), .int .i64 ((rd_T41 l1 x14_1).f4)] 41 (0, 0)) (by (with_reducible repeat (first | refine bN ?_ _ | refine bD ?_ | refine bA ?_ _)); exact BK132.out) hb); have n1_ := ak (blk_below (g := gb133) (o := .cells #[.int .i64 ((rd_T41 l1 x14_1).f2.f0), .int .i64 ((rd_T41 l1 x14_1).f2.f1)] 39 (0, 0)) (by (with_reducible repeat (first | refine bN ?_ _ | refine bD ?_ | refine bA ?_ _)); exact BK133.out) hb); have n2_ := ak (below_step (by repeat (first | (with_reducible first | exact HB.out | apply wA | apply wN | apply wD | refine below_set ?_ GE132.out | refine below_set ?_ GE133.out) | exact HB.out)) hb); clear BK132; clear BK133; clear HB; have BK132 := n0_; have BK133 := n1_; have HB := n2_; clear n0_ n1_ n2_; (try clear hb); (try clear hb2); (try clear hk); (try clear hi); have hcz46_0 : w45.cell? ⟨gb132, 0, none⟩ = some (.int .i64 ((rd_T41 l1 x14_1).f0)) := (blk_cell BK132.out 0).trans rfl; have hcz46_1 : w45.cell? ⟨gb132, 1, none⟩ = some (.int .i64 ((rd_T41 l1 x14_1).f1)) := (blk_cell BK132.out 1).trans rfl; have hcz46_2 : w45.cell? ⟨gb132, 2, none⟩ = some (.int .i64 ((rd_T41 l1 x14_1).f2.f0)) := (blk_cell BK132.out 2).trans rfl; have hcz46_3 : w45.cell? ⟨gb132, 3, none⟩ = some (.int .i64 ((rd_T41 l1 x14_1).f2.f1)) := (blk_cell BK132.out 3).trans rfl; have hcz46_4 : w45.cell? ⟨gb132, 4, none⟩ = some (.string ((rd_T41 l1 x14_1).f3)) := (blk_cell BK132.out 4).trans rfl; have hcz46_5 : w45.cell? ⟨gb132, 5, none⟩ = some (.int .i64 ((rd_T41 l1 x14_1).f4)) := (blk_cell BK132.out 5).trans rfl; have hfz46_0 := blk_frozen BK132.out 0; have hfz46_1 := blk_frozen BK132.out 1; have hfz46_2 := blk_frozen BK132.out 2; have hfz46_3 := blk_frozen BK132.out 3; have hfz46_4 := blk_frozen BK132.out 4; have hfz46_5 := blk_frozen BK132.out 5))
             go_ret2
             exact ⟨by first | rfl | (simp [errW_none, errW_some] <;> rfl) | (simp [*, errW_none, errW_some] <;> rfl), by repeat (first | (with_reducible first | exact HB.out | apply wA | apply wN | apply wD | refine below_set ?_ GE132.out | refine below_set ?_ GE133.out) | exact HB.out)⟩
            ·rw [if_neg c42] at H
             have c42b0 : decide (((rd_T41 l1 x14_1).f4) < (-1)) = false := decide_eq_false c42
             clear c42
             by_cases c47 : ((rd_T41 l1 x14_1).f4) ≥ x14_1
             ·rw [if_pos c47] at H
              have c47b0 : decide (x14_1 ≤ ((rd_T41 l1 x14_1).f4)) = true := decide_eq_true c47
              clear c47
              simp only [Option.some.injEq, Prod.mk.injEq] at H
              obtain ⟨rfl, rfl⟩ := H
              have hnb48 := NB132_133.out
              have hnc48 := NB133_132.out
              have hcz49_0 : wc.cell? ⟨gb132, 0, none⟩ = some (.int .i64 ((rd_T41 l1 x14_1).f0)) := (blk_cell BK132.out 0).trans rfl
              have hcz49_1 : wc.cell? ⟨gb132, 1, none⟩ = some (.int .i64 ((rd_T41 l1 x14_1).f1)) := (blk_cell BK132.out 1).trans rfl
              have hcz49_2 : wc.cell? ⟨gb132, 2, none⟩ = some (.int .i64 ((rd_T41 l1 x14_1).f2.f0)) := (blk_cell BK132.out 2).trans rfl
              have hcz49_3 : wc.cell? ⟨gb132, 3, none⟩ = some (.int .i64 ((rd_T41 l1 x14_1).f2.f1)) := (blk_cell BK132.out 3).trans rfl
              have hcz49_4 : wc.cell? ⟨gb132, 4, none⟩ = some (.string ((rd_T41 l1 x14_1).f3)) := (blk_cell BK132.out 4).trans rfl
              have hcz49_5 : wc.cell? ⟨gb132, 5, none⟩ = some (.int .i64 ((rd_T41 l1 x14_1).f4)) := (blk_cell BK132.out 5).trans rfl
              have hfz49_0 := blk_frozen BK132.out 0
              have hfz49_1 := blk_frozen BK132.out 1
              have hfz49_2 := blk_frozen BK132.out 2
              have hfz49_3 := blk_frozen BK132.out 3
              have hfz49_4 := blk_frozen BK132.out 4
              have hfz49_5 := blk_frozen BK132.out 5
              go_wp2_with (first | ((with_reducible refine gate_callee (f := 43) rfl ?_); refine goesL_ (some 68) rfl rfl Tryz.func43 (by kernel_rfl) rfl #[.string ((rd_T41 l1 x14_1).f3)] rfl (by (try simp only [List.map_toArray, List.map_cons, List.map_nil]); first | done | rfl | (simp only [List.length_drop, List.length_take]; rfl)) ?_; (with_reducible refine (faults_plain.calls ((rd_T41 l1 x14_1).f3) true _ A40.out ⟨Ft.All.stay HT.out (by repeat (first | (with_reducible first | exact HB.out | apply wA | apply wN | apply wD) | exact HB.out | (refine below_set ?_ (by assumption)) | (refine below_set ?_ (Aside0.out (by assumption)))))⟩).mono ?_); rintro e w50 ⟨rfl, hb⟩; refine ⟨_, rfl, ?_⟩; have n0_ := ak (blk_below (g := gb132) (o := .cells #[.int .i64 ((rd_T41 l1 x14_1).f0), .int .i64 ((rd_T41 l1 x14_1).f1), .int .i64 ((rd_T41 l1 x14_1).f2.f0), .int .i64 ((rd_T41 l1 x14_1).f2.f1), .string ((rd_T41 l1 x14_1).f3), .int .i64 ((rd_T41 l1 x14_1).f4)] 41 (0, 0)) (by (with_reducible repeat (first | refine bN ?_ _ | refine bD ?_ | refine bA ?_ _)); exact BK132.out) hb); have n1_ := ak (blk_below (g := gb133) (o := .cells #[.int .i64 ((rd_T41 l1 x14_1).f2.f0), .int .i64 ((rd_T41 l1 x14_1).f2.f1)] 39 (0, 0)) (by (with_reducible repeat (first | refine bN ?_ _ | refine bD ?_ | refine bA ?_ _)); exact BK133.out) hb); have n2_ := ak (below_step (by repeat (first | (with_reducible first | exact HB.out | apply wA | apply wN | apply wD | refine below_set ?_ GE132.out | refine below_set ?_ GE133.out) | exact HB.out)) hb); clear BK132; clear BK133; clear HB; have BK132 := n0_; have BK133 := n1_; have HB := n2_; clear n0_ n1_ n2_; (try clear hb); (try clear hb2); (try clear hk); (try clear hi); have hcz51_0 : w50.cell? ⟨gb132, 0, none⟩ = some (.int .i64 ((rd_T41 l1 x14_1).f0)) := (blk_cell BK132.out 0).trans rfl; have hcz51_1 : w50.cell? ⟨gb132, 1, none⟩ = some (.int .i64 ((rd_T41 l1 x14_1).f1)) := (blk_cell BK132.out 1).trans rfl; have hcz51_2 : w50.cell? ⟨gb132, 2, none⟩ = some (.int .i64 ((rd_T41 l1 x14_1).f2.f0)) := (blk_cell BK132.out 2).trans rfl; have hcz51_3 : w50.cell? ⟨gb132, 3, none⟩ = some (.int .i64 ((rd_T41 l1 x14_1).f2.f1)) := (blk_cell BK132.out 3).trans rfl; have hcz51_4 : w50.cell? ⟨gb132, 4, none⟩ = some (.string ((rd_T41 l1 x14_1).f3)) := (blk_cell BK132.out 4).trans rfl; have hcz51_5 : w50.cell? ⟨gb132, 5, none⟩ = some (.int .i64 ((rd_T41 l1 x14_1).f4)) := (blk_cell BK132.out 5).trans rfl; have hfz51_0 := blk_frozen BK132.out 0; have hfz51_1 := blk_frozen BK132.out 1; have hfz51_2 := blk_frozen BK132.out 2; have hfz51_3 := blk_frozen BK132.out 3; have hfz51_4 := blk_frozen BK132.out 4; have hfz51_5 := blk_frozen BK132.out 5))
              go_ret2
              exact ⟨by first | rfl | (simp [errW_none, errW_some] <;> rfl) | (simp [*, errW_none, errW_some] <;> rfl), by repeat (first | (with_reducible first | exact HB.out | apply wA | apply wN | apply wD | refine below_set ?_ GE132.out | refine below_set ?_ GE133.out) | exact HB.out)⟩
             ·rw [if_neg c47] at H
              have c47b0 : decide (x14_1 ≤ ((rd_T41 l1 x14_1).f4)) = false := decide_eq_false c47
              clear c47
              have H' := ak H
              clear H
              have hnb52 := NB132_133.out
              have hnc52 := NB133_132.out
              have hcz53_0 : wc.cell? ⟨gb132, 0, none⟩ = some (.int .i64 ((rd_T41 l1 x14_1).f0)) := (blk_cell BK132.out 0).trans rfl
              have hcz53_1 : wc.cell? ⟨gb132, 1, none⟩ = some (.int .i64 ((rd_T41 l1 x14_1).f1)) := (blk_cell BK132.out 1).trans rfl
              have hcz53_2 : wc.cell? ⟨gb132, 2, none⟩ = some (.int .i64 ((rd_T41 l1 x14_1).f2.f0)) := (blk_cell BK132.out 2).trans rfl
              have hcz53_3 : wc.cell? ⟨gb132, 3, none⟩ = some (.int .i64 ((rd_T41 l1 x14_1).f2.f1)) := (blk_cell BK132.out 3).trans rfl
              have hcz53_4 : wc.cell? ⟨gb132, 4, none⟩ = some (.string ((rd_T41 l1 x14_1).f3)) := (blk_cell BK132.out 4).trans rfl
              have hcz53_5 : wc.cell? ⟨gb132, 5, none⟩ = some (.int .i64 ((rd_T41 l1 x14_1).f4)) := (blk_cell BK132.out 5).trans rfl
              have hfz53_0 := blk_frozen BK132.out 0
              have hfz53_1 := blk_frozen BK132.out 1
              have hfz53_2 := blk_frozen BK132.out 2
              have hfz53_3 := blk_frozen BK132.out 3
              have hfz53_4 := blk_frozen BK132.out 4
              have hfz53_5 := blk_frozen BK132.out 5
              go_wp2_with (first | ((with_reducible refine gate_callee (f := 43) rfl ?_); refine goesL_ (some 68) rfl rfl Tryz.func43 (by kernel_rfl) rfl #[.string ((rd_T41 l1 x14_1).f3)] rfl (by (try simp only [List.map_toArray, List.map_cons, List.map_nil]); first | done | rfl | (simp only [List.length_drop, List.length_take]; rfl)) ?_; (with_reducible refine (faults_plain.calls ((rd_T41 l1 x14_1).f3) true _ A40.out ⟨Ft.All.stay HT.out (by repeat (first | (with_reducible first | exact HB.out | apply wA | apply wN | apply wD) | exact HB.out | (refine below_set ?_ (by assumption)) | (refine below_set ?_ (Aside0.out (by assumption)))))⟩).mono ?_); rintro e w54 ⟨rfl, hb⟩; refine ⟨_, rfl, ?_⟩; have n0_ := ak (blk_below (g := gb132) (o := .cells #[.int .i64 ((rd_T41 l1 x14_1).f0), .int .i64 ((rd_T41 l1 x14_1).f1), .int .i64 ((rd_T41 l1 x14_1).f2.f0), .int .i64 ((rd_T41 l1 x14_1).f2.f1), .string ((rd_T41 l1 x14_1).f3), .int .i64 ((rd_T41 l1 x14_1).f4)] 41 (0, 0)) (by (with_reducible repeat (first | refine bN ?_ _ | refine bD ?_ | refine bA ?_ _)); exact BK132.out) hb); have n1_ := ak (blk_below (g := gb133) (o := .cells #[.int .i64 ((rd_T41 l1 x14_1).f2.f0), .int .i64 ((rd_T41 l1 x14_1).f2.f1)] 39 (0, 0)) (by (with_reducible repeat (first | refine bN ?_ _ | refine bD ?_ | refine bA ?_ _)); exact BK133.out) hb); have n2_ := ak (below_step (by repeat (first | (with_reducible first | exact HB.out | apply wA | apply wN | apply wD | refine below_set ?_ GE132.out | refine below_set ?_ GE133.out) | exact HB.out)) hb); clear BK132; clear BK133; clear HB; have BK132 := n0_; have BK133 := n1_; have HB := n2_; clear n0_ n1_ n2_; (try clear hb); (try clear hb2); (try clear hk); (try clear hi); have hcz55_0 : w54.cell? ⟨gb132, 0, none⟩ = some (.int .i64 ((rd_T41 l1 x14_1).f0)) := (blk_cell BK132.out 0).trans rfl; have hcz55_1 : w54.cell? ⟨gb132, 1, none⟩ = some (.int .i64 ((rd_T41 l1 x14_1).f1)) := (blk_cell BK132.out 1).trans rfl; have hcz55_2 : w54.cell? ⟨gb132, 2, none⟩ = some (.int .i64 ((rd_T41 l1 x14_1).f2.f0)) := (blk_cell BK132.out 2).trans rfl; have hcz55_3 : w54.cell? ⟨gb132, 3, none⟩ = some (.int .i64 ((rd_T41 l1 x14_1).f2.f1)) := (blk_cell BK132.out 3).trans rfl; have hcz55_4 : w54.cell? ⟨gb132, 4, none⟩ = some (.string ((rd_T41 l1 x14_1).f3)) := (blk_cell BK132.out 4).trans rfl; have hcz55_5 : w54.cell? ⟨gb132, 5, none⟩ = some (.int .i64 ((rd_T41 l1 x14_1).f4)) := (blk_cell BK132.out 5).trans rfl; have hfz55_0 := blk_frozen BK132.out 0; have hfz55_1 := blk_frozen BK132.out 1; have hfz55_2 := blk_frozen BK132.out 2; have hfz55_3 := blk_frozen BK132.out 3; have hfz55_4 := blk_frozen BK132.out 4; have hfz55_5 := blk_frozen BK132.out 5))
              go_roundg kj6
              case measure => have := HK1.out; have := HJ6.out; omega
              case rel => exact ⟨(wrap64 (x14_1 + 1)), (by first | rfl | (simp; done) | (simp [*]; done)), H', ⟨by have := HK1.out; have := HJ6.out; omega⟩, ⟨by repeat (first | (with_reducible first | exact HB.out | apply wA | apply wN | apply wD | refine below_set ?_ GE132.out | refine below_set ?_ GE133.out) | exact HB.out)⟩⟩
           ·replace c41 := Bool.eq_false_iff.mpr c41
            subst c41
            have H1 : (some (x14_1, 6)) = some (r1, r2) := by rw [if_neg (show ¬ (false = true) by decide)] at H; exact H
            clear H
            have H := H1
            clear H1
            simp only [Option.some.injEq, Prod.mk.injEq] at H
            obtain ⟨rfl, rfl⟩ := H
            have hnb56 := NB132_133.out
            have hnc56 := NB133_132.out
            have hcz57_0 : wc.cell? ⟨gb132, 0, none⟩ = some (.int .i64 ((rd_T41 l1 x14_1).f0)) := (blk_cell BK132.out 0).trans rfl
            have hcz57_1 : wc.cell? ⟨gb132, 1, none⟩ = some (.int .i64 ((rd_T41 l1 x14_1).f1)) := (blk_cell BK132.out 1).trans rfl
            have hcz57_2 : wc.cell? ⟨gb132, 2, none⟩ = some (.int .i64 ((rd_T41 l1 x14_1).f2.f0)) := (blk_cell BK132.out 2).trans rfl
            have hcz57_3 : wc.cell? ⟨gb132, 3, none⟩ = some (.int .i64 ((rd_T41 l1 x14_1).f2.f1)) := (blk_cell BK132.out 3).trans rfl
            have hcz57_4 : wc.cell? ⟨gb132, 4, none⟩ = some (.string ((rd_T41 l1 x14_1).f3)) := (blk_cell BK132.out 4).trans rfl
            have hcz57_5 : wc.cell? ⟨gb132, 5, none⟩ = some (.int .i64 ((rd_T41 l1 x14_1).f4)) := (blk_cell BK132.out 5).trans rfl
            have hfz57_0 := blk_frozen BK132.out 0
            have hfz57_1 := blk_frozen BK132.out 1
            have hfz57_2 := blk_frozen BK132.out 2
            have hfz57_3 := blk_frozen BK132.out 3
            have hfz57_4 := blk_frozen BK132.out 4
            have hfz57_5 := blk_frozen BK132.out 5
            go_wp2_with (first | ((with_reducible refine gate_callee (f := 43) rfl ?_); refine goesL_ (some 68) rfl rfl Tryz.func43 (by kernel_rfl) rfl #[.string ((rd_T41 l1 x14_1).f3)] rfl (by (try simp only [List.map_toArray, List.map_cons, List.map_nil]); first | done | rfl | (simp only [List.length_drop, List.length_take]; rfl)) ?_; (with_reducible refine (faults_plain.calls ((rd_T41 l1 x14_1).f3) false _ A40.out ⟨Ft.All.stay HT.out (by repeat (first | (with_reducible first | exact HB.out | apply wA | apply wN | apply wD) | exact HB.out | (refine below_set ?_ (by assumption)) | (refine below_set ?_ (Aside0.out (by assumption)))))⟩).mono ?_); rintro e w58 ⟨rfl, hb⟩; refine ⟨_, rfl, ?_⟩; have n0_ := ak (blk_below (g := gb132) (o := .cells #[.int .i64 ((rd_T41 l1 x14_1).f0), .int .i64 ((rd_T41 l1 x14_1).f1), .int .i64 ((rd_T41 l1 x14_1).f2.f0), .int .i64 ((rd_T41 l1 x14_1).f2.f1), .string ((rd_T41 l1 x14_1).f3), .int .i64 ((rd_T41 l1 x14_1).f4)] 41 (0, 0)) (by (with_reducible repeat (first | refine bN ?_ _ | refine bD ?_ | refine bA ?_ _)); exact BK132.out) hb); have n1_ := ak (blk_below (g := gb133) (o := .cells #[.int .i64 ((rd_T41 l1 x14_1).f2.f0), .int .i64 ((rd_T41 l1 x14_1).f2.f1)] 39 (0, 0)) (by (with_reducible repeat (first | refine bN ?_ _ | refine bD ?_ | refine bA ?_ _)); exact BK133.out) hb); have n2_ := ak (below_step (by repeat (first | (with_reducible first | exact HB.out | apply wA | apply wN | apply wD | refine below_set ?_ GE132.out | refine below_set ?_ GE133.out) | exact HB.out)) hb); clear BK132; clear BK133; clear HB; have BK132 := n0_; have BK133 := n1_; have HB := n2_; clear n0_ n1_ n2_; (try clear hb); (try clear hb2); (try clear hk); (try clear hi)))
            go_ret2
            exact ⟨by first | rfl | (simp [errW_none, errW_some] <;> rfl) | (simp [*, errW_none, errW_some] <;> rfl), by repeat (first | (with_reducible first | exact HB.out | apply wA | apply wN | apply wD | refine below_set ?_ GE132.out | refine below_set ?_ GE133.out) | exact HB.out)⟩
      ·rw [if_neg c6] at H
       exact absurd H (by simp)
     ·rw [if_neg c5] at H
      exact absurd H (by simp)
    ·rw [if_neg c4] at H
     have c4b0 : decide (x14_1 < (l1.length : Int)) = false := decide_eq_false c4
     clear c4
     simp only [Option.some.injEq, Prod.mk.injEq] at H
     obtain ⟨rfl, rfl⟩ := H
     go_wp2
     go_ret2
     exact ⟨by first | rfl | (simp [errW_none, errW_some] <;> rfl) | (simp [*, errW_none, errW_some] <;> rfl), by repeat (first | (with_reducible first | exact HB.out | apply wA | apply wN | apply wD) | exact HB.out)⟩
end Go.Proofs.YtdjkdlbokepoaaaGreatDoor.P
namespace Go.Proofs.YtdjkdlbokepoaaaGreatDoor.P
open Go.RowKit YtdjkdlbokepoaaaGreatDoorW.PrintWords YtdjkdlbokepoaaaGreatDoorW.PrintLast YtdjkdlbokepoaaaGreatDoorW.PrintMore
attribute [local go_sem] max2_int min2_int max_two min_two max_three min_three max_four min_four
set_option linter.unusedVariables false
set_option linter.unusedSimpArgs false
def faults_known.f (k : Nat) (l0 : List (S41)) (a1 : Int) : Option (Int) := (faults_Check.f k 8000 l0).bind fun bt153 => (if bt153.2 = 0 then (if a1 < 0 then (some 4) else (if a1 ≥ (l0.length : Int) then (some 4) else (some bt153.2))) else (some bt153.2))
set_option maxHeartbeats 8000000 in
set_option maxRecDepth 100000 in
theorem faults_known.calls (k : Nat) (A0 : Option Addr) (c0 : Nat) (l0 : List (S41)) (a1 : Int) (r : Int) (w : World) (hr0 : Kd.C k41 w A0 l0.length l0) (hc0 : l0.length ≤ c0) (h : faults_known.f k l0 a1 = some r) (HT : Aside0 (Ft.All w)) :
  Calls Tryz.prog 61 #[.slice A0 l0.length c0, .int .i64 a1] w fun e w' => e = .returned (.int .i64 r) ∧ Below w.heap.size w w' := by
 have HR0 := ak hr0
 have HC0 := ak hc0
 clear hr0 hc0
 have HB := ak (Below.refl w.heap.size w)
 have H : ((faults_Check.f k 8000 l0).bind fun bt153 => (if bt153.2 = 0 then (if a1 < 0 then (some 4) else (if a1 ≥ (l0.length : Int) then (some 4) else (some bt153.2))) else (some bt153.2))) = some r := h
 clear h
 replace H := Option.bind_eq_some_iff.mp H
 obtain ⟨⟨t153, t154⟩, A30, H⟩ := H
 try dsimp only at H
 have A3 := ak A30
 clear A30
 by_cases c4 : t154 = 0
 ·rw [if_pos c4] at H
  have c4b0 : (t154 == 0) = true := beq_iff_eq.mpr c4
  have c4b1 : (t154 != 0) = false := bne_eq_false_iff_eq.mpr c4
  clear c4
  by_cases c5 : a1 < 0
  ·rw [if_pos c5] at H
   have c5b0 : decide (a1 < 0) = true := decide_eq_true c5
   clear c5
   obtain rfl := Option.some.inj H
   go_enter Tryz.func61, Tryz.ntmps61
   go_wp2_with (first | ((with_reducible refine gate_callee (f := 13) rfl ?_); refine goesL_ (some 9) rfl rfl Tryz.func13 (by kernel_rfl) rfl #[.int .i64 8000, .slice A0 l0.length c0] rfl (by (try simp only [List.map_toArray, List.map_cons, List.map_nil]); first | done | rfl | (simp only [List.length_drop, List.length_take]; rfl)) ?_; (with_reducible refine (faults_Check.calls k 8000 _ _ l0 t153 t154 _ ?side1 ?side2 A3.out ⟨Ft.All.stay HT.out (by repeat (first | (with_reducible first | exact HB.out | apply wA | apply wN | apply wD) | exact HB.out | (refine below_set ?_ (by assumption)) | (refine below_set ?_ (Aside0.out (by assumption)))))⟩).mono ?_); (case side1 => repeat (first | exact HR0.out | (with_reducible refine Kd.C_alloc ?_ _) | (with_reducible refine Kd.C_drewN ?_ _) | (with_reducible refine Kd.C_drew ?_))); (case side2 => exact HC0.out); rintro e w6 ⟨rfl, hb⟩; refine ⟨_, rfl, ?_⟩; have n0_ := ak (below_step (by repeat (first | (with_reducible first | exact HB.out | apply wA | apply wN | apply wD) | exact HB.out)) hb); clear HB; have HB := n0_; clear n0_; (try clear hb); (try clear hb2); (try clear hk); (try clear hi)))
   go_ret
   exact ⟨by first | rfl | (simp [errW_none, errW_some] <;> rfl) | (simp [*, errW_none, errW_some] <;> rfl), by repeat (first | (with_reducible first | exact HB.out | apply wA | apply wN | apply wD) | exact HB.out)⟩
  ·rw [if_neg c5] at H
   have c5b0 : decide (a1 < 0) = false := decide_eq_false c5
   clear c5
   by_cases c7 : a1 ≥ (l0.length : Int)
   ·rw [if_pos c7] at H
    have c7b0 : decide ((l0.length : Int) ≤ a1) = true := decide_eq_true c7
    clear c7
    obtain rfl := Option.some.inj H
    go_enter Tryz.func61, Tryz.ntmps61
    go_wp2_with (first | ((with_reducible refine gate_callee (f := 13) rfl ?_); refine goesL_ (some 9) rfl rfl Tryz.func13 (by kernel_rfl) rfl #[.int .i64 8000, .slice A0 l0.length c0] rfl (by (try simp only [List.map_toArray, List.map_cons, List.map_nil]); first | done | rfl | (simp only [List.length_drop, List.length_take]; rfl)) ?_; (with_reducible refine (faults_Check.calls k 8000 _ _ l0 t153 t154 _ ?side1 ?side2 A3.out ⟨Ft.All.stay HT.out (by repeat (first | (with_reducible first | exact HB.out | apply wA | apply wN | apply wD) | exact HB.out | (refine below_set ?_ (by assumption)) | (refine below_set ?_ (Aside0.out (by assumption)))))⟩).mono ?_); (case side1 => repeat (first | exact HR0.out | (with_reducible refine Kd.C_alloc ?_ _) | (with_reducible refine Kd.C_drewN ?_ _) | (with_reducible refine Kd.C_drew ?_))); (case side2 => exact HC0.out); rintro e w8 ⟨rfl, hb⟩; refine ⟨_, rfl, ?_⟩; have n0_ := ak (below_step (by repeat (first | (with_reducible first | exact HB.out | apply wA | apply wN | apply wD) | exact HB.out)) hb); clear HB; have HB := n0_; clear n0_; (try clear hb); (try clear hb2); (try clear hk); (try clear hi)))
    go_ret
    exact ⟨by first | rfl | (simp [errW_none, errW_some] <;> rfl) | (simp [*, errW_none, errW_some] <;> rfl), by repeat (first | (with_reducible first | exact HB.out | apply wA | apply wN | apply wD) | exact HB.out)⟩
   ·rw [if_neg c7] at H
    have c7b0 : decide ((l0.length : Int) ≤ a1) = false := decide_eq_false c7
    clear c7
    obtain rfl := Option.some.inj H
    go_enter Tryz.func61, Tryz.ntmps61
    go_wp2_with (first | ((with_reducible refine gate_callee (f := 13) rfl ?_); refine goesL_ (some 9) rfl rfl Tryz.func13 (by kernel_rfl) rfl #[.int .i64 8000, .slice A0 l0.length c0] rfl (by (try simp only [List.map_toArray, List.map_cons, List.map_nil]); first | done | rfl | (simp only [List.length_drop, List.length_take]; rfl)) ?_; (with_reducible refine (faults_Check.calls k 8000 _ _ l0 t153 t154 _ ?side1 ?side2 A3.out ⟨Ft.All.stay HT.out (by repeat (first | (with_reducible first | exact HB.out | apply wA | apply wN | apply wD) | exact HB.out | (refine below_set ?_ (by assumption)) | (refine below_set ?_ (Aside0.out (by assumption)))))⟩).mono ?_); (case side1 => repeat (first | exact HR0.out | (with_reducible refine Kd.C_alloc ?_ _) | (with_reducible refine Kd.C_drewN ?_ _) | (with_reducible refine Kd.C_drew ?_))); (case side2 => exact HC0.out); rintro e w9 ⟨rfl, hb⟩; refine ⟨_, rfl, ?_⟩; have n0_ := ak (below_step (by repeat (first | (with_reducible first | exact HB.out | apply wA | apply wN | apply wD) | exact HB.out)) hb); clear HB; have HB := n0_; clear n0_; (try clear hb); (try clear hb2); (try clear hk); (try clear hi)))
    go_ret
    exact ⟨by first | rfl | (simp [errW_none, errW_some] <;> rfl) | (simp [*, errW_none, errW_some] <;> rfl), by repeat (first | (with_reducible first | exact HB.out | apply wA | apply wN | apply wD) | exact HB.out)⟩
 ·rw [if_neg c4] at H
  have c4b0 : (t154 == 0) = false := beq_eq_false_iff_ne.mpr c4
  have c4b1 : (t154 != 0) = true := bne_iff_ne.mpr c4
  obtain rfl := Option.some.inj H
  go_enter Tryz.func61, Tryz.ntmps61
  go_wp2_with (first | ((with_reducible refine gate_callee (f := 13) rfl ?_); refine goesL_ (some 9) rfl rfl Tryz.func13 (by kernel_rfl) rfl #[.int .i64 8000, .slice A0 l0.length c0] rfl (by (try simp only [List.map_toArray, List.map_cons, List.map_nil]); first | done | rfl | (simp only [List.length_drop, List.length_take]; rfl)) ?_; (with_reducible refine (faults_Check.calls k 8000 _ _ l0 t153 t154 _ ?side1 ?side2 A3.out ⟨Ft.All.stay HT.out (by repeat (first | (with_reducible first | exact HB.out | apply wA | apply wN | apply wD) | exact HB.out | (refine below_set ?_ (by assumption)) | (refine below_set ?_ (Aside0.out (by assumption)))))⟩).mono ?_); (case side1 => repeat (first | exact HR0.out | (with_reducible refine Kd.C_alloc ?_ _) | (with_reducible refine Kd.C_drewN ?_ _) | (with_reducible refine Kd.C_drew ?_))); (case side2 => exact HC0.out); rintro e w10 ⟨rfl, hb⟩; refine ⟨_, rfl, ?_⟩; have n0_ := ak (below_step (by repeat (first | (with_reducible first | exact HB.out | apply wA | apply wN | apply wD) | exact HB.out)) hb); clear HB; have HB := n0_; clear n0_; (try clear hb); (try clear hb2); (try clear hk); (try clear hi)))
  go_ret
  exact ⟨by first | rfl | (simp [errW_none, errW_some] <;> rfl) | (simp [*, errW_none, errW_some] <;> rfl), by repeat (first | (with_reducible first | exact HB.out | apply wA | apply wN | apply wD) | exact HB.out)⟩
end Go.Proofs.YtdjkdlbokepoaaaGreatDoor.P
namespace Go.Proofs.YtdjkdlbokepoaaaGreatDoor.P
open Go.RowKit YtdjkdlbokepoaaaGreatDoorW.PrintWords YtdjkdlbokepoaaaGreatDoorW.PrintLast YtdjkdlbokepoaaaGreatDoorW.PrintMore
attribute [local go_sem] max2_int min2_int max_two min_two max_three min_three max_four min_four
set_option linter.unusedVariables false
set_option linter.unusedSimpArgs false
theorem wrap_none (l : List S41) (A : Option Addr) (c : Nat) (w : World) :
  Calls Tryz.prog 62 #[.slice A l.length c, .int .i64 (-1)] w fun e w' => e = .returned .nilIface ∧ Below w.heap.size w w' := by
 go_enter Tryz.func62, Tryz.ntmps62
 go_wp2
 go_ret
 exact ⟨rfl, Below.refl _ _⟩
theorem wrap_new (w w1 : World) (i y0 y1 y2 y3 y5 : Int) (y4 : ByteArray) (v : Value) (r : List (Int × Int)) (hb : Below w.heap.size w w1) (hE : Ft.ErrAt w1 w1.heap.size r v) (W : World) (hW : W = w1.alloc (.cells #[.int .i64 y0, .int .i64 y1, .int .i64 y2, .int .i64 y3, .string y4, .int .i64 y5, .int .i64 i, v] 127)) :
  Ft.ErrAt W W.heap.size ((i, y0) :: r) (.iface 125 (.pointer (some ⟨w1.heap.size, 0, none⟩))) ∧ Below w.heap.size w W := by
 subst hW
 refine ⟨⟨w1.heap.size, v, by simp, rfl, ?_, ?_, ?_, ?_⟩, hb.alloc hb.size _⟩
 ·rw [World.cell?_alloc_at _ _ _ _ (by simp)]; rfl
 ·rw [World.cell?_alloc_at _ _ _ _ (by simp)]; rfl
 ·rw [World.cell?_alloc_at _ _ _ _ (by simp)]; rfl
 ·exact Ft.ErrAt.stay ((Below.refl _ w1).alloc (Nat.le_refl _) _) _ _ _ hE
set_option maxHeartbeats 2000000 in
set_option maxRecDepth 100000 in
theorem wrap_calls (l : List S41) (A : Option Addr) (c : Nat) (hD : Downs l) : ∀ (k : Nat) (i : Int), i < (k : Int) → k ≤ l.length → 0 ≤ i → ∀ (w : World), Aside0 (Kd.C k41 w A l.length l) →
  Calls Tryz.prog 62 #[.slice A l.length c, .int .i64 i] w fun e w' => ∃ b, e = .returned (.iface 125 (.pointer (some ⟨b, 0, none⟩))) ∧ Ft.ErrAt w' w'.heap.size ((chainG l k i).map (linkOf l)) (.iface 125 (.pointer (some ⟨b, 0, none⟩))) ∧ Below w.heap.size w w' := by
 intro k
 induction k with
 | zero => intro i hi _ h1; omega
 | succ k ih =>
  intro i hi hk h0 w HR
  obtain ⟨ad, rfl, x0, x1, x2, x3, x4, x5⟩ := at_T41 HR.out i (by omega) (by omega)
  have hd := hD i.toNat (by omega)
  rw [show ((i.toNat : Nat) : Int) = i by omega] at hd
  have e1 : (chainG l (k + 1) i).map (linkOf l) = (i, (rd_T41 l i).f0) :: (chainG l k (rd_T41 l i).f4).map (linkOf l) := by
   rw [chainG, if_neg (by omega)]; rfl
  rw [e1]
  clear e1
  have c1 : decide (i < 0) = false := decide_eq_false (by omega)
  have hi1 : i < (l.length : Int) := by omega
  by_cases hn : (rd_T41 l i).f4 < 0
  ·have hz : (rd_T41 l i).f4 = -1 := by omega
   have e2 : chainG l k (rd_T41 l i).f4 = [] := by cases k with
    | zero => rfl
    | succ k => rw [chainG, if_pos hn]
   rw [e2]
   rw [hz] at x5
   clear ih e2 hn hz hd
   generalize (rd_T41 l i).f0 = y0 at *
   generalize (rd_T41 l i).f1 = y1 at *
   generalize (rd_T41 l i).f2.f0 = y2 at *
   generalize (rd_T41 l i).f2.f1 = y3 at *
   generalize (rd_T41 l i).f3 = y4 at *
   go_enter Tryz.func62, Tryz.ntmps62
   go_wp2
   go_region_held3 (fun w' => w'.cell? (ad.add (i.toNat * 6)) = some (.int .i64 y0) ∧ w'.cell? ⟨(ad.add (i.toNat * 6)).block, (ad.add (i.toNat * 6)).off + 1, none⟩ = some (.int .i64 y1) ∧ w'.cell? ⟨(ad.add (i.toNat * 6)).block, (ad.add (i.toNat * 6)).off + 2, none⟩ = some (.int .i64 y2) ∧ w'.cell? ⟨(ad.add (i.toNat * 6)).block, (ad.add (i.toNat * 6)).off + 3, none⟩ = some (.int .i64 y3) ∧ w'.cell? ⟨(ad.add (i.toNat * 6)).block, (ad.add (i.toNat * 6)).off + 4, none⟩ = some (.string y4) ∧ w'.cell? ⟨(ad.add (i.toNat * 6)).block, (ad.add (i.toNat * 6)).off + 5, none⟩ = some (.int .i64 (-1)))
    (first | go_keep | exact ⟨(hb.cell (World.block_lt_of_cell? w _ x0)).trans x0, (hb.cell (World.block_lt_of_cell? w _ x1)).trans x1, (hb.cell (World.block_lt_of_cell? w _ x2)).trans x2, (hb.cell (World.block_lt_of_cell? w _ x3)).trans x3, (hb.cell (World.block_lt_of_cell? w _ x4)).trans x4, (hb.cell (World.block_lt_of_cell? w _ x5)).trans x5⟩ | trivial)
    ((go_at_call 62; refine (wrap_none l (some ad) c _).mono ?_; rintro e w1 ⟨rfl, hb⟩))
   go_wp2
   go_ret
   obtain ⟨g1, g2⟩ := wrap_new w w1 i y0 y1 y2 y3 (-1) y4 .nilIface [] (((Below.refl _ w).drew).trans hb) rfl _ rfl
   exact ⟨_, rfl, g1, g2⟩
  ·have IH := ak (ih (rd_T41 l i).f4 (by omega) (by omega) (by omega))
   clear ih hn hd
   generalize (rd_T41 l i).f0 = y0 at *
   generalize (rd_T41 l i).f1 = y1 at *
   generalize (rd_T41 l i).f2.f0 = y2 at *
   generalize (rd_T41 l i).f2.f1 = y3 at *
   generalize (rd_T41 l i).f3 = y4 at *
   generalize (rd_T41 l i).f4 = y5 at *
   go_enter Tryz.func62, Tryz.ntmps62
   go_wp2
   go_region_held3 (fun w' => w'.cell? (ad.add (i.toNat * 6)) = some (.int .i64 y0) ∧ w'.cell? ⟨(ad.add (i.toNat * 6)).block, (ad.add (i.toNat * 6)).off + 1, none⟩ = some (.int .i64 y1) ∧ w'.cell? ⟨(ad.add (i.toNat * 6)).block, (ad.add (i.toNat * 6)).off + 2, none⟩ = some (.int .i64 y2) ∧ w'.cell? ⟨(ad.add (i.toNat * 6)).block, (ad.add (i.toNat * 6)).off + 3, none⟩ = some (.int .i64 y3) ∧ w'.cell? ⟨(ad.add (i.toNat * 6)).block, (ad.add (i.toNat * 6)).off + 4, none⟩ = some (.string y4) ∧ w'.cell? ⟨(ad.add (i.toNat * 6)).block, (ad.add (i.toNat * 6)).off + 5, none⟩ = some (.int .i64 y5))
    (first | go_keep | exact ⟨(hb.cell (World.block_lt_of_cell? w _ x0)).trans x0, (hb.cell (World.block_lt_of_cell? w _ x1)).trans x1, (hb.cell (World.block_lt_of_cell? w _ x2)).trans x2, (hb.cell (World.block_lt_of_cell? w _ x3)).trans x3, (hb.cell (World.block_lt_of_cell? w _ x4)).trans x4, (hb.cell (World.block_lt_of_cell? w _ x5)).trans x5⟩ | trivial)
    ((go_at_call 62; refine (IH.out _ ⟨Kd.C_drew HR.out⟩).mono ?_; rintro e w1 ⟨b, rfl, hE, hb⟩; have HE := ak hE; clear hE))
   go_wp2
   go_ret
   obtain ⟨g1, g2⟩ := wrap_new w w1 i y0 y1 y2 y3 y5 y4 _ _ (((Below.refl _ w).drew).trans hb) HE.out _ rfl
   exact ⟨_, rfl, g1, g2⟩
theorem info3_ : (Tryz.prog.info? 3).map (fun i => (i.zero, i.size, i.bytes)) = some (some (.int .i64 0), 1, 8) := by kernel_rfl
theorem frozen_new (w : World) (v : Value) (t : TypeId) : (w.alloc (.cells #[v] t)).frozen? ⟨w.heap.size, 0, none⟩ = false := by
 have h2 : (w.alloc (.cells #[v] t)).heap[w.heap.size]? = some (.cells #[v] t) := by
  show (w.heap.push (.cells #[v] t))[w.heap.size]? = _
  simp
 simp only [World.frozen?, h2]
 rfl
theorem methodPlace (a : Addr) (w : World) : (Go.method 330 125 (.pointer (some a)) "mummer/faults.place").run Tryz.prog w = .ok (170, .pointer (some a)) w := by kernel_rfl
theorem cell_heap {W W' : World} {b : Nat} (h : W'.heap[b]? = W.heap[b]?) (o : Nat) : W'.cell? ⟨b, o, none⟩ = W.cell? ⟨b, o, none⟩ := by simp only [World.cell?, h]
theorem frozen_heap {W W' : World} {b : Nat} (h : W'.heap[b]? = W.heap[b]?) (o : Nat) : W'.frozen? ⟨b, o, none⟩ = W.frozen? ⟨b, o, none⟩ := by simp only [World.frozen?, h]
theorem as_keep (b tb : Nat) (old : Value) (w : World) (ht0 : w.cell? ⟨tb, 0, none⟩ = some old) (hf0 : w.frozen? ⟨tb, 0, none⟩ = false) :
  Calls Tryz.prog 63 #[.iface 125 (.pointer (some ⟨b, 0, none⟩)), .iface 93 (.pointer (some ⟨tb, 0, none⟩))] w fun ev w' => ev = .returned (.bool true) ∧ w'.cell? ⟨tb, 0, none⟩ = some (.iface 125 (.pointer (some ⟨b, 0, none⟩))) ∧ w'.frozen? ⟨tb, 0, none⟩ = false ∧ KeepBut w w' tb none ∧ (∀ w0 : World, w0.heap.size ≤ tb → Below w0.heap.size w0 w → Below w0.heap.size w0 w') := by
 refine (Ft.as_hit ⟨b, 0, none⟩ ⟨tb, 0, none⟩ old w ht0 hf0).mono ?_
 rintro ev w' ⟨rfl, rfl⟩
 have htl : tb < w.heap.size := World.block_lt_of_cell? w ⟨tb, 0, none⟩ ht0
 have hk : ∀ (o1 o2 o3 o4 : Obj), KeepBut w ((((w.alloc o1).alloc o2).alloc o3).alloc o4) tb none := fun o1 o2 o3 o4 => keep_alloc (keep_alloc (keep_alloc (keep_alloc (KeepBut.refl w tb none) _) _) _) _
 unfold Ft.asW
 refine ⟨rfl, ?_, ?_, (hk _ _ _ _).set_ 0 _, fun w0 h0 hb => ?_⟩
 ·refine World.cell?_setCell_same' _ _ _ ?_
  rw [World.cell?_alloc_lt _ _ _ (by simp; omega), World.cell?_alloc_lt _ _ _ (by simp; omega), World.cell?_alloc_lt _ _ _ (by simp; omega), World.cell?_alloc_lt _ _ _ htl, ht0]
  rfl
 ·rw [World.frozen?_setCell, World.frozen?_alloc_old _ _ _ (by simp; omega), World.frozen?_alloc_old _ _ _ (by simp; omega), World.frozen?_alloc_old _ _ _ (by simp; omega), World.frozen?_alloc_old _ _ _ (Nat.ne_of_lt htl)]
  exact hf0
 ·have h4 : ∀ (o1 o2 o3 o4 : Obj), Below w0.heap.size w0 ((((w.alloc o1).alloc o2).alloc o3).alloc o4) := fun o1 o2 o3 o4 => wA (wA (wA (wA hb _) _) _) _
  exact (h4 _ _ _ _).setCell (p := ⟨tb, 0, none⟩) h0 _
def faults_Chain.f (k : Nat) (l0 : List S41) (a1 : Int) : Option (List Int × Int) := (faults_known.f k l0 a1).bind fun e => if e = 0 then (if downsB l0 = true ∧ 0 ≤ a1 ∧ a1 < (l0.length : Int) ∧ l0.length ≤ 100 then some (chainG l0 l0.length a1, 0) else none) else some ([], e)
theorem own_row {α : Type} {d : Kd α} {e base N : Nat} {W : World} {v : Value} {xs : List α} (h : d.R e W base (fun k_ => N ≤ k_) v xs) : v.ownBlock = none ∨ ∃ b, v.ownBlock = some b ∧ N ≤ b := by
 cases hv : v.ownBlock with
 | none => exact .inl rfl
 | some b => exact .inr ⟨b, rfl, h.1 b hv⟩
theorem chainG_len (l : List S41) : ∀ (k : Nat) (i : Int), (chainG l k i).length ≤ k
 | 0, _ => Nat.le_refl _
 | k + 1, i => by
  unfold chainG
  split
  ·simp
  ·simp only [List.length_cons]; exact Nat.succ_le_succ (chainG_len l k _)
set_option maxHeartbeats 4000000 in
set_option maxRecDepth 100000 in
theorem faults_Chain.calls (k : Nat) (A0 : Option Addr) (c0 : Nat) (l0 : List S41) (a1 : Int) (r1 : List Int) (r2 : Int) (w : World) (hr0 : Kd.C k41 w A0 l0.length l0) (hc0 : l0.length ≤ c0) (h : faults_Chain.f k l0 a1 = some (r1, r2)) (HT : Aside0 (Ft.All w)) :
  Calls Tryz.prog 26 #[.slice A0 l0.length c0, .int .i64 a1] w fun e w' => ∃ v0_ : Value, e = .returned (.tuple #[v0_, .int .i64 r2]) ∧ Kd.R (Kd.int .i64) 3 w' w.heap.size (fun _ => True) v0_ r1 ∧ Below w.heap.size w w' := by
 unfold faults_Chain.f at h
 obtain ⟨e, hk, h⟩ := Option.bind_eq_some_iff.mp h
 have HK := ak hk
 have HR := ak hr0
 by_cases he : e = 0
 case neg =>
  rw [if_neg he] at h
  cases h
  have z1 : (r2 != 0) = true := bne_iff_ne.mpr he
  have z2 : (r2 == 0) = false := beq_eq_false_iff_ne.mpr he
  clear hk hr0
  go_enter Tryz.func26, Tryz.ntmps26
  go_wp2_with (first
   | (go_at_call 61; refine ( faults_known.calls k A0 c0 l0 a1 r2 w HR.out hc0 HK.out HT).mono ?_; rintro e w1 ⟨rfl, hb1⟩))
  go_ret2
  exact ⟨_, rfl, Kd.R_nil _ _ _ _ _, hb1⟩
 subst he
 rw [if_pos rfl] at h
 by_cases hc : downsB l0 = true ∧ 0 ≤ a1 ∧ a1 < (l0.length : Int) ∧ l0.length ≤ 100
 case neg => rw [if_neg hc] at h; cases h
 rw [if_pos hc] at h
 cases h
 obtain ⟨hd, h0, h1, hl⟩ := hc
 have HW := ak (fun w => wrap_calls l0 A0 c0 (downs_of hd) l0.length a1 h1 (Nat.le_refl _) h0 w)
 have HL := ak (Nat.le_trans (chainG_len l0 l0.length a1) hl)
 have mP := methodPlace
 have mU := Ft.methodUnwrap
 clear hk hr0 hd
 go_enter Tryz.func26, Tryz.ntmps26
 go_wp2_with (first
  | (go_at_call 61; refine ( faults_known.calls k A0 c0 l0 a1 0 w HR.out hc0 HK.out HT).mono ?_; rintro e w1 ⟨rfl, hb1⟩)
  | (go_at_call 62; refine (HW.out _ ⟨Kd.C_alloc (Kd.C_below HR.out hb1) _⟩).mono ?_; rintro e w2 ⟨b, rfl, hE, hb2⟩))
 have hnil : w2.cell? ⟨w1.heap.size, 0, none⟩ = some .nilIface := (hb2.cell (p := ⟨w1.heap.size, 0, none⟩) (by simp)).trans (by rw [World.cell?_alloc_at _ _ _ _ rfl]; rfl)
 have hfr : w2.frozen? ⟨w1.heap.size, 0, none⟩ = false := (frozen_heap (hb2.block w1.heap.size (by simp)) 0).trans (frozen_new _ _ _)
 have hB2 : Below w.heap.size w w2 := (wA hb1 _).trans (hb2.mono (by simp; have := hb1.size; omega))
 have hsz : w.heap.size ≤ w1.heap.size := hb1.size
 have hlt : w1.heap.size < w2.heap.size := World.block_lt_of_cell? w2 _ hnil
 obtain ⟨T, hT⟩ : ∃ T, w1.heap.size = T := ⟨_, rfl⟩
 have htm : ((chainG l0 l0.length a1).map (linkOf l0)).map (·.1) = chainG l0 l0.length a1 := by rw [List.map_map]; exact List.map_id'' (fun _ => rfl) _
 have HTM := ak htm
 have HN := ak (show ((chainG l0 l0.length a1).map (linkOf l0)).length ≤ 100 by rw [List.length_map]; exact HL.out)
 simp only [World.size_alloc, hT] at hnil hfr hlt hsz ⊢
 generalize (chainG l0 l0.length a1).map (linkOf l0) = R0 at hE HTM HN ⊢
 obtain ⟨C0, hC0⟩ : ∃ C0, chainG l0 l0.length a1 = C0 := ⟨_, rfl⟩
 rw [hC0] at HTM HL
 have HC0 := ak hC0
 clear hC0
 have HE := ak hE
 have HNil := ak hnil
 have HFr := ak hfr
 have HB2 := ak hB2
 clear hE hnil hfr hB2 hb2 hb1 hT HW HR HK HT htm HL h
 go_loopg [7, 9] R0.length (fun gh v7 v9 wr => ∃ (xs : List Int) (rest : List (Int × Int)) (m : Nat) (old : Value), Aside0 (Ft.ErrAt w2 m rest v9) ∧ Aside0 (xs ++ rest.map (·.1) = C0) ∧ gh = rest.length ∧ Aside0 (xs.length + rest.length ≤ 100) ∧ Aside0 (KeepBut w2 wr T none) ∧ Aside0 (Kd.R (Kd.int .i64) 3 wr w.heap.size (fun k_ => w2.heap.size ≤ k_) v7 xs) ∧ Aside0 (Below w.heap.size w wr) ∧ Aside0 (wr.cell? ⟨T, 0, none⟩ = some old) ∧ Aside0 (wr.frozen? ⟨T, 0, none⟩ = false))
 case atStart => exact ⟨[], R0, _, _, HE, HTM, rfl, by simpa using HN, ⟨KeepBut.refl _ _ _⟩, ⟨Kd.R_nil _ _ _ _ _⟩, HB2, HNil, HFr⟩
 case round =>
  obtain ⟨xs, rest, m, old, HE1, HX, rfl, HL, HK, HO, HB, HC, HF⟩ := hrel
  clear HE HB2 HTM HN
  cases rest with
  | nil =>
   obtain rfl : _ = Value.nilIface := HE1.out
   go_wp2_with (go_at_call 63; refine (Ft.as_nil _ _).mono ?_; rintro e w3 ⟨rfl, rfl⟩)
   go_ret2
   have e1 : xs = C0 := by have := HX.out; simpa using this
   rw [HC0.out, ← e1]
   exact ⟨_, rfl, Kd.R_mono HO.out (fun _ _ => trivial), HB.out⟩
  | cons x rest =>
   obtain ⟨p, d⟩ := x
   obtain ⟨b2, u, g1, rfl, g2, g3, g4, g5⟩ := HE1.out
   have hbt : b2 ≠ T := fun e => by subst e; have h3 := HNil.out; simp only at g2; rw [g2] at h3; cases h3
   have hbl : b2 < w2.heap.size := World.block_lt_of_cell? w2 ⟨b2, 0, none⟩ g2
   have HA := ak (as_keep b2 T old wr HC.out HF.out)
   simp only at g3
   have G3 := ak g3
   have G4 := ak g4
   have G5 := ak g5
   have HBT := ak hbt
   have HU : Aside0 (u = .nilIface ∨ ∃ e, u = .iface 125 (.pointer (some e))) := ⟨by
    cases rest with
    | nil => exact .inl g5
    | cons y rest => obtain ⟨b3, u3, _, h3, _⟩ := g5; exact .inr ⟨_, h3⟩⟩
   clear g1 g2 g3 g4 g5 HE1 HC HF hbt
   have LM := ak (show xs.length < 101 by have := HL.out; simp at this; omega)
   go_wp2_with (first
    | ((with_reducible refine gate_builtin (b := .append) (xs := #[.tmp 24, .tmp 27]) rfl ?_); at_builtin; refine Kd.R_append (Kd.int .i64) (w0 := w) w.heap.size rfl (.tmp 24) (.tmp 27) 43 3 (.int .i64 0) 8 rfl Tryz.underlying43 info3_ rfl (by decide) (by omega) u7 xs p [.int .i64 p] (fun k_ => w2.heap.size ≤ k_) (fun _ => False) rfl rfl ?aP (fun _ hk => hk.elim) ?aF ?aO ?aB ?aS ?aL ?_; (case aP => exact rfl); (case aB => exact HB3.out); (case aF => exact (fun k_ hk_ => Nat.le_trans Q3.out.1 hk_)); (case aO => exact HO3.out); (case aS => exact HB3.out.size); (case aL => have := LM.out; omega); intro v302 w9 ho hb hg hat; have HO9 := ak ho; have HB9 := ak hb; have q9 := (cell_heap (hg.block T (Nat.lt_of_lt_of_le hlt Q3.out.1) (fun e_ => absurd (HO3.out.1 T e_.symm) (by omega))) 0).trans q1; have Q9 := ak ((frozen_heap (hg.block T (Nat.lt_of_lt_of_le hlt Q3.out.1) (fun e_ => absurd (HO3.out.1 T e_.symm) (by omega))) 0).trans Q2.out); have K9 := ak (Q3.out.trans (KeepBut.of_grown hg T) (own_row HO3.out)); clear ho hb hg hat q1)
    | (go_at_call 63; refine HA.out.mono ?_; rintro e w3 ⟨rfl, q1, q2, q3, q4⟩; have Q2 := ak q2; have Q3 := ak (HK.out.trans q3 (.inl rfl)); have HB3 := ak (q4 w hsz HB.out); have Q1 := ak q1; have HO3 := ak (Kd.R_keep HO.out q3 (fun k_ hk_ => by have := hlt; omega)); clear q2 q3 q4 HO HK HB)
    | (go_at_call 170; refine (Ft.place_calls b2 p _ (keep_cell Q3.out G3.out HBT.out)).mono ?_; rintro e w4 ⟨rfl, rfl⟩)
    | (go_at_call 169; refine (Ft.unwrap_calls b2 u _ (keep_cell K9.out G4.out HBT.out) HU.out).mono ?_; rintro e w10 ⟨rfl, rfl⟩))
   go_roundg rest.length
   case measure => simp
   case rel => exact ⟨xs ++ [p], rest, b2, _, G5, ⟨by have := HX.out; simpa using this⟩, rfl, ⟨by have := HL.out; simp at this ⊢; omega⟩, K9, HO9, HB9, ⟨q9⟩, Q9⟩
end Go.Proofs.YtdjkdlbokepoaaaGreatDoor.P
namespace Go.Proofs.YtdjkdlbokepoaaaGreatDoor.P
open Go.RowKit YtdjkdlbokepoaaaGreatDoorW.PrintWords YtdjkdlbokepoaaaGreatDoorW.PrintLast YtdjkdlbokepoaaaGreatDoorW.PrintMore
attribute [local go_sem] max2_int min2_int max_two min_two max_three min_three max_four min_four
set_option linter.unusedVariables false
set_option linter.unusedSimpArgs false
theorem chainG_ne (l : List S41) (k : Nat) (i : Int) (hk : 0 < k) (hi : 0 ≤ i) : chainG l k i ≠ [] := by
 cases k with
 | zero => omega
 | succ k => unfold chainG; rw [if_neg (by omega)]; simp
def faults_Has.f (k : Nat) (l0 : List S41) (a1 : Int) (a2 : Int) : Option (Bool × Int) := (faults_known.f k l0 a1).bind fun e => if e = 0 then (if downsB l0 = true ∧ 0 ≤ a1 ∧ a1 < (l0.length : Int) ∧ l0.length ≤ 100 then some ((chainG l0 l0.length a1).any (fun i => decide (a2 = (rd_T41 l0 i).f0)), 0) else none) else some (false, e)
set_option maxHeartbeats 4000000 in
set_option maxRecDepth 100000 in
theorem faults_Has.calls (k : Nat) (A0 : Option Addr) (c0 : Nat) (l0 : List S41) (a1 : Int) (a2 : Int) (r1 : Bool) (r2 : Int) (w : World) (hr0 : Kd.C k41 w A0 l0.length l0) (hc0 : l0.length ≤ c0) (h : faults_Has.f k l0 a1 a2 = some (r1, r2)) (HT : Aside0 (Ft.All w)) :
  Calls Tryz.prog 32 #[.slice A0 l0.length c0, .int .i64 a1, .int .i64 a2] w fun e w' => e = .returned (.tuple #[.bool r1, .int .i64 r2]) ∧ Below w.heap.size w w' := by
 unfold faults_Has.f at h
 obtain ⟨e, hk, h⟩ := Option.bind_eq_some_iff.mp h
 have HK := ak hk
 have HR := ak hr0
 by_cases he : e = 0
 case neg =>
  rw [if_neg he] at h
  cases h
  have z1 : (r2 != 0) = true := bne_iff_ne.mpr he
  have z2 : (r2 == 0) = false := beq_eq_false_iff_ne.mpr he
  clear hk hr0
  go_enter Tryz.func32, Tryz.ntmps32
  go_wp2_with (first
   | (go_at_call 61; refine ( faults_known.calls k A0 c0 l0 a1 r2 w HR.out hc0 HK.out HT).mono ?_; rintro e w1 ⟨rfl, hb1⟩))
  go_ret2
  exact ⟨rfl, hb1⟩
 subst he
 rw [if_pos rfl] at h
 by_cases hc : downsB l0 = true ∧ 0 ≤ a1 ∧ a1 < (l0.length : Int) ∧ l0.length ≤ 100
 case neg => rw [if_neg hc] at h; cases h
 rw [if_pos hc] at h
 obtain ⟨hd, h0, h1, hl⟩ := hc
 have e1 : r1 = ((chainG l0 l0.length a1).map (linkOf l0)).any (fun x => decide (a2 = x.2)) := by
  rw [List.any_map]
  exact (congrArg Prod.fst (Option.some.inj h)).symm
 have e2 : r2 = 0 := (congrArg Prod.snd (Option.some.inj h)).symm
 subst e2
 have HW := ak (fun w => wrap_calls l0 A0 c0 (downs_of hd) l0.length a1 h1 (Nat.le_refl _) h0 w)
 have HN : Aside0 ((chainG l0 l0.length a1).map (linkOf l0) ≠ []) := ⟨by
  intro e3
  exact chainG_ne l0 l0.length a1 (by omega) h0 (List.map_eq_nil_iff.1 e3)⟩
 rw [e1]
 generalize (chainG l0 l0.length a1).map (linkOf l0) = R0 at HW HN ⊢
 generalize hA : (R0.any fun x => decide (a2 = x.2)) = ans
 have HA := ak hA
 clear hk hr0 hd h e1 hA
 go_enter Tryz.func32, Tryz.ntmps32
 go_wp2_with (first
  | (go_at_call 61; refine ( faults_known.calls k A0 c0 l0 a1 0 w HR.out hc0 HK.out HT).mono ?_; rintro e w1 ⟨rfl, hb1⟩; have HB1 := ak hb1; clear hb1)
  | (go_at_call 62; refine (HW.out _ ⟨Kd.C_below HR.out HB1.out⟩).mono ?_; rintro e w2 ⟨b, rfl, hE, hb2⟩; have HE := ak hE; have HB2 := ak (HB1.out.trans (hb2.mono HB1.out.size)); clear hE hb2)
  | (go_at_call 66; refine (Ft.Is_calls R0 _ _ a2 _ HN.out HE.out).mono ?_; rintro e w3 ⟨rfl, hb3⟩; have HB3 := ak (HB2.out.trans (hb3.mono HB2.out.size)); rw [HA.out]; clear hb3))
 go_ret2
 exact ⟨rfl, HB3.out⟩
end Go.Proofs.YtdjkdlbokepoaaaGreatDoor.P
namespace Go.Proofs.YtdjkdlbokepoaaaGreatDoor.P
open Go.RowKit YtdjkdlbokepoaaaGreatDoorW.PrintWords YtdjkdlbokepoaaaGreatDoorW.PrintLast YtdjkdlbokepoaaaGreatDoorW.PrintMore
attribute [local go_sem] max2_int min2_int max_two min_two max_three min_three max_four min_four
set_option linter.unusedVariables false
set_option linter.unusedSimpArgs false
def mummerref04_Ints.l0 : Nat → List Int → List Int → Int → Option (Bool)
 | 0, _, _, _ => none
 | k + 1, x0, x1, x5 => if x5 < (x0.length : Int) then (if 0 ≤ x5 then (if x5 < (x1.length : Int) then (if (rd x0 x5) = (rd x1 x5) then (mummerref04_Ints.l0 k x0 x1 (wrap64 (x5 + 1))) else (some false)) else (none)) else (none)) else (some true)
def mummerref04_Ints.f (k : Nat) (l0 : List Int) (l1 : List Int) : Option (Bool) := if (l0.length : Int) = (l1.length : Int) then (mummerref04_Ints.l0 k l0 l1 0) else (some false)
set_option maxHeartbeats 8000000 in
set_option maxRecDepth 100000 in
theorem mummerref04_Ints.calls (k : Nat) (A0 : Option Addr) (c0 : Nat) (l0 : List Int) (A1 : Option Addr) (c1 : Nat) (l1 : List Int) (r : Bool) (w : World) (hr0 : Kd.C (Kd.int .i64) w A0 l0.length l0) (hc0 : l0.length ≤ c0) (hr1 : Kd.C (Kd.int .i64) w A1 l1.length l1) (hc1 : l1.length ≤ c1) (h : mummerref04_Ints.f k l0 l1 = some r) :
  Calls Tryz.prog 34 #[.slice A0 l0.length c0, .slice A1 l1.length c1] w fun e w' => e = .returned (.bool r) ∧ Drawn0 w w' := by
 have HR0 := ak hr0
 have HC0 := ak hc0
 clear hr0 hc0
 have HR1 := ak hr1
 have HC1 := ak hc1
 clear hr1 hc1
 have H : (if (l0.length : Int) = (l1.length : Int) then (mummerref04_Ints.l0 k l0 l1 0) else (some false)) = some r := h
 clear h
 by_cases c3 : (l0.length : Int) = (l1.length : Int)
 ·rw [if_pos c3] at H
  have c3b0 : ((l0.length : Int) == (l1.length : Int)) = true := beq_iff_eq.mpr c3
  have c3b1 : ((l0.length : Int) != (l1.length : Int)) = false := bne_eq_false_iff_eq.mpr c3
  have c3b2 : (l0.length == l1.length) = true := by first | simpa using c3 | (simp at c3 ⊢; omega)
  clear c3
  have H' := ak H
  clear H
  go_enter Tryz.func34, Tryz.ntmps34
  go_wp2
  repeat (go_quiet (fail); try go_wp2)
  go_loopg [5] k (fun kq v5 w' => ∃ (x5_1 : Int), v5 = .int .i64 x5_1 ∧ Aside0 (mummerref04_Ints.l0 kq l0 l1 x5_1 = some r) ∧ Aside0 (kq ≤ k) ∧ Drawn0 w w')
  case atStart => exact ⟨(0), (by first | rfl | (simp; done) | (simp [*]; done)), H', ⟨Nat.le_refl _⟩, by repeat (first | exact Drawn0.refl _ | apply Drawn0.step)⟩
  case round =>
   clear H'
   try clear c1
   try clear p2
   try clear c3
   try clear c3b0
   try clear c3b1
   try clear c3b2
   obtain ⟨x5_1, rfl, HA, HK1, ⟨m1, rfl⟩⟩ := hrel
   cases gk with
   | zero => exact absurd HA.out (by simp [mummerref04_Ints.l0])
   | succ k1 =>
    have H := HA.out
    clear HA
    simp only [mummerref04_Ints.l0] at H
    by_cases c4 : x5_1 < (l0.length : Int)
    ·rw [if_pos c4] at H
     have c4b0 : decide (x5_1 < (l0.length : Int)) = true := decide_eq_true c4
     clear c4
     by_cases c5 : 0 ≤ x5_1
     ·rw [if_pos c5] at H
      have c5b0 : decide (0 ≤ x5_1) = true := decide_eq_true c5
      clear c5
      by_cases c6 : x5_1 < (l1.length : Int)
      ·rw [if_pos c6] at H
       have c6b0 : decide (x5_1 < (l1.length : Int)) = true := decide_eq_true c6
       clear c6
       by_cases c7 : (rd l0 x5_1) = (rd l1 x5_1)
       ·rw [if_pos c7] at H
        have c7b0 : ((rd l0 x5_1) == (rd l1 x5_1)) = true := beq_iff_eq.mpr c7
        have c7b1 : ((rd l0 x5_1) != (rd l1 x5_1)) = false := bne_eq_false_iff_eq.mpr c7
        clear c7
        have H' := ak H
        clear H
        have p155 : 0 ≤ (x5_1 : Int) := of_decide_eq_true (by first | (with_reducible assumption) | assumption)
        have q155 : x5_1 < (l0.length : Int) := of_decide_eq_true (by first | (with_reducible assumption) | assumption)
        obtain ⟨ad155, e155, hx155_0⟩ := Kd.at_int HR0.out x5_1 p155 q155
        cases e155
        replace p155 := eq_true p155
        replace q155 := eq_true q155
        have p156 : 0 ≤ (x5_1 : Int) := of_decide_eq_true (by first | (with_reducible assumption) | assumption)
        have q156 : x5_1 < (l1.length : Int) := of_decide_eq_true (by first | (with_reducible assumption) | assumption)
        obtain ⟨ad156, e156, hx156_0⟩ := Kd.at_int HR1.out x5_1 p156 q156
        cases e156
        replace p156 := eq_true p156
        replace q156 := eq_true q156
        go_wp2
        repeat (go_quiet (fail); try go_wp2)
        go_roundg k1
        case measure => have := HK1.out; omega
        case rel => exact ⟨(wrap64 (x5_1 + 1)), (by first | rfl | (simp; done) | (simp [*]; done)), H', ⟨by have := HK1.out; omega⟩, by repeat (first | exact Drawn0.refl _ | apply Drawn0.step)⟩
       ·rw [if_neg c7] at H
        have c7b0 : ((rd l0 x5_1) == (rd l1 x5_1)) = false := beq_eq_false_iff_ne.mpr c7
        have c7b1 : ((rd l0 x5_1) != (rd l1 x5_1)) = true := bne_iff_ne.mpr c7
        obtain rfl := Option.some.inj H
        have p155 : 0 ≤ (x5_1 : Int) := of_decide_eq_true (by first | (with_reducible assumption) | assumption)
        have q155 : x5_1 < (l0.length : Int) := of_decide_eq_true (by first | (with_reducible assumption) | assumption)
        obtain ⟨ad155, e155, hx155_0⟩ := Kd.at_int HR0.out x5_1 p155 q155
        cases e155
        replace p155 := eq_true p155
        replace q155 := eq_true q155
        have p156 : 0 ≤ (x5_1 : Int) := of_decide_eq_true (by first | (with_reducible assumption) | assumption)
        have q156 : x5_1 < (l1.length : Int) := of_decide_eq_true (by first | (with_reducible assumption) | assumption)
        obtain ⟨ad156, e156, hx156_0⟩ := Kd.at_int HR1.out x5_1 p156 q156
        cases e156
        replace p156 := eq_true p156
        replace q156 := eq_true q156
        go_wp2
        repeat (go_quiet (fail); try go_wp2)
        go_ret
        exact ⟨by first | rfl | (simp; done) | (simp [*]; done), by repeat (first | exact Drawn0.refl _ | apply Drawn0.step)⟩
      ·rw [if_neg c6] at H
       exact absurd H (by simp)
     ·rw [if_neg c5] at H
      exact absurd H (by simp)
    ·rw [if_neg c4] at H
     have c4b0 : decide (x5_1 < (l0.length : Int)) = false := decide_eq_false c4
     clear c4
     obtain rfl := Option.some.inj H
     go_wp2
     repeat (go_quiet (fail); try go_wp2)
     go_ret
     exact ⟨by first | rfl | (simp; done) | (simp [*]; done), by repeat (first | exact Drawn0.refl _ | apply Drawn0.step)⟩
 ·rw [if_neg c3] at H
  have c3b0 : ((l0.length : Int) == (l1.length : Int)) = false := beq_eq_false_iff_ne.mpr c3
  have c3b1 : ((l0.length : Int) != (l1.length : Int)) = true := bne_iff_ne.mpr c3
  have c3b2 : (l0.length == l1.length) = false := by first | simpa using c3 | (simp at c3 ⊢; omega)
  obtain rfl := Option.some.inj H
  go_enter Tryz.func34, Tryz.ntmps34
  go_wp2
  repeat (go_quiet (fail); try go_wp2)
  go_ret
  exact ⟨by first | rfl | (simp; done) | (simp [*]; done), by repeat (first | exact Drawn0.refl _ | apply Drawn0.step)⟩
end Go.Proofs.YtdjkdlbokepoaaaGreatDoor.P
namespace Go.Proofs.YtdjkdlbokepoaaaGreatDoor.P
open Go.RowKit YtdjkdlbokepoaaaGreatDoorW.PrintWords YtdjkdlbokepoaaaGreatDoorW.PrintLast YtdjkdlbokepoaaaGreatDoorW.PrintMore
attribute [local go_sem] max2_int min2_int max_two min_two max_three min_three max_four min_four
set_option linter.unusedVariables false
set_option linter.unusedSimpArgs false
def utf8_RuneStart.f (a0 : Int) : Option Bool := if 0 ≤ a0 ∧ a0 < 256 then some (Lib.runeStart a0) else none
theorem utf8_RuneStart.calls (a0 : Int) (r : Bool) (w : World) (h : utf8_RuneStart.f a0 = some r) :
  Calls Tryz.prog 80 #[.int .u8 a0] w fun e w' => e = .returned (.bool r) ∧ w' = w := by
 unfold utf8_RuneStart.f at h
 by_cases hs : 0 ≤ a0 ∧ a0 < 256
 ·rw [if_pos hs] at h
  obtain rfl := Option.some.inj h
  exact Tryz.utf8_RuneStart a0 w hs.1 hs.2
 ·rw [if_neg hs] at h; cases h
end Go.Proofs.YtdjkdlbokepoaaaGreatDoor.P
namespace Go.Proofs.YtdjkdlbokepoaaaGreatDoor.P
open Go.RowKit YtdjkdlbokepoaaaGreatDoorW.PrintWords YtdjkdlbokepoaaaGreatDoorW.PrintLast YtdjkdlbokepoaaaGreatDoorW.PrintMore
attribute [local go_sem] max2_int min2_int max_two min_two max_three min_three max_four min_four
set_option linter.unusedVariables false
set_option linter.unusedSimpArgs false
mutual
def runes_Back.j0 : Nat → List Int → Int → Bool → Option (Int × Int)
 | 0, _, _, _ => none
 | k + 1, x0, x1, x23 => if x23 = true then (some (0, 7)) else (runes_Back.l0 k x0 x1)
def runes_Back.l0 : Nat → List Int → Int → Option (Int × Int)
 | 0, _, _ => none
 | k + 1, x0, x1 => if x1 < (x0.length : Int) then (if x1 > 0 then (if 0 ≤ x1 then ((utf8_RuneStart.f (rd x0 x1)).bind fun t105 => (if t105 = true then (some (x1, 0)) else (runes_Back.l0 k x0 (wrap64 (x1 - 1))))) else (none)) else (some (x1, 0))) else (some (x1, 0))
end
def runes_Back.f (k : Nat) (l0 : List Int) (a1 : Int) : Option (Int × Int) := (runes_Check.f l0).bind fun bt102 => (if bt102.2 = 0 then (if a1 < 0 then (runes_Back.j0 k l0 a1 true) else (runes_Back.j0 k l0 a1 (decide (a1 > (l0.length : Int))))) else (some (0, bt102.2)))
set_option maxHeartbeats 8000000 in
set_option maxRecDepth 100000 in
theorem runes_Back.calls (k : Nat) (A0 : Option Addr) (c0 : Nat) (l0 : List Int) (a1 : Int) (r1 : Int) (r2 : Int) (w : World) (hr0 : Kd.C (Kd.int .u8) w A0 l0.length l0) (hc0 : l0.length ≤ c0) (h : runes_Back.f k l0 a1 = some (r1, r2)) (HT : Aside0 (Ft.All w)) :
  Calls Tryz.prog 46 #[.slice A0 l0.length c0, .int .i64 a1] w fun e w' => e = .returned (.tuple #[.int .i64 r1, .int .i64 r2]) ∧ Below w.heap.size w w' := by
 have HR0 := ak hr0
 have HC0 := ak hc0
 clear hr0 hc0
 have HB := ak (Below.refl w.heap.size w)
 have H : ((runes_Check.f l0).bind fun bt102 => (if bt102.2 = 0 then (if a1 < 0 then (runes_Back.j0 k l0 a1 true) else (runes_Back.j0 k l0 a1 (decide (a1 > (l0.length : Int))))) else (some (0, bt102.2)))) = some (r1, r2) := h
 clear h
 replace H := Option.bind_eq_some_iff.mp H
 obtain ⟨⟨t102, t103⟩, A30, H⟩ := H
 try dsimp only at H
 have A3 := ak A30
 clear A30
 by_cases c4 : t103 = 0
 ·rw [if_pos c4] at H
  have c4b0 : (t103 == 0) = true := beq_iff_eq.mpr c4
  have c4b1 : (t103 != 0) = false := bne_eq_false_iff_eq.mpr c4
  clear c4
  have HC5 := ak H
  clear H
  go_enter Tryz.func46, Tryz.ntmps46
  go_upto_region 4 with (first | ((with_reducible refine gate_callee (f := 45) rfl ?_); refine goesL_ (some 10) rfl rfl Tryz.func45 (by kernel_rfl) rfl #[.slice A0 l0.length c0] rfl (by (try simp only [List.map_toArray, List.map_cons, List.map_nil]); first | done | rfl | (simp only [List.length_drop, List.length_take]; rfl)) ?_; (with_reducible refine (runes_Check.calls _ _ l0 t102 t103 _ ?side1 ?side2 A3.out ⟨Ft.All.stay HT.out (by repeat (first | (with_reducible first | exact HB.out | apply wA | apply wN | apply wD) | exact HB.out | (refine below_set ?_ (by assumption)) | (refine below_set ?_ (Aside0.out (by assumption)))))⟩).mono ?_); (case side1 => repeat (first | exact HR0.out | (with_reducible refine Kd.C_alloc ?_ _) | (with_reducible refine Kd.C_drewN ?_ _) | (with_reducible refine Kd.C_drew ?_))); (case side2 => exact HC0.out); rintro e w6 ⟨rfl, hb⟩; refine ⟨_, rfl, ?_⟩; have n0_ := ak (below_step (by repeat (first | (with_reducible first | exact HB.out | apply wA | apply wN | apply wD) | exact HB.out)) hb); clear HB; have HB := n0_; clear n0_; (try clear hb); (try clear hb2); (try clear hk); (try clear hi)))
  (try simp only [Act.put, List.setIfInBounds_toArray, List.set_cons_zero, List.set_cons_succ])
  go_cut [23] (fun v23 wc => ∃ (kq : Nat) (x23_4 : Bool), v23 = .bool x23_4 ∧ Aside0 (runes_Back.j0 kq l0 a1 x23_4 = some (r1, r2)) ∧ Aside0 (kq ≤ k) ∧ Aside0 (Below w.heap.size w wc))
  case first =>
   have H := HC5.out
   clear HC5
   by_cases c7 : a1 < 0
   ·rw [if_pos c7] at H
    have c7b0 : decide (a1 < 0) = true := decide_eq_true c7
    clear c7
    (first | rw [c7b0] | (simp only [i64_w, i32_w]; rw [c7b0]) | skip)
    have H' := ak H
    clear H
    go_wp2
    go_meet
    case rel => exact ⟨_, (true), (by first | rfl | (simp; done) | (simp [*]; done)), H', ⟨by first | omega | exact Nat.le_refl _⟩, ⟨by repeat (first | (with_reducible first | exact HB.out | apply wA | apply wN | apply wD) | exact HB.out)⟩⟩
   ·rw [if_neg c7] at H
    have c7b0 : decide (a1 < 0) = false := decide_eq_false c7
    clear c7
    (first | rw [c7b0] | (simp only [i64_w, i32_w]; rw [c7b0]) | skip)
    have H' := ak H
    clear H
    go_wp2
    go_meet
    case rel => exact ⟨_, (decide (a1 > (l0.length : Int))), (by first | rfl | (simp; done) | (simp [*]; done)), H', ⟨by first | omega | exact Nat.le_refl _⟩, ⟨by repeat (first | (with_reducible first | exact HB.out | apply wA | apply wN | apply wD) | exact HB.out)⟩⟩
  case rest =>
   clear HC5
   try clear p2
   try clear c4
   try clear c4b0
   try clear c4b1
   try clear c7
   try clear c7b0
   obtain ⟨kq, x23_4, rfl, HA, HJ4, HB⟩ := hcut
   cases kq with
   | zero => exact absurd HA.out (by simp [runes_Back.j0])
   | succ kj4 =>
    have H := HA.out
    clear HA
    simp only [runes_Back.j0] at H
    by_cases c8 : x23_4 = true
    ·subst c8
     have H1 : (some (0, 7)) = some (r1, r2) := by rw [if_pos rfl] at H; exact H
     clear H
     have H := H1
     clear H1
     simp only [Option.some.injEq, Prod.mk.injEq] at H
     obtain ⟨rfl, rfl⟩ := H
     go_wp2
     go_ret2
     exact ⟨by first | rfl | (simp [errW_none, errW_some] <;> rfl) | (simp [*, errW_none, errW_some] <;> rfl), by repeat (first | (with_reducible first | exact HB.out | apply wA | apply wN | apply wD) | exact HB.out)⟩
    ·replace c8 := Bool.eq_false_iff.mpr c8
     subst c8
     have H1 : (runes_Back.l0 kj4 l0 a1) = some (r1, r2) := by rw [if_neg (show ¬ (false = true) by decide)] at H; exact H
     clear H
     have H := H1
     clear H1
     have H' := ak H
     clear H
     go_wp2
     go_loopg [1] kj4 (fun kq v1 w' => ∃ (x1_2 : Int), v1 = .int .i64 x1_2 ∧ Aside0 (runes_Back.l0 kq l0 x1_2 = some (r1, r2)) ∧ Aside0 (kq ≤ kj4) ∧ Aside0 (Below w.heap.size w w'))
     case atStart => exact ⟨(a1), (by first | rfl | (simp; done) | (simp [*]; done)), H', ⟨Nat.le_refl _⟩, ⟨by repeat (first | (with_reducible first | exact HB.out | apply wA | apply wN | apply wD) | exact HB.out)⟩⟩
     case round =>
      clear H'
      try clear p2
      try clear c4
      try clear c4b0
      try clear c4b1
      try clear c7
      try clear c7b0
      try clear c8
      try clear p2
      obtain ⟨x1_2, rfl, HA, HK2, HB⟩ := hrel
      cases gk with
      | zero => exact absurd HA.out (by simp [runes_Back.l0])
      | succ k2 =>
       have H := HA.out
       clear HA
       simp only [runes_Back.l0] at H
       by_cases c9 : x1_2 < (l0.length : Int)
       ·rw [if_pos c9] at H
        have c9b0 : decide (x1_2 < (l0.length : Int)) = true := decide_eq_true c9
        clear c9
        by_cases c10 : x1_2 > 0
        ·rw [if_pos c10] at H
         have c10b0 : decide (0 < x1_2) = true := decide_eq_true c10
         clear c10
         by_cases c11 : 0 ≤ x1_2
         ·rw [if_pos c11] at H
          have c11b0 : decide (0 ≤ x1_2) = true := decide_eq_true c11
          clear c11
          replace H := Option.bind_eq_some_iff.mp H
          obtain ⟨t105, A120, H⟩ := H
          try dsimp only at H
          have A12 := ak A120
          clear A120
          by_cases c13 : t105 = true
          ·subst c13
           have H1 : (some (x1_2, 0)) = some (r1, r2) := by rw [if_pos rfl] at H; exact H
           clear H
           have H := H1
           clear H1
           simp only [Option.some.injEq, Prod.mk.injEq] at H
           obtain ⟨rfl, rfl⟩ := H
           have p104 : 0 ≤ (x1_2 : Int) := of_decide_eq_true (by first | (with_reducible assumption) | assumption)
           have q104 : x1_2 < (l0.length : Int) := of_decide_eq_true (by first | (with_reducible assumption) | assumption)
           obtain ⟨ad104, e104, hx104_0⟩ := Kd.at_int HR0.out x1_2 p104 q104
           cases e104
           replace hx104_0 := (HB.out.cell (World.block_lt_of_cell? w _ hx104_0)).trans hx104_0
           replace p104 := eq_true p104
           replace q104 := eq_true q104
           go_wp2_with (first | (go_at_call 80; (with_reducible refine (utf8_RuneStart.calls (rd l0 x1_2) true _ A12.out).mono ?_); rintro e w' ⟨rfl, ⟨nd, rfl⟩⟩))
           go_ret2
           exact ⟨by first | rfl | (simp [errW_none, errW_some] <;> rfl) | (simp [*, errW_none, errW_some] <;> rfl), by repeat (first | (with_reducible first | exact HB.out | apply wA | apply wN | apply wD) | exact HB.out)⟩
          ·replace c13 := Bool.eq_false_iff.mpr c13
           subst c13
           have H1 : (runes_Back.l0 k2 l0 (wrap64 (x1_2 - 1))) = some (r1, r2) := by rw [if_neg (show ¬ (false = true) by decide)] at H; exact H
           clear H
           have H := H1
           clear H1
           have H' := ak H
           clear H
           have p104 : 0 ≤ (x1_2 : Int) := of_decide_eq_true (by first | (with_reducible assumption) | assumption)
           have q104 : x1_2 < (l0.length : Int) := of_decide_eq_true (by first | (with_reducible assumption) | assumption)
           obtain ⟨ad104, e104, hx104_0⟩ := Kd.at_int HR0.out x1_2 p104 q104
           cases e104
           replace hx104_0 := (HB.out.cell (World.block_lt_of_cell? w _ hx104_0)).trans hx104_0
           replace p104 := eq_true p104
           replace q104 := eq_true q104
           go_wp2_with (first | (go_at_call 80; (with_reducible refine (utf8_RuneStart.calls (rd l0 x1_2) false _ A12.out).mono ?_); rintro e w' ⟨rfl, ⟨nd, rfl⟩⟩))
           go_roundg k2
           case measure => have := HJ4.out; have := HK2.out; omega
           case rel => exact ⟨(wrap64 (x1_2 - 1)), (by first | rfl | (simp; done) | (simp [*]; done)), H', ⟨by have := HJ4.out; have := HK2.out; omega⟩, ⟨by repeat (first | (with_reducible first | exact HB.out | apply wA | apply wN | apply wD) | exact HB.out)⟩⟩
         ·rw [if_neg c11] at H
          exact absurd H (by simp)
        ·rw [if_neg c10] at H
         have c10b0 : decide (0 < x1_2) = false := decide_eq_false c10
         clear c10
         simp only [Option.some.injEq, Prod.mk.injEq] at H
         obtain ⟨rfl, rfl⟩ := H
         go_wp2
         go_ret2
         exact ⟨by first | rfl | (simp [errW_none, errW_some] <;> rfl) | (simp [*, errW_none, errW_some] <;> rfl), by repeat (first | (with_reducible first | exact HB.out | apply wA | apply wN | apply wD) | exact HB.out)⟩
       ·rw [if_neg c9] at H
        have c9b0 : decide (x1_2 < (l0.length : Int)) = false := decide_eq_false c9
        clear c9
        simp only [Option.some.injEq, Prod.mk.injEq] at H
        obtain ⟨rfl, rfl⟩ := H
        go_wp2
        go_ret2
        exact ⟨by first | rfl | (simp [errW_none, errW_some] <;> rfl) | (simp [*, errW_none, errW_some] <;> rfl), by repeat (first | (with_reducible first | exact HB.out | apply wA | apply wN | apply wD) | exact HB.out)⟩
 ·rw [if_neg c4] at H
  have c4b0 : (t103 == 0) = false := beq_eq_false_iff_ne.mpr c4
  have c4b1 : (t103 != 0) = true := bne_iff_ne.mpr c4
  simp only [Option.some.injEq, Prod.mk.injEq] at H
  obtain ⟨rfl, rfl⟩ := H
  go_enter Tryz.func46, Tryz.ntmps46
  go_wp2_with (first | ((with_reducible refine gate_callee (f := 45) rfl ?_); refine goesL_ (some 10) rfl rfl Tryz.func45 (by kernel_rfl) rfl #[.slice A0 l0.length c0] rfl (by (try simp only [List.map_toArray, List.map_cons, List.map_nil]); first | done | rfl | (simp only [List.length_drop, List.length_take]; rfl)) ?_; (with_reducible refine (runes_Check.calls _ _ l0 t102 t103 _ ?side1 ?side2 A3.out ⟨Ft.All.stay HT.out (by repeat (first | (with_reducible first | exact HB.out | apply wA | apply wN | apply wD) | exact HB.out | (refine below_set ?_ (by assumption)) | (refine below_set ?_ (Aside0.out (by assumption)))))⟩).mono ?_); (case side1 => repeat (first | exact HR0.out | (with_reducible refine Kd.C_alloc ?_ _) | (with_reducible refine Kd.C_drewN ?_ _) | (with_reducible refine Kd.C_drew ?_))); (case side2 => exact HC0.out); rintro e w14 ⟨rfl, hb⟩; refine ⟨_, rfl, ?_⟩; have n0_ := ak (below_step (by repeat (first | (with_reducible first | exact HB.out | apply wA | apply wN | apply wD) | exact HB.out)) hb); clear HB; have HB := n0_; clear n0_; (try clear hb); (try clear hb2); (try clear hk); (try clear hi)))
  go_ret2
  exact ⟨by first | rfl | (simp [errW_none, errW_some] <;> rfl) | (simp [*, errW_none, errW_some] <;> rfl), by repeat (first | (with_reducible first | exact HB.out | apply wA | apply wN | apply wD) | exact HB.out)⟩
end Go.Proofs.YtdjkdlbokepoaaaGreatDoor.P
namespace Go.Proofs.YtdjkdlbokepoaaaGreatDoor.P
open Go.RowKit YtdjkdlbokepoaaaGreatDoorW.PrintWords YtdjkdlbokepoaaaGreatDoorW.PrintLast YtdjkdlbokepoaaaGreatDoorW.PrintMore
attribute [local go_sem] max2_int min2_int max_two min_two max_three min_three max_four min_four
set_option linter.unusedVariables false
set_option linter.unusedSimpArgs false
def runes_Runes.f (l0 : List Int) : Option (List Int × Int) := (Sc.goodRuns l0).map fun rs => (rs.map (fun x => ((x.2 : Nat) : Int)), 0)
theorem runes_Runes.calls (A0 : Option Addr) (c0 : Nat) (l0 : List Int) (r1 : List Int) (r2 : Int) (w : World) (hr0 : Kd.C (Kd.int .u8) w A0 l0.length l0) (hc0 : l0.length ≤ c0) (h : runes_Runes.f l0 = some (r1, r2)) (HT : Aside0 (Ft.All w)) :
  Calls Tryz.prog 81 #[.slice A0 l0.length c0] w fun e w' => ∃ v0_ : Value, e = .returned (.tuple #[v0_, .int .i64 r2]) ∧ Kd.R (Kd.int .i32) 21 w' w.heap.size (fun _ => True) v0_ r1 ∧ Below w.heap.size w w' := by
 unfold runes_Runes.f at h
 obtain ⟨rs, h1, h2⟩ := Option.map_eq_some_iff.mp h
 cases h2
 exact (Sc.runes_calls l0 A0 c0 rs w hr0 hc0 h1 HT.out.tab).mono fun e W' ⟨v, he, hrow, hb⟩ => ⟨v, he, Kd.R_of_own hrow (fun _ _ => trivial), hb⟩
def runes_Count.f (l0 : List Int) : Option (Int × Int) := (runes_Runes.f l0).bind fun bt106 => (some ((bt106.1.length : Int), bt106.2))
set_option maxHeartbeats 8000000 in
set_option maxRecDepth 100000 in
theorem runes_Count.calls (A0 : Option Addr) (c0 : Nat) (l0 : List Int) (r1 : Int) (r2 : Int) (w : World) (hr0 : Kd.C (Kd.int .u8) w A0 l0.length l0) (hc0 : l0.length ≤ c0) (h : runes_Count.f l0 = some (r1, r2)) (HT : Aside0 (Ft.All w)) :
  Calls Tryz.prog 47 #[.slice A0 l0.length c0] w fun e w' => e = .returned (.tuple #[.int .i64 r1, .int .i64 r2]) ∧ Below w.heap.size w w' := by
 have HR0 := ak hr0
 have HC0 := ak hc0
 clear hr0 hc0
 have HB := ak (Below.refl w.heap.size w)
 have H : ((runes_Runes.f l0).bind fun bt106 => (some ((bt106.1.length : Int), bt106.2))) = some (r1, r2) := h
 clear h
 replace H := Option.bind_eq_some_iff.mp H
 obtain ⟨⟨t106, t107⟩, A20, H⟩ := H
 replace H : (some ((t106.length : Int), t107)) = some (r1, r2) := H
 have A2 := ak A20
 clear A20
 simp only [Option.some.injEq, Prod.mk.injEq] at H
 obtain ⟨rfl, rfl⟩ := H
 go_enter Tryz.func47, Tryz.ntmps47
 go_wp2_with (first | ((with_reducible refine gate_callee (f := 81) rfl ?_); refine goesL_ (some 8) rfl rfl Tryz.func81 (by kernel_rfl) rfl #[.slice A0 l0.length c0] rfl (by (try simp only [List.map_toArray, List.map_cons, List.map_nil]); first | done | rfl | (simp only [List.length_drop, List.length_take]; rfl)) ?_; (with_reducible refine (runes_Runes.calls _ _ l0 t106 t107 _ ?side1 ?side2 A2.out ⟨Ft.All.stay HT.out (by repeat (first | (with_reducible first | exact HB.out | apply wA | apply wN | apply wD) | exact HB.out | (refine below_set ?_ (by assumption)) | (refine below_set ?_ (Aside0.out (by assumption)))))⟩).mono ?_); (case side1 => repeat (first | exact HR0.out | (with_reducible refine Kd.C_alloc ?_ _) | (with_reducible refine Kd.C_drewN ?_ _) | (with_reducible refine Kd.C_drew ?_))); (case side2 => exact HC0.out); rintro e w3 ⟨v108, rfl, ho0, hb⟩; refine ⟨_, rfl, ?_⟩; have n0_ := ak (Kd.R_lower ho0 (below_size (by repeat (first | (with_reducible first | exact HB.out | apply wA | apply wN | apply wD) | exact HB.out)))); have n1_ := ak (below_step (by repeat (first | (with_reducible first | exact HB.out | apply wA | apply wN | apply wD) | exact HB.out)) hb); clear HB; have HO109 := n0_; have HB := n1_; clear n0_ n1_; (try clear hb); (try clear hb2); (try clear hk); (try clear hi); (try clear ho0); obtain ⟨Ao4, co4, eo4⟩ := Kd.R_slice HO109.out; subst eo4))
 go_ret2
 exact ⟨by first | rfl | (simp [errW_none, errW_some] <;> rfl) | (simp [*, errW_none, errW_some] <;> rfl), by repeat (first | (with_reducible first | exact HB.out | apply wA | apply wN | apply wD) | exact HB.out)⟩
def bytealg_LastIndexByte.l0 : Nat → List Int → Int → Int → Option (Int)
 | 0, _, _, _ => none
 | k + 1, x0, x1, x5 => if x5 ≥ 0 then (if 0 ≤ x5 then (if x5 < (x0.length : Int) then (if (rd x0 x5) = x1 then (some x5) else (bytealg_LastIndexByte.l0 k x0 x1 (wrap64 (x5 - 1)))) else (none)) else (none)) else (some (-1))
def bytealg_LastIndexByte.f (k : Nat) (l0 : List Int) (a1 : Int) : Option (Int) := bytealg_LastIndexByte.l0 k l0 a1 (wrap64 ((l0.length : Int) - 1))
set_option maxHeartbeats 8000000 in
set_option maxRecDepth 100000 in
theorem bytealg_LastIndexByte.calls (k : Nat) (A0 : Option Addr) (c0 : Nat) (l0 : List Int) (a1 : Int) (r : Int) (w : World) (hr0 : Kd.C (Kd.int .u8) w A0 l0.length l0) (hc0 : l0.length ≤ c0) (h : bytealg_LastIndexByte.f k l0 a1 = some r) :
  Calls Tryz.prog 82 #[.slice A0 l0.length c0, .int .u8 a1] w fun e w' => e = .returned (.int .i64 r) ∧ Drawn0 w w' := by
 have HR0 := ak hr0
 have HC0 := ak hc0
 clear hr0 hc0
 have H : (bytealg_LastIndexByte.l0 k l0 a1 (wrap64 ((l0.length : Int) - 1))) = some r := h
 clear h
 have H' := ak H
 clear H
 go_enter Tryz.func82, Tryz.ntmps82
 go_wp2
 go_loopg [5] k (fun kq v5 w' => ∃ (x5_1 : Int), v5 = .int .i64 x5_1 ∧ Aside0 (bytealg_LastIndexByte.l0 kq l0 a1 x5_1 = some r) ∧ Aside0 (kq ≤ k) ∧ Drawn0 w w')
 case atStart => exact ⟨(wrap64 ((l0.length : Int) - 1)), (by first | rfl | (simp; done) | (simp [*]; done)), H', ⟨Nat.le_refl _⟩, by repeat (first | exact Drawn0.refl _ | apply Drawn0.step)⟩
 case round =>
  clear H'
  try clear p2
  obtain ⟨x5_1, rfl, HA, HK1, ⟨m1, rfl⟩⟩ := hrel
  cases gk with
  | zero => exact absurd HA.out (by simp [bytealg_LastIndexByte.l0])
  | succ k1 =>
   have H := HA.out
   clear HA
   simp only [bytealg_LastIndexByte.l0] at H
   by_cases c3 : x5_1 ≥ 0
   ·rw [if_pos c3] at H
    have c3b0 : decide (0 ≤ x5_1) = true := decide_eq_true c3
    clear c3
    by_cases c4 : 0 ≤ x5_1
    ·rw [if_pos c4] at H
     have c4b0 : decide (0 ≤ x5_1) = true := decide_eq_true c4
     clear c4
     by_cases c5 : x5_1 < (l0.length : Int)
     ·rw [if_pos c5] at H
      have c5b0 : decide (x5_1 < (l0.length : Int)) = true := decide_eq_true c5
      clear c5
      by_cases c6 : (rd l0 x5_1) = a1
      ·rw [if_pos c6] at H
       have c6b0 : ((rd l0 x5_1) == a1) = true := beq_iff_eq.mpr c6
       have c6b1 : ((rd l0 x5_1) != a1) = false := bne_eq_false_iff_eq.mpr c6
       clear c6
       obtain rfl := Option.some.inj H
       have p110 : 0 ≤ (x5_1 : Int) := of_decide_eq_true (by first | (with_reducible assumption) | assumption)
       have q110 : x5_1 < (l0.length : Int) := of_decide_eq_true (by first | (with_reducible assumption) | assumption)
       obtain ⟨ad110, e110, hx110_0⟩ := Kd.at_int HR0.out x5_1 p110 q110
       cases e110
       replace p110 := eq_true p110
       replace q110 := eq_true q110
       go_wp2
       go_ret
       exact ⟨by first | rfl | (simp; done) | (simp [*]; done), by repeat (first | exact Drawn0.refl _ | apply Drawn0.step)⟩
      ·rw [if_neg c6] at H
       have c6b0 : ((rd l0 x5_1) == a1) = false := beq_eq_false_iff_ne.mpr c6
       have c6b1 : ((rd l0 x5_1) != a1) = true := bne_iff_ne.mpr c6
       have H' := ak H
       clear H
       have p110 : 0 ≤ (x5_1 : Int) := of_decide_eq_true (by first | (with_reducible assumption) | assumption)
       have q110 : x5_1 < (l0.length : Int) := of_decide_eq_true (by first | (with_reducible assumption) | assumption)
       obtain ⟨ad110, e110, hx110_0⟩ := Kd.at_int HR0.out x5_1 p110 q110
       cases e110
       replace p110 := eq_true p110
       replace q110 := eq_true q110
       go_wp2
       go_roundg k1
       case measure => have := HK1.out; omega
       case rel => exact ⟨(wrap64 (x5_1 - 1)), (by first | rfl | (simp; done) | (simp [*]; done)), H', ⟨by have := HK1.out; omega⟩, by repeat (first | exact Drawn0.refl _ | apply Drawn0.step)⟩
     ·rw [if_neg c5] at H
      exact absurd H (by simp)
    ·rw [if_neg c4] at H
     exact absurd H (by simp)
   ·rw [if_neg c3] at H
    have c3b0 : decide (0 ≤ x5_1) = false := decide_eq_false c3
    clear c3
    obtain rfl := Option.some.inj H
    go_wp2
    go_ret
    exact ⟨by first | rfl | (simp; done) | (simp [*]; done), by repeat (first | exact Drawn0.refl _ | apply Drawn0.step)⟩
end Go.Proofs.YtdjkdlbokepoaaaGreatDoor.P
namespace Go.Proofs.YtdjkdlbokepoaaaGreatDoor.P
open Go.RowKit YtdjkdlbokepoaaaGreatDoorW.PrintWords YtdjkdlbokepoaaaGreatDoorW.PrintLast YtdjkdlbokepoaaaGreatDoorW.PrintMore
attribute [local go_sem] max2_int min2_int max_two min_two max_three min_three max_four min_four
set_option linter.unusedVariables false
set_option linter.unusedSimpArgs false
def bytes_LastIndexByte.f (k : Nat) (l0 : List Int) (a1 : Int) : Option (Int) := (bytealg_LastIndexByte.f k l0 a1).bind fun t111 => (some t111)
set_option maxHeartbeats 8000000 in
set_option maxRecDepth 100000 in
theorem bytes_LastIndexByte.calls (k : Nat) (A0 : Option Addr) (c0 : Nat) (l0 : List Int) (a1 : Int) (r : Int) (w : World) (hr0 : Kd.C (Kd.int .u8) w A0 l0.length l0) (hc0 : l0.length ≤ c0) (h : bytes_LastIndexByte.f k l0 a1 = some r) :
  Calls Tryz.prog 48 #[.slice A0 l0.length c0, .int .u8 a1] w fun e w' => e = .returned (.int .i64 r) ∧ Drawn0 w w' := by
 have HR0 := ak hr0
 have HC0 := ak hc0
 clear hr0 hc0
 have H : ((bytealg_LastIndexByte.f k l0 a1).bind fun t111 => (some t111)) = some r := h
 clear h
 replace H := Option.bind_eq_some_iff.mp H
 obtain ⟨t111, A30, H⟩ := H
 replace H : (some t111) = some r := H
 have A3 := ak A30
 clear A30
 obtain rfl := Option.some.inj H
 go_enter Tryz.func48, Tryz.ntmps48
 go_wp2_with (first | ((with_reducible refine gate_callee (f := 82) rfl ?_); refine goesL_ (some 7) rfl rfl Tryz.func82 (by kernel_rfl) rfl #[.slice A0 l0.length c0, .int .u8 a1] rfl (by (try simp only [List.map_toArray, List.map_cons, List.map_nil]); first | done | rfl | (simp only [List.length_drop, List.length_take]; rfl)) ?_; (with_reducible refine (bytealg_LastIndexByte.calls k _ _ l0 a1 t111 _ ?side1 ?side2 A3.out).mono ?_); (case side1 => repeat (first | exact HR0.out | (with_reducible refine Kd.C_alloc ?_ _) | (with_reducible refine Kd.C_drewN ?_ _) | (with_reducible refine Kd.C_drew ?_))); (case side2 => exact HC0.out); rintro e w' ⟨rfl, ⟨nd, rfl⟩⟩; refine ⟨_, rfl, ?_⟩))
 go_ret
 exact ⟨by first | rfl | (simp; done) | (simp [*]; done), by repeat (first | exact Drawn0.refl _ | apply Drawn0.step)⟩
def bytes_Count.f (l0 l1 : List Int) : Option Int := if Sc.InB l0 = true ∧ l1 = [10] ∧ l0.length ≤ 1000000 then some (Lib.countByte (Lib.bytesOf l0) 10 : Nat) else none
theorem bytes_Count.calls (A0 : Option Addr) (c0 : Nat) (l0 : List Int) (A1 : Option Addr) (c1 : Nat) (l1 : List Int) (r : Int) (w : World) (hr0 : Kd.C (Kd.int .u8) w A0 l0.length l0) (hc0 : l0.length ≤ c0) (hr1 : Kd.C (Kd.int .u8) w A1 l1.length l1) (hc1 : l1.length ≤ c1) (h : bytes_Count.f l0 l1 = some r) :
  Calls Tryz.prog 49 #[.slice A0 l0.length c0, .slice A1 l1.length c1] w fun e w' => e = .returned (.int .i64 r) ∧ Below w.heap.size w w' := by
 unfold bytes_Count.f at h
 by_cases hs : Sc.InB l0 = true ∧ l1 = [10] ∧ l0.length ≤ 1000000
 ·rw [if_pos hs] at h
  obtain rfl := Option.some.inj h
  obtain ⟨hI, rfl, hl⟩ := hs
  exact Ft.count_calls A0 c0 l0 A1 c1 w hr0 hr1
 ·rw [if_neg hs] at h; cases h
end Go.Proofs.YtdjkdlbokepoaaaGreatDoor.P
namespace Go.Proofs.YtdjkdlbokepoaaaGreatDoor.P
open Go.RowKit YtdjkdlbokepoaaaGreatDoorW.PrintWords YtdjkdlbokepoaaaGreatDoorW.PrintLast YtdjkdlbokepoaaaGreatDoorW.PrintMore
attribute [local go_sem] max2_int min2_int max_two min_two max_three min_three max_four min_four
set_option linter.unusedVariables false
set_option linter.unusedSimpArgs false
def faults_Place.j0 : Nat → List Int → Int → Bool → Option (Int × Int × Int)
 | 0, _, _, _ => none
 | k + 1, x0, x1, x26 => if x26 = true then (some (0, 0, 7)) else ((runes_Back.f k x0 x1).bind fun bt114 => (if bt114.2 = 0 then (if 0 ≤ bt114.1 then (if bt114.1 ≤ (x0.length : Int) then ((bytes_LastIndexByte.f k (x0.take (bt114.1 : Int).toNat) 10).bind fun t117 => (if 0 ≤ (wrap64 (t117 + 1)) then (if (wrap64 (t117 + 1)) ≤ ((x0.take (bt114.1 : Int).toNat).length : Int) then ((runes_Count.f ((x0.take (bt114.1 : Int).toNat).drop ((wrap64 (t117 + 1)) : Int).toNat)).bind fun bt119 => ((bytes_Count.f (x0.take (bt114.1 : Int).toNat) (([10] : List Int))).bind fun t124 => (some (wrap64 (t124 + 1), wrap64 (bt119.1 + 1), bt119.2)))) else (none)) else (none))) else (none)) else (none)) else (some (0, 0, bt114.2))))
def faults_Place.f (k : Nat) (l0 : List Int) (a1 : Int) : Option (Int × Int × Int) := (runes_Check.f l0).bind fun bt112 => (if bt112.2 = 0 then (if a1 < 0 then (faults_Place.j0 k l0 a1 true) else (faults_Place.j0 k l0 a1 (decide (a1 > (l0.length : Int))))) else (some (0, 0, bt112.2)))
set_option maxHeartbeats 8000000 in
set_option maxRecDepth 100000 in
theorem faults_Place.calls (k : Nat) (A0 : Option Addr) (c0 : Nat) (l0 : List Int) (a1 : Int) (r1 : Int) (r2 : Int) (r3 : Int) (w : World) (hr0 : Kd.C (Kd.int .u8) w A0 l0.length l0) (hc0 : l0.length ≤ c0) (h : faults_Place.f k l0 a1 = some (r1, r2, r3)) (HT : Aside0 (Ft.All w)) :
  Calls Tryz.prog 15 #[.slice A0 l0.length c0, .int .i64 a1] w fun e w' => e = .returned (.tuple #[.int .i64 r1, .int .i64 r2, .int .i64 r3]) ∧ Below w.heap.size w w' := by
 have HR0 := ak hr0
 have HC0 := ak hc0
 clear hr0 hc0
 have HB := ak (Below.refl w.heap.size w)
 have H : ((runes_Check.f l0).bind fun bt112 => (if bt112.2 = 0 then (if a1 < 0 then (faults_Place.j0 k l0 a1 true) else (faults_Place.j0 k l0 a1 (decide (a1 > (l0.length : Int))))) else (some (0, 0, bt112.2)))) = some (r1, r2, r3) := h
 clear h
 replace H := Option.bind_eq_some_iff.mp H
 obtain ⟨⟨t112, t113⟩, A30, H⟩ := H
 try dsimp only at H
 have A3 := ak A30
 clear A30
 by_cases c4 : t113 = 0
 ·rw [if_pos c4] at H
  have c4b0 : (t113 == 0) = true := beq_iff_eq.mpr c4
  have c4b1 : (t113 != 0) = false := bne_eq_false_iff_eq.mpr c4
  clear c4
  have HC5 := ak H
  clear H
  go_enter Tryz.func15, Tryz.ntmps15
  go_upto_region 4 with (first | ((with_reducible refine gate_callee (f := 45) rfl ?_); refine goesL_ (some 13) rfl rfl Tryz.func45 (by kernel_rfl) rfl #[.slice A0 l0.length c0] rfl (by (try simp only [List.map_toArray, List.map_cons, List.map_nil]); first | done | rfl | (simp only [List.length_drop, List.length_take]; rfl)) ?_; (with_reducible refine (runes_Check.calls _ _ l0 t112 t113 _ ?side1 ?side2 A3.out ⟨Ft.All.stay HT.out (by repeat (first | (with_reducible first | exact HB.out | apply wA | apply wN | apply wD) | exact HB.out | (refine below_set ?_ (by assumption)) | (refine below_set ?_ (Aside0.out (by assumption)))))⟩).mono ?_); (case side1 => repeat (first | exact HR0.out | (with_reducible refine Kd.C_alloc ?_ _) | (with_reducible refine Kd.C_drewN ?_ _) | (with_reducible refine Kd.C_drew ?_))); (case side2 => exact HC0.out); rintro e w6 ⟨rfl, hb⟩; refine ⟨_, rfl, ?_⟩; have n0_ := ak (below_step (by repeat (first | (with_reducible first | exact HB.out | apply wA | apply wN | apply wD) | exact HB.out)) hb); clear HB; have HB := n0_; clear n0_; (try clear hb); (try clear hb2); (try clear hk); (try clear hi)))
  (try simp only [Act.put, List.setIfInBounds_toArray, List.set_cons_zero, List.set_cons_succ])
  go_cut [26] (fun v26 wc => ∃ (kq : Nat) (x26_4 : Bool), v26 = .bool x26_4 ∧ Aside0 (faults_Place.j0 kq l0 a1 x26_4 = some (r1, r2, r3)) ∧ Aside0 (kq ≤ k) ∧ Aside0 (Below w.heap.size w wc))
  case first =>
   have H := HC5.out
   clear HC5
   by_cases c7 : a1 < 0
   ·rw [if_pos c7] at H
    have c7b0 : decide (a1 < 0) = true := decide_eq_true c7
    clear c7
    (first | rw [c7b0] | (simp only [i64_w, i32_w]; rw [c7b0]) | skip)
    have H' := ak H
    clear H
    go_wp2
    go_meet
    case rel => exact ⟨_, (true), (by first | rfl | (simp; done) | (simp [*]; done)), H', ⟨by first | omega | exact Nat.le_refl _⟩, ⟨by repeat (first | (with_reducible first | exact HB.out | apply wA | apply wN | apply wD) | exact HB.out)⟩⟩
   ·rw [if_neg c7] at H
    have c7b0 : decide (a1 < 0) = false := decide_eq_false c7
    clear c7
    (first | rw [c7b0] | (simp only [i64_w, i32_w]; rw [c7b0]) | skip)
    have H' := ak H
    clear H
    go_wp2
    go_meet
    case rel => exact ⟨_, (decide (a1 > (l0.length : Int))), (by first | rfl | (simp; done) | (simp [*]; done)), H', ⟨by first | omega | exact Nat.le_refl _⟩, ⟨by repeat (first | (with_reducible first | exact HB.out | apply wA | apply wN | apply wD) | exact HB.out)⟩⟩
  case rest =>
   clear HC5
   try clear c1
   try clear p2
   try clear c4
   try clear c4b0
   try clear c4b1
   try clear c7
   try clear c7b0
   obtain ⟨kq, x26_4, rfl, HA, HJ4, HB⟩ := hcut
   cases kq with
   | zero => exact absurd HA.out (by simp [faults_Place.j0])
   | succ kj4 =>
    have H := HA.out
    clear HA
    simp only [faults_Place.j0] at H
    by_cases c8 : x26_4 = true
    ·subst c8
     have H1 : (some (0, 0, 7)) = some (r1, r2, r3) := by rw [if_pos rfl] at H; exact H
     clear H
     have H := H1
     clear H1
     simp only [Option.some.injEq, Prod.mk.injEq] at H
     obtain ⟨rfl, rfl, rfl⟩ := H
     go_wp2
     go_ret3
     exact ⟨by first | rfl | (simp [errW_none, errW_some] <;> rfl) | (simp [*, errW_none, errW_some] <;> rfl), by repeat (first | (with_reducible first | exact HB.out | apply wA | apply wN | apply wD) | exact HB.out)⟩
    ·replace c8 := Bool.eq_false_iff.mpr c8
     subst c8
     have H1 : ((runes_Back.f kj4 l0 a1).bind fun bt114 => (if bt114.2 = 0 then (if 0 ≤ bt114.1 then (if bt114.1 ≤ (l0.length : Int) then ((bytes_LastIndexByte.f kj4 (l0.take (bt114.1 : Int).toNat) 10).bind fun t117 => (if 0 ≤ (wrap64 (t117 + 1)) then (if (wrap64 (t117 + 1)) ≤ ((l0.take (bt114.1 : Int).toNat).length : Int) then ((runes_Count.f ((l0.take (bt114.1 : Int).toNat).drop ((wrap64 (t117 + 1)) : Int).toNat)).bind fun bt119 => ((bytes_Count.f (l0.take (bt114.1 : Int).toNat) (([10] : List Int))).bind fun t124 => (some (wrap64 (t124 + 1), wrap64 (bt119.1 + 1), bt119.2)))) else (none)) else (none))) else (none)) else (none)) else (some (0, 0, bt114.2)))) = some (r1, r2, r3) := by rw [if_neg (show ¬ (false = true) by decide)] at H; exact H
     clear H
     have H := H1
     clear H1
     replace H := Option.bind_eq_some_iff.mp H
     obtain ⟨⟨t114, t115⟩, A90, H⟩ := H
     try dsimp only at H
     have A9 := ak A90
     clear A90
     by_cases c10 : t115 = 0
     ·rw [if_pos c10] at H
      have c10b0 : (t115 == 0) = true := beq_iff_eq.mpr c10
      have c10b1 : (t115 != 0) = false := bne_eq_false_iff_eq.mpr c10
      clear c10
      by_cases c11 : 0 ≤ t114
      ·rw [if_pos c11] at H
       have c11b0 := eq_true c11
       have c11b1 : decide (0 ≤ t114) = true := decide_eq_true c11
       clear c11
       by_cases c12 : t114 ≤ (l0.length : Int)
       ·rw [if_pos c12] at H
        have c12b0 := eq_true c12
        have c12b1 : decide (t114 ≤ (l0.length : Int)) = true := decide_eq_true c12
        clear c12
        replace H := Option.bind_eq_some_iff.mp H
        obtain ⟨t117, A130, H⟩ := H
        try dsimp only at H
        have A13 := ak A130
        clear A130
        obtain ⟨ji14, hji14⟩ : ∃ j_ : Int, (wrap64 (t117 + 1)) = j_ := ⟨_, rfl⟩
        replace H : (if 0 ≤ (ji14) then (if (ji14) ≤ ((l0.take (t114 : Int).toNat).length : Int) then ((runes_Count.f ((l0.take (t114 : Int).toNat).drop ((ji14) : Int).toNat)).bind fun bt119 => ((bytes_Count.f (l0.take (t114 : Int).toNat) (([10] : List Int))).bind fun t124 => (some (wrap64 (t124 + 1), wrap64 (bt119.1 + 1), bt119.2)))) else (none)) else (none)) = some (r1, r2, r3) := by first | (rw [hji14] at H; exact H) | (simp only [hji14] at H ⊢; exact H)
        (try rw [hji14] at A9)
        (try rw [hji14] at A13)
        have hji14w : (IntKind.i64.wrap (t117 + 1)) = ji14 := (i64_w _).trans hji14
        by_cases c15 : 0 ≤ (ji14)
        ·rw [if_pos c15] at H
         have c15b0 := eq_true c15
         have c15b1 : decide (0 ≤ (ji14)) = true := decide_eq_true c15
         clear c15
         by_cases c16 : (ji14) ≤ ((l0.take (t114 : Int).toNat).length : Int)
         ·rw [if_pos c16] at H
          have c16b0 := eq_true c16
          have c16b1 : decide ((ji14) ≤ ((l0.take (t114 : Int).toNat).length : Int)) = true := decide_eq_true c16
          clear c16
          replace H := Option.bind_eq_some_iff.mp H
          obtain ⟨⟨t119, t120⟩, A170, H⟩ := H
          try dsimp only at H
          have A17 := ak A170
          clear A170
          obtain ⟨y121, hy121⟩ : ∃ y_ : List Int, y_ = (([10] : List Int)) := ⟨_, rfl⟩
          replace H : ((bytes_Count.f (l0.take (t114 : Int).toNat) y121).bind fun t124 => (some (wrap64 (t124 + 1), wrap64 (t119 + 1), t120))) = some (r1, r2, r3) := by first | (rw [hy121]; with_reducible exact H) | (have H2_ := (Option.bind_some _ _).symm.trans H; rw [hy121]; with_reducible exact H2_) | (have H2_ := (Option.bind_some _ _).symm.trans H; with_reducible exact H2_) | with_reducible exact H | (rw [hy121]; exact H) | exact H
          have Ny121 := ak hy121
          clear hy121
          replace H := Option.bind_eq_some_iff.mp H
          obtain ⟨t124, A180, H⟩ := H
          replace H : (some (wrap64 (t124 + 1), wrap64 (t119 + 1), t120)) = some (r1, r2, r3) := H
          have A18 := ak A180
          clear A180
          simp only [Option.some.injEq, Prod.mk.injEq] at H
          obtain ⟨rfl, rfl, rfl⟩ := H
          go_wp2_with (first | ((with_reducible refine gate_callee (f := 46) rfl ?_); refine goesL_ (some 30) rfl rfl Tryz.func46 (by kernel_rfl) rfl #[.slice A0 l0.length c0, .int .i64 a1] rfl (by (try simp only [List.map_toArray, List.map_cons, List.map_nil]); first | done | rfl | (simp only [List.length_drop, List.length_take]; rfl)) ?_; (with_reducible refine (runes_Back.calls kj4 _ _ l0 a1 t114 t115 _ ?side1 ?side2 A9.out ⟨Ft.All.stay HT.out (by repeat (first | (with_reducible first | exact HB.out | apply wA | apply wN | apply wD) | exact HB.out | (refine below_set ?_ (by assumption)) | (refine below_set ?_ (Aside0.out (by assumption)))))⟩).mono ?_); (case side1 => repeat (first | exact (Kd.C_below HR0.out HB.out) | (with_reducible refine Kd.C_alloc ?_ _) | (with_reducible refine Kd.C_drewN ?_ _) | (with_reducible refine Kd.C_drew ?_))); (case side2 => exact HC0.out); rintro e w19 ⟨rfl, hb⟩; refine ⟨_, rfl, ?_⟩; have n0_ := ak (below_step (by repeat (first | (with_reducible first | exact HB.out | apply wA | apply wN | apply wD) | exact HB.out)) hb); clear HB; have HB := n0_; clear n0_; (try clear hb); (try clear hb2); (try clear hk); (try clear hi); obtain ⟨i020, hi020, _, hsz20, _⟩ := info_parts info5; obtain ⟨hcut20, hA20, hC20⟩ := print_take_of (P := Tryz.prog) (Value.int .u8) 0 29 5 .i64 Tryz.underlying29 hi020 hsz20 A0 c0 l0 t114 (of_decide_eq_true (by first | (with_reducible assumption) | assumption)) (of_decide_eq_true (by first | (with_reducible assumption) | assumption)) HC0.out; have HR116 := ak (Kd.C_of_reads (h1 := fun _ => rfl) (hA20 _ (Kd.reads_of_C HR0.out))); have HC116 := ak hC20; clear hA20 hC20 hi020 hsz20) | ((with_reducible refine gate_callee (f := 48) rfl ?_); refine goesL_ (some 42) rfl rfl Tryz.func48 (by kernel_rfl) rfl #[.slice A0 (l0.take (t114 : Int).toNat).length c0, .int .u8 10] rfl (by (try simp only [List.map_toArray, List.map_cons, List.map_nil]); first | done | (rw [show (l0.take (t114 : Int).toNat).length = t114.toNat from (by rw [List.length_take]; have h_ : (t114 : Int) ≤ (l0.length : Int) := of_decide_eq_true (by first | (with_reducible assumption) | assumption); omega)] <;> rfl) | rfl | (simp only [List.length_drop, List.length_take]; rfl)) ?_; (with_reducible refine (bytes_LastIndexByte.calls kj4 _ _ (l0.take (t114 : Int).toNat) 10 t117 _ ?side1 ?side2 A13.out).mono ?_); (case side1 => repeat (first | exact (Kd.C_below HR116.out HB.out) | (with_reducible refine Kd.C_alloc ?_ _) | (with_reducible refine Kd.C_drewN ?_ _) | (with_reducible refine Kd.C_drew ?_))); (case side2 => exact HC116.out); rintro e w' ⟨rfl, ⟨nd, rfl⟩⟩; refine ⟨_, rfl, ?_⟩; obtain ⟨i021, hi021, _, hsz21, _⟩ := info_parts info5; obtain ⟨A21, hcut21, hA21, hC21⟩ := print_drop_of (P := Tryz.prog) (Value.int .u8) 0 29 5 .i64 Tryz.underlying29 hi021 hsz21 A0 c0 (l0.take (t114 : Int).toNat) (ji14) (of_decide_eq_true (by first | (with_reducible assumption) | assumption)) (of_decide_eq_true (by first | (with_reducible assumption) | assumption)) HC116.out; rw [show (l0.take (t114 : Int).toNat).length = t114.toNat from (by rw [List.length_take]; have h_ : (t114 : Int) ≤ (l0.length : Int) := of_decide_eq_true (by first | (with_reducible assumption) | assumption); omega)] at hcut21; have HR118 := ak (Kd.C_of_reads (h1 := fun _ => rfl) (hA21 _ (Kd.reads_of_C HR116.out))); have HC118 := ak hC21; clear hA21 hC21 hi021 hsz21) | ((with_reducible refine gate_callee (f := 47) rfl ?_); refine goesL_ (some 45) rfl rfl Tryz.func47 (by kernel_rfl) rfl #[.slice A21 ((l0.take (t114 : Int).toNat).drop ((ji14) : Int).toNat).length (c0 - (ji14).toNat)] rfl (by (try simp only [List.map_toArray, List.map_cons, List.map_nil]); first | done | (rw [List.length_drop, show (l0.take (t114 : Int).toNat).length = t114.toNat from (by rw [List.length_take]; have h_ : (t114 : Int) ≤ (l0.length : Int) := of_decide_eq_true (by first | (with_reducible assumption) | assumption); omega)] <;> rfl) | (rw [show ((l0.take (t114 : Int).toNat).drop ((ji14) : Int).toNat).length = ((l0.take (t114 : Int).toNat).length - (ji14).toNat) from List.length_drop] <;> rfl) | (simp only [hji14]; rfl) | rfl | (simp only [List.length_drop, List.length_take]; rfl)) ?_; (with_reducible refine (runes_Count.calls _ _ ((l0.take (t114 : Int).toNat).drop ((ji14) : Int).toNat) t119 t120 _ ?side1 ?side2 A17.out ⟨Ft.All.stay HT.out (by repeat (first | (with_reducible first | exact HB.out | apply wA | apply wN | apply wD) | exact HB.out | (refine below_set ?_ (by assumption)) | (refine below_set ?_ (Aside0.out (by assumption)))))⟩).mono ?_); (case side1 => repeat (first | exact (Kd.C_below HR118.out (by repeat (first | (with_reducible first | exact HB.out | apply wA | apply wN | apply wD) | exact HB.out))) | (with_reducible refine Kd.C_alloc ?_ _) | (with_reducible refine Kd.C_drewN ?_ _) | (with_reducible refine Kd.C_drew ?_))); (case side2 => exact HC118.out); rintro e w22 ⟨rfl, hb⟩; refine ⟨_, rfl, ?_⟩; have n0_ := ak (below_step (by repeat (first | (with_reducible first | exact HB.out | apply wA | apply wN | apply wD) | exact HB.out)) hb); clear HB; have HB := n0_; clear n0_; (try clear hb); (try clear hb2); (try clear hk); (try clear hi)) | ((with_reducible refine gate_dst (N := 49) rfl ?_); (try (refine gate_guard (by rfl) ?_; dsimp only)); refine Kd.R_lit (Kd.int .u8) _ 5 ?hg (N := 49) ?hd (xs := ([10] : List Int)) (inner := [.int .u8 10]) (ok := fun _ => True) (okp := fun _ => True) ?hr ?hp (fun _ hk => hk) trivial (Below.refl _ _) (Nat.le_refl _) (by simp) ?_; (case hd => rfl); (case hg => rfl); (case hr => first | (go_simp; done) | (go_simp; rfl)); (case hp => exact (Reps.one (show Kd.M (Kd.int .u8) _ _ _ 10 [.int .u8 10] from rfl) (Reps.none _ _))); intro v122 w23 ho24 hb hg_ hnew_; clear hg_ hnew_; (first | rw [← Ny121.out] at ho24 | (simp only [Int.reduceToNat] at ho24; rw [← Ny121.out] at ho24)); have n0_ := ak (Kd.R_lower ho24 (below_size (by repeat (first | (with_reducible first | exact HB.out | apply wA | apply wN | apply wD) | exact HB.out)))); have n1_ := ak (below_step (by repeat (first | (with_reducible first | exact HB.out | apply wA | apply wN | apply wD) | exact HB.out)) hb); clear HB; have HO123 := n0_; have HB := n1_; clear n0_ n1_; clear hb ho24; obtain ⟨Ao25, co25, eo25⟩ := Kd.R_slice HO123.out; subst eo25) | ((with_reducible refine gate_callee (f := 49) rfl ?_); refine goesL_ (some 50) rfl rfl Tryz.func49 (by kernel_rfl) rfl #[.slice A0 (l0.take (t114 : Int).toNat).length c0, .slice Ao25 y121.length co25] rfl (by (try simp only [List.map_toArray, List.map_cons, List.map_nil]); first | done | (rw [show (l0.take (t114 : Int).toNat).length = t114.toNat from (by rw [List.length_take]; have h_ : (t114 : Int) ≤ (l0.length : Int) := of_decide_eq_true (by first | (with_reducible assumption) | assumption); omega)] <;> rfl) | rfl | (simp only [List.length_drop, List.length_take]; rfl)) ?_; (with_reducible refine (bytes_Count.calls _ _ (l0.take (t114 : Int).toNat) _ _ y121 t124 _ ?side1 ?side2 ?side3 ?side4 A18.out).mono ?_); (case side1 => repeat (first | exact (Kd.C_below HR116.out HB.out) | (with_reducible refine Kd.C_alloc ?_ _) | (with_reducible refine Kd.C_drewN ?_ _) | (with_reducible refine Kd.C_drew ?_))); (case side2 => exact HC116.out); (case side3 => repeat (first | exact (Kd.R_reads' HO123.out).2.2 | (with_reducible refine Kd.C_alloc ?_ _) | (with_reducible refine Kd.C_drewN ?_ _) | (with_reducible refine Kd.C_drew ?_))); (case side4 => exact (Kd.R_reads' HO123.out).2.1); rintro e w26 ⟨rfl, hb⟩; refine ⟨_, rfl, ?_⟩; have n0_ := ak (Kd.R_below (by (with_reducible repeat (first | apply Kd.R_alloc | apply Kd.R_drewN | apply Kd.R_drew)); exact HO123.out) hb); have n1_ := ak (below_step (by repeat (first | (with_reducible first | exact HB.out | apply wA | apply wN | apply wD) | exact HB.out)) hb); clear HO123; clear HB; have HO123 := n0_; have HB := n1_; clear n0_ n1_; (try clear hb); (try clear hb2); (try clear hk); (try clear hi)))
          go_ret3
          exact ⟨by first | rfl | (simp [errW_none, errW_some] <;> rfl) | (simp only [← hji14]; first | rfl | (simp [errW_none, errW_some] <;> rfl)) | (simp [*, errW_none, errW_some] <;> rfl), by repeat (first | (with_reducible first | exact HB.out | apply wA | apply wN | apply wD) | exact HB.out)⟩
         ·rw [if_neg c16] at H
          exact absurd H (by simp)
        ·rw [if_neg c15] at H
         exact absurd H (by simp)
       ·rw [if_neg c12] at H
        exact absurd H (by simp)
      ·rw [if_neg c11] at H
       exact absurd H (by simp)
     ·rw [if_neg c10] at H
      have c10b0 : (t115 == 0) = false := beq_eq_false_iff_ne.mpr c10
      have c10b1 : (t115 != 0) = true := bne_iff_ne.mpr c10
      simp only [Option.some.injEq, Prod.mk.injEq] at H
      obtain ⟨rfl, rfl, rfl⟩ := H
      go_wp2_with (first | ((with_reducible refine gate_callee (f := 46) rfl ?_); refine goesL_ (some 30) rfl rfl Tryz.func46 (by kernel_rfl) rfl #[.slice A0 l0.length c0, .int .i64 a1] rfl (by (try simp only [List.map_toArray, List.map_cons, List.map_nil]); first | done | rfl | (simp only [List.length_drop, List.length_take]; rfl)) ?_; (with_reducible refine (runes_Back.calls kj4 _ _ l0 a1 t114 t115 _ ?side1 ?side2 A9.out ⟨Ft.All.stay HT.out (by repeat (first | (with_reducible first | exact HB.out | apply wA | apply wN | apply wD) | exact HB.out | (refine below_set ?_ (by assumption)) | (refine below_set ?_ (Aside0.out (by assumption)))))⟩).mono ?_); (case side1 => repeat (first | exact (Kd.C_below HR0.out HB.out) | (with_reducible refine Kd.C_alloc ?_ _) | (with_reducible refine Kd.C_drewN ?_ _) | (with_reducible refine Kd.C_drew ?_))); (case side2 => exact HC0.out); rintro e w27 ⟨rfl, hb⟩; refine ⟨_, rfl, ?_⟩; have n0_ := ak (below_step (by repeat (first | (with_reducible first | exact HB.out | apply wA | apply wN | apply wD) | exact HB.out)) hb); clear HB; have HB := n0_; clear n0_; (try clear hb); (try clear hb2); (try clear hk); (try clear hi)))
      go_ret3
      exact ⟨by first | rfl | (simp [errW_none, errW_some] <;> rfl) | (simp [*, errW_none, errW_some] <;> rfl), by repeat (first | (with_reducible first | exact HB.out | apply wA | apply wN | apply wD) | exact HB.out)⟩
 ·rw [if_neg c4] at H
  have c4b0 : (t113 == 0) = false := beq_eq_false_iff_ne.mpr c4
  have c4b1 : (t113 != 0) = true := bne_iff_ne.mpr c4
  simp only [Option.some.injEq, Prod.mk.injEq] at H
  obtain ⟨rfl, rfl, rfl⟩ := H
  go_enter Tryz.func15, Tryz.ntmps15
  go_wp2_with (first | ((with_reducible refine gate_callee (f := 45) rfl ?_); refine goesL_ (some 13) rfl rfl Tryz.func45 (by kernel_rfl) rfl #[.slice A0 l0.length c0] rfl (by (try simp only [List.map_toArray, List.map_cons, List.map_nil]); first | done | rfl | (simp only [List.length_drop, List.length_take]; rfl)) ?_; (with_reducible refine (runes_Check.calls _ _ l0 t112 t113 _ ?side1 ?side2 A3.out ⟨Ft.All.stay HT.out (by repeat (first | (with_reducible first | exact HB.out | apply wA | apply wN | apply wD) | exact HB.out | (refine below_set ?_ (by assumption)) | (refine below_set ?_ (Aside0.out (by assumption)))))⟩).mono ?_); (case side1 => repeat (first | exact HR0.out | (with_reducible refine Kd.C_alloc ?_ _) | (with_reducible refine Kd.C_drewN ?_ _) | (with_reducible refine Kd.C_drew ?_))); (case side2 => exact HC0.out); rintro e w28 ⟨rfl, hb⟩; refine ⟨_, rfl, ?_⟩; have n0_ := ak (below_step (by repeat (first | (with_reducible first | exact HB.out | apply wA | apply wN | apply wD) | exact HB.out)) hb); clear HB; have HB := n0_; clear n0_; (try clear hb); (try clear hb2); (try clear hk); (try clear hi)))
  go_ret3
  exact ⟨by first | rfl | (simp [errW_none, errW_some] <;> rfl) | (simp [*, errW_none, errW_some] <;> rfl), by repeat (first | (with_reducible first | exact HB.out | apply wA | apply wN | apply wD) | exact HB.out)⟩
end Go.Proofs.YtdjkdlbokepoaaaGreatDoor.P
namespace Go.Proofs.YtdjkdlbokepoaaaGreatDoor.P
open Go.RowKit YtdjkdlbokepoaaaGreatDoorW.PrintWords YtdjkdlbokepoaaaGreatDoorW.PrintLast YtdjkdlbokepoaaaGreatDoorW.PrintMore
attribute [local go_sem] max2_int min2_int max_two min_two max_three min_three max_four min_four
set_option linter.unusedVariables false
set_option linter.unusedSimpArgs false
def strconv_Itoa_54.f (a0 : Int) : Option ByteArray := if 0 ≤ a0 ∧ a0 ≤ 1000000000 then some ⟨(Lib.itoa a0).toArray⟩ else none
theorem strconv_Itoa_54.calls (a0 : Int) (r : ByteArray) (w : World) (h : strconv_Itoa_54.f a0 = some r) (HT : Aside0 (Ft.All w)) :
  Calls Tryz.prog 54 #[.int .i64 a0] w fun e w' => e = .returned (.string r) ∧ Below w.heap.size w w' := by
 unfold strconv_Itoa_54.f at h
 by_cases hs : 0 ≤ a0 ∧ a0 ≤ 1000000000
 ·rw [if_pos hs] at h
  obtain rfl := Option.some.inj h
  exact Ft.itoa_calls a0 hs.1 hs.2 w HT.out.pow
 ·rw [if_neg hs] at h; cases h
def errPre : ByteArray := ⟨#[101, 114, 114, 111, 114, 32]⟩
def faults_Word.f (a0 : Int) : Option (ByteArray × Int) := if a0 < 1 ∨ 999 < a0 then some (⟨#[]⟩, 2) else (if a0 < 22 then (Ft.codesL[a0.toNat]?).map (fun s => (s, 0)) else (strconv_Itoa_54.f a0).bind (fun s => if s.size ≤ 1000 then some (errPre ++ s, 0) else none))
set_option maxHeartbeats 1000000 in
set_option maxRecDepth 100000 in
theorem faults_Word.calls (a0 : Int) (r1 : ByteArray) (r2 : Int) (w : World) (h : faults_Word.f a0 = some (r1, r2)) (HT : Aside0 (Ft.All w)) :
  Calls Tryz.prog 17 #[.int .i64 a0] w fun e w' => e = .returned (.tuple #[.string r1, .int .i64 r2]) ∧ Below w.heap.size w w' := by
 unfold faults_Word.f at h
 by_cases h1 : a0 < 1
 ·rw [if_pos (.inl h1)] at h
  cases h
  have b1 : decide (a0 < 1) = true := decide_eq_true h1
  go_enter Tryz.func17, Tryz.ntmps17
  go_wp2
  go_ret2
  exact ⟨rfl, Below.refl _ _⟩
 have b1 : decide (a0 < 1) = false := decide_eq_false h1
 by_cases h2 : 999 < a0
 ·rw [if_pos (.inr h2)] at h
  cases h
  have b2 : decide (999 < a0) = true := decide_eq_true h2
  go_enter Tryz.func17, Tryz.ntmps17
  go_wp2
  go_ret2
  exact ⟨rfl, Below.refl _ _⟩
 rw [if_neg (by omega)] at h
 have b2 : decide (999 < a0) = false := decide_eq_false h2
 by_cases h3 : a0 < 22
 ·rw [if_pos h3] at h
  obtain ⟨s, hs, he⟩ := Option.map_eq_some_iff.1 h
  cases he
  have b3 : decide (a0 < 22) = true := decide_eq_true h3
  have hc := HT.out.codes _ _ hs
  have g0 : (0 : Int) ≤ a0 := by omega
  go_enter Tryz.func17, Tryz.ntmps17
  go_wp2
  go_ret2
  exact ⟨rfl, Below.refl _ _⟩
 ·rw [if_neg h3] at h
  obtain ⟨s, hs, h⟩ := Option.bind_eq_some_iff.1 h
  by_cases hz : s.size ≤ 1000
  case neg => rw [if_neg hz] at h; cases h
  rw [if_pos hz] at h
  cases h
  have b3 : decide (a0 < 22) = false := decide_eq_false h3
  have HS := ak hs
  have b4 : ¬ 9223372036854775807 < s.size + 6 := by omega
  have b5 : ¬ 9223372036854775807 < 6 + s.size := by omega
  clear hs
  go_enter Tryz.func17, Tryz.ntmps17
  go_wp2_with (go_at_call 54; refine ( strconv_Itoa_54.calls a0 s w HS.out HT).mono ?_; rintro e w1 ⟨rfl, hb⟩)
  go_ret2
  exact ⟨rfl, hb⟩
def faults_Pass.f (a0 : Int) : Option (ByteArray × Int) := if a0 < 1 ∨ 9 ≤ a0 then some (⟨#[]⟩, 2) else (Ft.passesL[a0.toNat]?).map (fun s => (s, 0))
set_option maxHeartbeats 1000000 in
set_option maxRecDepth 100000 in
theorem faults_Pass.calls (a0 : Int) (r1 : ByteArray) (r2 : Int) (w : World) (h : faults_Pass.f a0 = some (r1, r2)) (HT : Aside0 (Ft.All w)) :
  Calls Tryz.prog 19 #[.int .i64 a0] w fun e w' => e = .returned (.tuple #[.string r1, .int .i64 r2]) ∧ Below w.heap.size w w' := by
 unfold faults_Pass.f at h
 by_cases h1 : a0 < 1
 ·rw [if_pos (.inl h1)] at h
  cases h
  have b1 : decide (a0 < 1) = true := decide_eq_true h1
  go_enter Tryz.func19, Tryz.ntmps19
  go_wp2
  go_ret2
  exact ⟨rfl, Below.refl _ _⟩
 have b1 : decide (a0 < 1) = false := decide_eq_false h1
 by_cases h2 : 9 ≤ a0
 ·rw [if_pos (.inr h2)] at h
  cases h
  have b2 : decide (9 ≤ a0) = true := decide_eq_true h2
  go_enter Tryz.func19, Tryz.ntmps19
  go_wp2
  go_ret2
  exact ⟨rfl, Below.refl _ _⟩
 rw [if_neg (by omega)] at h
 have b2 : decide (9 ≤ a0) = false := decide_eq_false h2
 obtain ⟨s, hs, he⟩ := Option.map_eq_some_iff.1 h
 cases he
 have hc := HT.out.passes _ _ hs
 have g0 : (0 : Int) ≤ a0 := by omega
 go_enter Tryz.func19, Tryz.ntmps19
 go_wp2
 go_ret2
 exact ⟨rfl, Below.refl _ _⟩
end Go.Proofs.YtdjkdlbokepoaaaGreatDoor.P
namespace Go.Proofs.YtdjkdlbokepoaaaGreatDoor.P
open Go.RowKit YtdjkdlbokepoaaaGreatDoorW.PrintWords YtdjkdlbokepoaaaGreatDoorW.PrintLast YtdjkdlbokepoaaaGreatDoorW.PrintMore
attribute [local go_sem] max2_int min2_int max_two min_two max_three min_three max_four min_four
set_option linter.unusedVariables false
set_option linter.unusedSimpArgs false
def faults_Message.f (k : Nat) (l0 : List Int) (a1_0 : Int) (a1_1 : Int) (a1_2 : Int) (a1_3 : Int) (a1_4 : ByteArray) (a1_5 : Int) : Option (ByteArray × Int) := (faults_Place.f k l0 0).bind fun bt136 => (if bt136.2.2 = 0 then ((faults_Check.f k (l0.length : Int) (([(⟨a1_0, a1_1, (⟨a1_2, a1_3⟩ : S39), a1_4, (-1)⟩ : S41)] : List (S41)))).bind fun bt142 => (if bt142.2 = 0 then ((faults_Place.f k l0 a1_2).bind fun bt144 => ((faults_Pass.f a1_1).bind fun bt147 => ((faults_Word.f a1_0).bind fun bt149 => ((strconv_Itoa_54.f bt144.1).bind fun t151 => (if t151.size + 1 ≤ 9223372036854775807 then ((strconv_Itoa_54.f bt144.2.1).bind fun t152 => (if (t151 ++ (⟨#[58]⟩ : ByteArray)).size + t152.size ≤ 9223372036854775807 then (if ((t151 ++ (⟨#[58]⟩ : ByteArray)) ++ t152).size + 2 ≤ 9223372036854775807 then (if (((t151 ++ (⟨#[58]⟩ : ByteArray)) ++ t152) ++ (⟨#[58, 32]⟩ : ByteArray)).size + bt147.1.size ≤ 9223372036854775807 then (if ((((t151 ++ (⟨#[58]⟩ : ByteArray)) ++ t152) ++ (⟨#[58, 32]⟩ : ByteArray)) ++ bt147.1).size + 2 ≤ 9223372036854775807 then (if (((((t151 ++ (⟨#[58]⟩ : ByteArray)) ++ t152) ++ (⟨#[58, 32]⟩ : ByteArray)) ++ bt147.1) ++ (⟨#[58, 32]⟩ : ByteArray)).size + bt149.1.size ≤ 9223372036854775807 then (if a1_4.toList = ([] : List UInt8) then (some ((((((t151 ++ (⟨#[58]⟩ : ByteArray)) ++ t152) ++ (⟨#[58, 32]⟩ : ByteArray)) ++ bt147.1) ++ (⟨#[58, 32]⟩ : ByteArray)) ++ bt149.1, 0)) else (if 1 + a1_4.size ≤ 9223372036854775807 then (if ((((((t151 ++ (⟨#[58]⟩ : ByteArray)) ++ t152) ++ (⟨#[58, 32]⟩ : ByteArray)) ++ bt147.1) ++ (⟨#[58, 32]⟩ : ByteArray)) ++ bt149.1).size + ((⟨#[32]⟩ : ByteArray) ++ a1_4).size ≤ 9223372036854775807 then (some (((((((t151 ++ (⟨#[58]⟩ : ByteArray)) ++ t152) ++ (⟨#[58, 32]⟩ : ByteArray)) ++ bt147.1) ++ (⟨#[58, 32]⟩ : ByteArray)) ++ bt149.1) ++ ((⟨#[32]⟩ : ByteArray) ++ a1_4), 0)) else (none)) else (none))) else (none)) else (none)) else (none)) else (none)) else (none))) else (none)))))) else (some ((⟨#[]⟩ : ByteArray), bt142.2)))) else (some ((⟨#[]⟩ : ByteArray), bt136.2.2)))
set_option maxHeartbeats 8000000 in
set_option maxRecDepth 100000 in
theorem faults_Message.calls (k : Nat) (A0 : Option Addr) (c0 : Nat) (l0 : List Int) (a1_0 : Int) (a1_1 : Int) (a1_2 : Int) (a1_3 : Int) (a1_4 : ByteArray) (a1_5 : Int) (r1 : ByteArray) (r2 : Int) (w : World) (hr0 : Kd.C (Kd.int .u8) w A0 l0.length l0) (hc0 : l0.length ≤ c0) (h : faults_Message.f k l0 a1_0 a1_1 a1_2 a1_3 a1_4 a1_5 = some (r1, r2)) (HT : Aside0 (Ft.All w)) :
  Calls Tryz.prog 23 #[.slice A0 l0.length c0, .agg #[.int .i64 a1_0, .int .i64 a1_1, .int .i64 a1_2, .int .i64 a1_3, .string a1_4, .int .i64 a1_5]] w fun e w' => e = .returned (.tuple #[.string r1, .int .i64 r2]) ∧ Below w.heap.size w w' := by
 have hu41 := Tryz.underlying41
 have HR0 := ak hr0
 have HC0 := ak hc0
 clear hr0 hc0
 have HB := ak (Below.refl w.heap.size w)
 have H : ((faults_Place.f k l0 0).bind fun bt136 => (if bt136.2.2 = 0 then ((faults_Check.f k (l0.length : Int) (([(⟨a1_0, a1_1, (⟨a1_2, a1_3⟩ : S39), a1_4, (-1)⟩ : S41)] : List (S41)))).bind fun bt142 => (if bt142.2 = 0 then ((faults_Place.f k l0 a1_2).bind fun bt144 => ((faults_Pass.f a1_1).bind fun bt147 => ((faults_Word.f a1_0).bind fun bt149 => ((strconv_Itoa_54.f bt144.1).bind fun t151 => (if t151.size + 1 ≤ 9223372036854775807 then ((strconv_Itoa_54.f bt144.2.1).bind fun t152 => (if (t151 ++ (⟨#[58]⟩ : ByteArray)).size + t152.size ≤ 9223372036854775807 then (if ((t151 ++ (⟨#[58]⟩ : ByteArray)) ++ t152).size + 2 ≤ 9223372036854775807 then (if (((t151 ++ (⟨#[58]⟩ : ByteArray)) ++ t152) ++ (⟨#[58, 32]⟩ : ByteArray)).size + bt147.1.size ≤ 9223372036854775807 then (if ((((t151 ++ (⟨#[58]⟩ : ByteArray)) ++ t152) ++ (⟨#[58, 32]⟩ : ByteArray)) ++ bt147.1).size + 2 ≤ 9223372036854775807 then (if (((((t151 ++ (⟨#[58]⟩ : ByteArray)) ++ t152) ++ (⟨#[58, 32]⟩ : ByteArray)) ++ bt147.1) ++ (⟨#[58, 32]⟩ : ByteArray)).size + bt149.1.size ≤ 9223372036854775807 then (if a1_4.toList = ([] : List UInt8) then (some ((((((t151 ++ (⟨#[58]⟩ : ByteArray)) ++ t152) ++ (⟨#[58, 32]⟩ : ByteArray)) ++ bt147.1) ++ (⟨#[58, 32]⟩ : ByteArray)) ++ bt149.1, 0)) else (if 1 + a1_4.size ≤ 9223372036854775807 then (if ((((((t151 ++ (⟨#[58]⟩ : ByteArray)) ++ t152) ++ (⟨#[58, 32]⟩ : ByteArray)) ++ bt147.1) ++ (⟨#[58, 32]⟩ : ByteArray)) ++ bt149.1).size + ((⟨#[32]⟩ : ByteArray) ++ a1_4).size ≤ 9223372036854775807 then (some (((((((t151 ++ (⟨#[58]⟩ : ByteArray)) ++ t152) ++ (⟨#[58, 32]⟩ : ByteArray)) ++ bt147.1) ++ (⟨#[58, 32]⟩ : ByteArray)) ++ bt149.1) ++ ((⟨#[32]⟩ : ByteArray) ++ a1_4), 0)) else (none)) else (none))) else (none)) else (none)) else (none)) else (none)) else (none))) else (none)))))) else (some ((⟨#[]⟩ : ByteArray), bt142.2)))) else (some ((⟨#[]⟩ : ByteArray), bt136.2.2)))) = some (r1, r2) := h
 clear h
 replace H := Option.bind_eq_some_iff.mp H
 obtain ⟨⟨t136, t137, t138⟩, A30, H⟩ := H
 try dsimp only at H
 have A3 := ak A30
 clear A30
 by_cases c4 : t138 = 0
 ·rw [if_pos c4] at H
  have c4b0 : (t138 == 0) = true := beq_iff_eq.mpr c4
  have c4b1 : (t138 != 0) = false := bne_eq_false_iff_eq.mpr c4
  clear c4
  obtain ⟨y139, hy139⟩ : ∃ y_ : List (S41), y_ = (([(⟨a1_0, a1_1, (⟨a1_2, a1_3⟩ : S39), a1_4, (-1)⟩ : S41)] : List (S41))) := ⟨_, rfl⟩
  replace H : ((faults_Check.f k (l0.length : Int) y139).bind fun bt142 => (if bt142.2 = 0 then ((faults_Place.f k l0 a1_2).bind fun bt144 => ((faults_Pass.f a1_1).bind fun bt147 => ((faults_Word.f a1_0).bind fun bt149 => ((strconv_Itoa_54.f bt144.1).bind fun t151 => (if t151.size + 1 ≤ 9223372036854775807 then ((strconv_Itoa_54.f bt144.2.1).bind fun t152 => (if (t151 ++ (⟨#[58]⟩ : ByteArray)).size + t152.size ≤ 9223372036854775807 then (if ((t151 ++ (⟨#[58]⟩ : ByteArray)) ++ t152).size + 2 ≤ 9223372036854775807 then (if (((t151 ++ (⟨#[58]⟩ : ByteArray)) ++ t152) ++ (⟨#[58, 32]⟩ : ByteArray)).size + bt147.1.size ≤ 9223372036854775807 then (if ((((t151 ++ (⟨#[58]⟩ : ByteArray)) ++ t152) ++ (⟨#[58, 32]⟩ : ByteArray)) ++ bt147.1).size + 2 ≤ 9223372036854775807 then (if (((((t151 ++ (⟨#[58]⟩ : ByteArray)) ++ t152) ++ (⟨#[58, 32]⟩ : ByteArray)) ++ bt147.1) ++ (⟨#[58, 32]⟩ : ByteArray)).size + bt149.1.size ≤ 9223372036854775807 then (if a1_4.toList = ([] : List UInt8) then (some ((((((t151 ++ (⟨#[58]⟩ : ByteArray)) ++ t152) ++ (⟨#[58, 32]⟩ : ByteArray)) ++ bt147.1) ++ (⟨#[58, 32]⟩ : ByteArray)) ++ bt149.1, 0)) else (if 1 + a1_4.size ≤ 9223372036854775807 then (if ((((((t151 ++ (⟨#[58]⟩ : ByteArray)) ++ t152) ++ (⟨#[58, 32]⟩ : ByteArray)) ++ bt147.1) ++ (⟨#[58, 32]⟩ : ByteArray)) ++ bt149.1).size + ((⟨#[32]⟩ : ByteArray) ++ a1_4).size ≤ 9223372036854775807 then (some (((((((t151 ++ (⟨#[58]⟩ : ByteArray)) ++ t152) ++ (⟨#[58, 32]⟩ : ByteArray)) ++ bt147.1) ++ (⟨#[58, 32]⟩ : ByteArray)) ++ bt149.1) ++ ((⟨#[32]⟩ : ByteArray) ++ a1_4), 0)) else (none)) else (none))) else (none)) else (none)) else (none)) else (none)) else (none))) else (none)))))) else (some ((⟨#[]⟩ : ByteArray), bt142.2)))) = some (r1, r2) := by first | (rw [hy139]; with_reducible exact H) | (have H2_ := (Option.bind_some _ _).symm.trans H; rw [hy139]; with_reducible exact H2_) | (have H2_ := (Option.bind_some _ _).symm.trans H; with_reducible exact H2_) | with_reducible exact H | (rw [hy139]; exact H) | exact H
  have Ny139 := ak hy139
  clear hy139
  replace H := Option.bind_eq_some_iff.mp H
  obtain ⟨⟨t142, t143⟩, A50, H⟩ := H
  try dsimp only at H
  have A5 := ak A50
  clear A50
  by_cases c6 : t143 = 0
  ·rw [if_pos c6] at H
   have c6b0 : (t143 == 0) = true := beq_iff_eq.mpr c6
   have c6b1 : (t143 != 0) = false := bne_eq_false_iff_eq.mpr c6
   clear c6
   replace H := Option.bind_eq_some_iff.mp H
   obtain ⟨⟨t144, t145, t146⟩, A70, H⟩ := H
   try dsimp only at H
   have A7 := ak A70
   clear A70
   replace H := Option.bind_eq_some_iff.mp H
   obtain ⟨⟨t147, t148⟩, A80, H⟩ := H
   try dsimp only at H
   have A8 := ak A80
   clear A80
   replace H := Option.bind_eq_some_iff.mp H
   obtain ⟨⟨t149, t150⟩, A90, H⟩ := H
   try dsimp only at H
   have A9 := ak A90
   clear A90
   replace H := Option.bind_eq_some_iff.mp H
   obtain ⟨t151, A100, H⟩ := H
   try dsimp only at H
   have A10 := ak A100
   clear A100
   by_cases c11 : t151.size + 1 ≤ 9223372036854775807
   ·rw [if_pos c11] at H
    have c11b0 := eq_true c11
    have c11b1 : decide (t151.size + 1 ≤ 9223372036854775807) = true := decide_eq_true c11
    try have c11b2 : (9223372036854775807 < t151.size + 1) = False := eq_false (Nat.not_lt.2 c11)
    replace H := Option.bind_eq_some_iff.mp H
    obtain ⟨t152, A120, H⟩ := H
    try dsimp only at H
    have A12 := ak A120
    clear A120
    by_cases c13 : (t151 ++ (⟨#[58]⟩ : ByteArray)).size + t152.size ≤ 9223372036854775807
    ·rw [if_pos c13] at H
     have c13b0 := eq_true c13
     have c13b1 : decide ((t151 ++ (⟨#[58]⟩ : ByteArray)).size + t152.size ≤ 9223372036854775807) = true := decide_eq_true c13
     try have c13b2 : (9223372036854775807 < (t151 ++ (⟨#[58]⟩ : ByteArray)).size + t152.size) = False := eq_false (Nat.not_lt.2 c13)
     try have c13b7 : (9223372036854775807 < t151.size + 1 + t152.size) = False := by have h7_ := c13; simp only [ByteArray.size_append] at h7_; exact eq_false (Nat.not_lt.2 h7_)
     by_cases c14 : ((t151 ++ (⟨#[58]⟩ : ByteArray)) ++ t152).size + 2 ≤ 9223372036854775807
     ·rw [if_pos c14] at H
      have c14b0 := eq_true c14
      have c14b1 : decide (((t151 ++ (⟨#[58]⟩ : ByteArray)) ++ t152).size + 2 ≤ 9223372036854775807) = true := decide_eq_true c14
      try have c14b2 : (9223372036854775807 < ((t151 ++ (⟨#[58]⟩ : ByteArray)) ++ t152).size + 2) = False := eq_false (Nat.not_lt.2 c14)
      try have c14b7 : (9223372036854775807 < t151.size + 1 + t152.size + 2) = False := by have h7_ := c14; simp only [ByteArray.size_append] at h7_; exact eq_false (Nat.not_lt.2 h7_)
      by_cases c15 : (((t151 ++ (⟨#[58]⟩ : ByteArray)) ++ t152) ++ (⟨#[58, 32]⟩ : ByteArray)).size + t147.size ≤ 9223372036854775807
      ·rw [if_pos c15] at H
       have c15b0 := eq_true c15
       have c15b1 : decide ((((t151 ++ (⟨#[58]⟩ : ByteArray)) ++ t152) ++ (⟨#[58, 32]⟩ : ByteArray)).size + t147.size ≤ 9223372036854775807) = true := decide_eq_true c15
       try have c15b2 : (9223372036854775807 < (((t151 ++ (⟨#[58]⟩ : ByteArray)) ++ t152) ++ (⟨#[58, 32]⟩ : ByteArray)).size + t147.size) = False := eq_false (Nat.not_lt.2 c15)
       try have c15b7 : (9223372036854775807 < t151.size + 1 + t152.size + 2 + t147.size) = False := by have h7_ := c15; simp only [ByteArray.size_append] at h7_; exact eq_false (Nat.not_lt.2 h7_)
       by_cases c16 : ((((t151 ++ (⟨#[58]⟩ : ByteArray)) ++ t152) ++ (⟨#[58, 32]⟩ : ByteArray)) ++ t147).size + 2 ≤ 9223372036854775807
       ·rw [if_pos c16] at H
        have c16b0 := eq_true c16
        have c16b1 : decide (((((t151 ++ (⟨#[58]⟩ : ByteArray)) ++ t152) ++ (⟨#[58, 32]⟩ : ByteArray)) ++ t147).size + 2 ≤ 9223372036854775807) = true := decide_eq_true c16
        try have c16b2 : (9223372036854775807 < ((((t151 ++ (⟨#[58]⟩ : ByteArray)) ++ t152) ++ (⟨#[58, 32]⟩ : ByteArray)) ++ t147).size + 2) = False := eq_false (Nat.not_lt.2 c16)
        try have c16b7 : (9223372036854775807 < t151.size + 1 + t152.size + 2 + t147.size + 2) = False := by have h7_ := c16; simp only [ByteArray.size_append] at h7_; exact eq_false (Nat.not_lt.2 h7_)
        by_cases c17 : (((((t151 ++ (⟨#[58]⟩ : ByteArray)) ++ t152) ++ (⟨#[58, 32]⟩ : ByteArray)) ++ t147) ++ (⟨#[58, 32]⟩ : ByteArray)).size + t149.size ≤ 9223372036854775807
        ·rw [if_pos c17] at H
         have c17b0 := eq_true c17
         have c17b1 : decide ((((((t151 ++ (⟨#[58]⟩ : ByteArray)) ++ t152) ++ (⟨#[58, 32]⟩ : ByteArray)) ++ t147) ++ (⟨#[58, 32]⟩ : ByteArray)).size + t149.size ≤ 9223372036854775807) = true := decide_eq_true c17
         try have c17b2 : (9223372036854775807 < (((((t151 ++ (⟨#[58]⟩ : ByteArray)) ++ t152) ++ (⟨#[58, 32]⟩ : ByteArray)) ++ t147) ++ (⟨#[58, 32]⟩ : ByteArray)).size + t149.size) = False := eq_false (Nat.not_lt.2 c17)
         try have c17b7 : (9223372036854775807 < t151.size + 1 + t152.size + 2 + t147.size + 2 + t149.size) = False := by have h7_ := c17; simp only [ByteArray.size_append] at h7_; exact eq_false (Nat.not_lt.2 h7_)
         by_cases c18 : a1_4.toList = ([] : List UInt8)
         ·rw [if_pos c18] at H
          have c18b0 : (a1_4.toList == ([] : List UInt8)) = true := beq_iff_eq.mpr c18
          have c18b1 : (a1_4.toList != ([] : List UInt8)) = false := bne_eq_false_iff_eq.mpr c18
          clear c18
          simp only [Option.some.injEq, Prod.mk.injEq] at H
          obtain ⟨rfl, rfl⟩ := H
          go_enter Tryz.func23, Tryz.ntmps23
          go_wp2_with (first | ((with_reducible refine gate_dst (N := 3) rfl ?_); refine box_event ?hg (N := 3) ?hd (cs := #[.int .i64 a1_0, .int .i64 a1_1, .int .i64 a1_2, .int .i64 a1_3, .string a1_4, .int .i64 a1_5]) (t := 41) ?hr ?_; (case hd => rfl); (case hg => rfl); (case hr => first | (go_simp; done) | (go_simp; rfl)); intro gb135 hg w19 hbox hb; have n0_ := ak (below_step (by repeat (first | (with_reducible first | exact HB.out | apply wA | apply wN | apply wD) | exact HB.out)) hb); have n1_ := ak (hbox); have n2_ := ak ((by rw [hg]; exact (below_size (by repeat (first | (with_reducible first | exact HB.out | apply wA | apply wN | apply wD) | exact HB.out))) : w.heap.size ≤ gb135)); have n3_ := ak ((by rw [hg]; exact (below_size (by repeat (first | (with_reducible first | exact HB.out | apply wA | apply wN | apply wD) | exact HB.out))) : w.heap.size ≤ gb135)); clear HB; have HB := n0_; have BK135 := n1_; have GW135 := n2_; have GE135 := n3_; clear n0_ n1_ n2_ n3_; clear hb hbox hg) | ((with_reducible refine gate_callee (f := 15) rfl ?_); refine goesL_ (some 18) rfl rfl Tryz.func15 (by kernel_rfl) rfl #[.slice A0 l0.length c0, .int .i64 0] rfl (by (try simp only [List.map_toArray, List.map_cons, List.map_nil]); first | done | rfl | (simp only [List.length_drop, List.length_take]; rfl)) ?_; (with_reducible refine (faults_Place.calls k _ _ l0 0 t136 t137 t138 _ ?side1 ?side2 A3.out ⟨Ft.All.stay HT.out (by repeat (first | (with_reducible first | exact HB.out | apply wA | apply wN | apply wD) | exact HB.out | (refine below_set ?_ (by assumption)) | (refine below_set ?_ (Aside0.out (by assumption)))))⟩).mono ?_); (case side1 => repeat (first | exact (Kd.C_below HR0.out HB.out) | (with_reducible refine Kd.C_alloc ?_ _) | (with_reducible refine Kd.C_drewN ?_ _) | (with_reducible refine Kd.C_drew ?_))); (case side2 => exact HC0.out); rintro e w20 ⟨rfl, hb⟩; refine ⟨_, rfl, ?_⟩; have n0_ := ak (blk_below (g := gb135) (o := .cells #[.int .i64 a1_0, .int .i64 a1_1, .int .i64 a1_2, .int .i64 a1_3, .string a1_4, .int .i64 a1_5] 41 (0, 0)) (by (with_reducible repeat (first | refine bN ?_ _ | refine bD ?_ | refine bA ?_ _)); exact BK135.out) hb); have n1_ := ak (below_step (by repeat (first | (with_reducible first | exact HB.out | apply wA | apply wN | apply wD | refine below_set ?_ GE135.out) | exact HB.out)) hb); clear BK135; clear HB; have BK135 := n0_; have HB := n1_; clear n0_ n1_; (try clear hb); (try clear hb2); (try clear hk); (try clear hi); have hcz21_0 : w20.cell? ⟨gb135, 0, none⟩ = some (.int .i64 a1_0) := (blk_cell BK135.out 0).trans rfl; have hcz21_1 : w20.cell? ⟨gb135, 1, none⟩ = some (.int .i64 a1_1) := (blk_cell BK135.out 1).trans rfl; have hcz21_2 : w20.cell? ⟨gb135, 2, none⟩ = some (.int .i64 a1_2) := (blk_cell BK135.out 2).trans rfl; have hcz21_3 : w20.cell? ⟨gb135, 3, none⟩ = some (.int .i64 a1_3) := (blk_cell BK135.out 3).trans rfl; have hcz21_4 : w20.cell? ⟨gb135, 4, none⟩ = some (.string a1_4) := (blk_cell BK135.out 4).trans rfl; have hcz21_5 : w20.cell? ⟨gb135, 5, none⟩ = some (.int .i64 a1_5) := (blk_cell BK135.out 5).trans rfl; have hfz21_0 := blk_frozen BK135.out 0; have hfz21_1 := blk_frozen BK135.out 1; have hfz21_2 := blk_frozen BK135.out 2; have hfz21_3 := blk_frozen BK135.out 3; have hfz21_4 := blk_frozen BK135.out 4; have hfz21_5 := blk_frozen BK135.out 5) | ((with_reducible refine gate_dst (N := 30) rfl ?_); refine Kd.R_lit k41 _ 41 ?hg (N := 30) ?hd (xs := ([(⟨a1_0, a1_1, (⟨a1_2, a1_3⟩ : S39), a1_4, (-1)⟩ : S41)] : List (S41))) (inner := [.int .i64 a1_0, .int .i64 a1_1, .int .i64 a1_2, .int .i64 a1_3, .string a1_4, .int .i64 (-1)]) (ok := fun _ => True) (okp := fun _ => True) ?hr ?hp (fun _ hk => hk) trivial (Below.refl _ _) (Nat.le_refl _) (by simp) ?_; (case hd => rfl); (case hg => rfl); (case hr => first | (go_simp; done) | (go_simp; rfl)); (case hp => exact (Reps.c6 (show Kd.M k41 _ _ _ (⟨a1_0, a1_1, (⟨a1_2, a1_3⟩ : S39), a1_4, (-1)⟩ : S41) [.int .i64 a1_0, .int .i64 a1_1, .int .i64 a1_2, .int .i64 a1_3, .string a1_4, .int .i64 (-1)] from (k41_mkM _ _ _ (⟨a1_0, a1_1, (⟨a1_2, a1_3⟩ : S39), a1_4, (-1)⟩ : S41) )) (Reps.none _ _))); intro v140 w22 ho23 hb hg_ hnew_; clear hg_ hnew_; (first | rw [← Ny139.out] at ho23 | (simp only [Int.reduceToNat] at ho23; rw [← Ny139.out] at ho23)); have n0_ := ak (Kd.R_lower (Kd.R_newB ho23 (g := gb135) (o := .cells #[.int .i64 a1_0, .int .i64 a1_1, .int .i64 a1_2, .int .i64 a1_3, .string a1_4, .int .i64 (-1)] 41 (0, 0)) (by (with_reducible repeat (first | refine bN ?_ _ | refine bD ?_ | refine bA ?_ _)); refine blk_put (cs := #[.int .i64 a1_0, .int .i64 a1_1, .int .i64 a1_2, .int .i64 a1_3, .string a1_4, .int .i64 a1_5]) ?_ 5 _ rfl; (with_reducible repeat (first | refine bN ?_ _ | refine bD ?_ | refine bA ?_ _)); exact BK135.out)) (below_size (by repeat (first | (with_reducible first | exact HB.out | apply wA | apply wN | apply wD | refine below_set ?_ GE135.out) | exact HB.out)))); have n1_ := ak (blk_below (g := gb135) (o := .cells #[.int .i64 a1_0, .int .i64 a1_1, .int .i64 a1_2, .int .i64 a1_3, .string a1_4, .int .i64 (-1)] 41 (0, 0)) (by (with_reducible repeat (first | refine bN ?_ _ | refine bD ?_ | refine bA ?_ _)); refine blk_put (cs := #[.int .i64 a1_0, .int .i64 a1_1, .int .i64 a1_2, .int .i64 a1_3, .string a1_4, .int .i64 a1_5]) ?_ 5 _ rfl; (with_reducible repeat (first | refine bN ?_ _ | refine bD ?_ | refine bA ?_ _)); exact BK135.out) hb); have n2_ := ak (below_step (by repeat (first | (with_reducible first | exact HB.out | apply wA | apply wN | apply wD | refine below_set ?_ GE135.out) | exact HB.out)) hb); clear BK135; clear HB; have HO141 := n0_; have BK135 := n1_; have HB := n2_; clear n0_ n1_ n2_; clear hb ho23; obtain ⟨Ao24, co24, eo24⟩ := Kd.R_slice HO141.out; subst eo24) | ((with_reducible refine gate_callee (f := 13) rfl ?_); refine goesL_ (some 31) rfl rfl Tryz.func13 (by kernel_rfl) rfl #[.int .i64 (l0.length : Int), .slice Ao24 y139.length co24] rfl (by (try simp only [List.map_toArray, List.map_cons, List.map_nil]); first | done | rfl | (simp only [List.length_drop, List.length_take]; rfl)) ?_; (with_reducible refine (faults_Check.calls k (l0.length : Int) _ _ y139 t142 t143 _ ?side1 ?side2 A5.out ⟨Ft.All.stay HT.out (by repeat (first | (with_reducible first | exact HB.out | apply wA | apply wN | apply wD) | exact HB.out | (refine below_set ?_ (by assumption)) | (refine below_set ?_ (Aside0.out (by assumption)))))⟩).mono ?_); (case side1 => repeat (first | exact (Kd.R_reads' HO141.out).2.2 | (with_reducible refine Kd.C_alloc ?_ _) | (with_reducible refine Kd.C_drewN ?_ _) | (with_reducible refine Kd.C_drew ?_))); (case side2 => exact (Kd.R_reads' HO141.out).2.1); rintro e w25 ⟨rfl, hb⟩; refine ⟨_, rfl, ?_⟩; have n0_ := ak (Kd.R_below (by (with_reducible repeat (first | apply Kd.R_alloc | apply Kd.R_drewN | apply Kd.R_drew)); exact HO141.out) hb); have n1_ := ak (blk_below (g := gb135) (o := .cells #[.int .i64 a1_0, .int .i64 a1_1, .int .i64 a1_2, .int .i64 a1_3, .string a1_4, .int .i64 (-1)] 41 (0, 0)) (by (with_reducible repeat (first | refine bN ?_ _ | refine bD ?_ | refine bA ?_ _)); exact BK135.out) hb); have n2_ := ak (below_step (by repeat (first | (with_reducible first | exact HB.out | apply wA | apply wN | apply wD | refine below_set ?_ GE135.out) | exact HB.out)) hb); clear HO141; clear BK135; clear HB; have HO141 := n0_; have BK135 := n1_; have HB := n2_; clear n0_ n1_ n2_; (try clear hb); (try clear hb2); (try clear hk); (try clear hi); have hcz26_0 : w25.cell? ⟨gb135, 0, none⟩ = some (.int .i64 a1_0) := (blk_cell BK135.out 0).trans rfl; have hcz26_1 : w25.cell? ⟨gb135, 1, none⟩ = some (.int .i64 a1_1) := (blk_cell BK135.out 1).trans rfl; have hcz26_2 : w25.cell? ⟨gb135, 2, none⟩ = some (.int .i64 a1_2) := (blk_cell BK135.out 2).trans rfl; have hcz26_3 : w25.cell? ⟨gb135, 3, none⟩ = some (.int .i64 a1_3) := (blk_cell BK135.out 3).trans rfl; have hcz26_4 : w25.cell? ⟨gb135, 4, none⟩ = some (.string a1_4) := (blk_cell BK135.out 4).trans rfl; have hcz26_5 : w25.cell? ⟨gb135, 5, none⟩ = some (.int .i64 (-1)) := (blk_cell BK135.out 5).trans rfl; have hfz26_0 := blk_frozen BK135.out 0; have hfz26_1 := blk_frozen BK135.out 1; have hfz26_2 := blk_frozen BK135.out 2; have hfz26_3 := blk_frozen BK135.out 3; have hfz26_4 := blk_frozen BK135.out 4; have hfz26_5 := blk_frozen BK135.out 5) | ((with_reducible refine gate_callee (f := 15) rfl ?_); refine goesL_ (some 42) rfl rfl Tryz.func15 (by kernel_rfl) rfl #[.slice A0 l0.length c0, .int .i64 a1_2] rfl (by (try simp only [List.map_toArray, List.map_cons, List.map_nil]); first | done | rfl | (simp only [List.length_drop, List.length_take]; rfl)) ?_; (with_reducible refine (faults_Place.calls k _ _ l0 a1_2 t144 t145 t146 _ ?side1 ?side2 A7.out ⟨Ft.All.stay HT.out (by repeat (first | (with_reducible first | exact HB.out | apply wA | apply wN | apply wD) | exact HB.out | (refine below_set ?_ (by assumption)) | (refine below_set ?_ (Aside0.out (by assumption)))))⟩).mono ?_); (case side1 => repeat (first | exact (Kd.C_below HR0.out HB.out) | (with_reducible refine Kd.C_alloc ?_ _) | (with_reducible refine Kd.C_drewN ?_ _) | (with_reducible refine Kd.C_drew ?_))); (case side2 => exact HC0.out); rintro e w27 ⟨rfl, hb⟩; refine ⟨_, rfl, ?_⟩; have n0_ := ak (Kd.R_below (by (with_reducible repeat (first | apply Kd.R_alloc | apply Kd.R_drewN | apply Kd.R_drew)); exact HO141.out) hb); have n1_ := ak (blk_below (g := gb135) (o := .cells #[.int .i64 a1_0, .int .i64 a1_1, .int .i64 a1_2, .int .i64 a1_3, .string a1_4, .int .i64 (-1)] 41 (0, 0)) (by (with_reducible repeat (first | refine bN ?_ _ | refine bD ?_ | refine bA ?_ _)); exact BK135.out) hb); have n2_ := ak (below_step (by repeat (first | (with_reducible first | exact HB.out | apply wA | apply wN | apply wD | refine below_set ?_ GE135.out) | exact HB.out)) hb); clear HO141; clear BK135; clear HB; have HO141 := n0_; have BK135 := n1_; have HB := n2_; clear n0_ n1_ n2_; (try clear hb); (try clear hb2); (try clear hk); (try clear hi); have hcz28_0 : w27.cell? ⟨gb135, 0, none⟩ = some (.int .i64 a1_0) := (blk_cell BK135.out 0).trans rfl; have hcz28_1 : w27.cell? ⟨gb135, 1, none⟩ = some (.int .i64 a1_1) := (blk_cell BK135.out 1).trans rfl; have hcz28_2 : w27.cell? ⟨gb135, 2, none⟩ = some (.int .i64 a1_2) := (blk_cell BK135.out 2).trans rfl; have hcz28_3 : w27.cell? ⟨gb135, 3, none⟩ = some (.int .i64 a1_3) := (blk_cell BK135.out 3).trans rfl; have hcz28_4 : w27.cell? ⟨gb135, 4, none⟩ = some (.string a1_4) := (blk_cell BK135.out 4).trans rfl; have hcz28_5 : w27.cell? ⟨gb135, 5, none⟩ = some (.int .i64 (-1)) := (blk_cell BK135.out 5).trans rfl; have hfz28_0 := blk_frozen BK135.out 0; have hfz28_1 := blk_frozen BK135.out 1; have hfz28_2 := blk_frozen BK135.out 2; have hfz28_3 := blk_frozen BK135.out 3; have hfz28_4 := blk_frozen BK135.out 4; have hfz28_5 := blk_frozen BK135.out 5) | ((with_reducible refine gate_callee (f := 19) rfl ?_); refine goesL_ (some 49) rfl rfl Tryz.func19 (by kernel_rfl) rfl #[.int .i64 a1_1] rfl (by (try simp only [List.map_toArray, List.map_cons, List.map_nil]); first | done | rfl | (simp only [List.length_drop, List.length_take]; rfl)) ?_; (with_reducible refine (faults_Pass.calls a1_1 t147 t148 _ A8.out ⟨Ft.All.stay HT.out (by repeat (first | (with_reducible first | exact HB.out | apply wA | apply wN | apply wD) | exact HB.out | (refine below_set ?_ (by assumption)) | (refine below_set ?_ (Aside0.out (by assumption)))))⟩).mono ?_); rintro e w29 ⟨rfl, hb⟩; refine ⟨_, rfl, ?_⟩; have n0_ := ak (Kd.R_below (by (with_reducible repeat (first | apply Kd.R_alloc | apply Kd.R_drewN | apply Kd.R_drew)); exact HO141.out) hb); have n1_ := ak (blk_below (g := gb135) (o := .cells #[.int .i64 a1_0, .int .i64 a1_1, .int .i64 a1_2, .int .i64 a1_3, .string a1_4, .int .i64 (-1)] 41 (0, 0)) (by (with_reducible repeat (first | refine bN ?_ _ | refine bD ?_ | refine bA ?_ _)); exact BK135.out) hb); have n2_ := ak (below_step (by repeat (first | (with_reducible first | exact HB.out | apply wA | apply wN | apply wD | refine below_set ?_ GE135.out) | exact HB.out)) hb); clear HO141; clear BK135; clear HB; have HO141 := n0_; have BK135 := n1_; have HB := n2_; clear n0_ n1_ n2_; (try clear hb); (try clear hb2); (try clear hk); (try clear hi); have hcz30_0 : w29.cell? ⟨gb135, 0, none⟩ = some (.int .i64 a1_0) := (blk_cell BK135.out 0).trans rfl; have hcz30_1 : w29.cell? ⟨gb135, 1, none⟩ = some (.int .i64 a1_1) := (blk_cell BK135.out 1).trans rfl; have hcz30_2 : w29.cell? ⟨gb135, 2, none⟩ = some (.int .i64 a1_2) := (blk_cell BK135.out 2).trans rfl; have hcz30_3 : w29.cell? ⟨gb135, 3, none⟩ = some (.int .i64 a1_3) := (blk_cell BK135.out 3).trans rfl; have hcz30_4 : w29.cell? ⟨gb135, 4, none⟩ = some (.string a1_4) := (blk_cell BK135.out 4).trans rfl; have hcz30_5 : w29.cell? ⟨gb135, 5, none⟩ = some (.int .i64 (-1)) := (blk_cell BK135.out 5).trans rfl; have hfz30_0 := blk_frozen BK135.out 0; have hfz30_1 := blk_frozen BK135.out 1; have hfz30_2 := blk_frozen BK135.out 2; have hfz30_3 := blk_frozen BK135.out 3; have hfz30_4 := blk_frozen BK135.out 4; have hfz30_5 := blk_frozen BK135.out 5) | ((with_reducible refine gate_callee (f := 17) rfl ?_); refine goesL_ (some 55) rfl rfl Tryz.func17 (by kernel_rfl) rfl #[.int .i64 a1_0] rfl (by (try simp only [List.map_toArray, List.map_cons, List.map_nil]); first | done | rfl | (simp only [List.length_drop, List.length_take]; rfl)) ?_; (with_reducible refine (faults_Word.calls a1_0 t149 t150 _ A9.out ⟨Ft.All.stay HT.out (by repeat (first | (with_reducible first | exact HB.out | apply wA | apply wN | apply wD) | exact HB.out | (refine below_set ?_ (by assumption)) | (refine below_set ?_ (Aside0.out (by assumption)))))⟩).mono ?_); rintro e w31 ⟨rfl, hb⟩; refine ⟨_, rfl, ?_⟩; have n0_ := ak (Kd.R_below (by (with_reducible repeat (first | apply Kd.R_alloc | apply Kd.R_drewN | apply Kd.R_drew)); exact HO141.out) hb); have n1_ := ak (blk_below (g := gb135) (o := .cells #[.int .i64 a1_0, .int .i64 a1_1, .int .i64 a1_2, .int .i64 a1_3, .string a1_4, .int .i64 (-1)] 41 (0, 0)) (by (with_reducible repeat (first | refine bN ?_ _ | refine bD ?_ | refine bA ?_ _)); exact BK135.out) hb); have n2_ := ak (below_step (by repeat (first | (with_reducible first | exact HB.out | apply wA | apply wN | apply wD | refine below_set ?_ GE135.out) | exact HB.out)) hb); clear HO141; clear BK135; clear HB; have HO141 := n0_; have BK135 := n1_; have HB := n2_; clear n0_ n1_ n2_; (try clear hb); (try clear hb2); (try clear hk); (try clear hi)) | ((with_reducible refine gate_callee (f := 54) rfl ?_); refine goesL_ (some 59) rfl rfl Tryz.func54 (by kernel_rfl) rfl #[.int .i64 t144] rfl (by (try simp only [List.map_toArray, List.map_cons, List.map_nil]); first | done | rfl | (simp only [List.length_drop, List.length_take]; rfl)) ?_; (with_reducible refine (strconv_Itoa_54.calls t144 t151 _ A10.out ⟨Ft.All.stay HT.out (by repeat (first | (with_reducible first | exact HB.out | apply wA | apply wN | apply wD) | exact HB.out | (refine below_set ?_ (by assumption)) | (refine below_set ?_ (Aside0.out (by assumption)))))⟩).mono ?_); rintro e w32 ⟨rfl, hb⟩; refine ⟨_, rfl, ?_⟩; have n0_ := ak (Kd.R_below (by (with_reducible repeat (first | apply Kd.R_alloc | apply Kd.R_drewN | apply Kd.R_drew)); exact HO141.out) hb); have n1_ := ak (blk_below (g := gb135) (o := .cells #[.int .i64 a1_0, .int .i64 a1_1, .int .i64 a1_2, .int .i64 a1_3, .string a1_4, .int .i64 (-1)] 41 (0, 0)) (by (with_reducible repeat (first | refine bN ?_ _ | refine bD ?_ | refine bA ?_ _)); exact BK135.out) hb); have n2_ := ak (below_step (by repeat (first | (with_reducible first | exact HB.out | apply wA | apply wN | apply wD | refine below_set ?_ GE135.out) | exact HB.out)) hb); clear HO141; clear BK135; clear HB; have HO141 := n0_; have BK135 := n1_; have HB := n2_; clear n0_ n1_ n2_; (try clear hb); (try clear hb2); (try clear hk); (try clear hi)) | ((with_reducible refine gate_callee (f := 54) rfl ?_); refine goesL_ (some 62) rfl rfl Tryz.func54 (by kernel_rfl) rfl #[.int .i64 t145] rfl (by (try simp only [List.map_toArray, List.map_cons, List.map_nil]); first | done | rfl | (simp only [List.length_drop, List.length_take]; rfl)) ?_; (with_reducible refine (strconv_Itoa_54.calls t145 t152 _ A12.out ⟨Ft.All.stay HT.out (by repeat (first | (with_reducible first | exact HB.out | apply wA | apply wN | apply wD) | exact HB.out | (refine below_set ?_ (by assumption)) | (refine below_set ?_ (Aside0.out (by assumption)))))⟩).mono ?_); rintro e w33 ⟨rfl, hb⟩; refine ⟨_, rfl, ?_⟩; have n0_ := ak (Kd.R_below (by (with_reducible repeat (first | apply Kd.R_alloc | apply Kd.R_drewN | apply Kd.R_drew)); exact HO141.out) hb); have n1_ := ak (blk_below (g := gb135) (o := .cells #[.int .i64 a1_0, .int .i64 a1_1, .int .i64 a1_2, .int .i64 a1_3, .string a1_4, .int .i64 (-1)] 41 (0, 0)) (by (with_reducible repeat (first | refine bN ?_ _ | refine bD ?_ | refine bA ?_ _)); exact BK135.out) hb); have n2_ := ak (below_step (by repeat (first | (with_reducible first | exact HB.out | apply wA | apply wN | apply wD | refine below_set ?_ GE135.out) | exact HB.out)) hb); clear HO141; clear BK135; clear HB; have HO141 := n0_; have BK135 := n1_; have HB := n2_; clear n0_ n1_ n2_; (try clear hb); (try clear hb2); (try clear hk); (try clear hi); have hcz34_0 : w33.cell? ⟨gb135, 0, none⟩ = some (.int .i64 a1_0) := (blk_cell BK135.out 0).trans rfl; have hcz34_1 : w33.cell? ⟨gb135, 1, none⟩ = some (.int .i64 a1_1) := (blk_cell BK135.out 1).trans rfl; have hcz34_2 : w33.cell? ⟨gb135, 2, none⟩ = some (.int .i64 a1_2) := (blk_cell BK135.out 2).trans rfl; have hcz34_3 : w33.cell? ⟨gb135, 3, none⟩ = some (.int .i64 a1_3) := (blk_cell BK135.out 3).trans rfl; have hcz34_4 : w33.cell? ⟨gb135, 4, none⟩ = some (.string a1_4) := (blk_cell BK135.out 4).trans rfl; have hcz34_5 : w33.cell? ⟨gb135, 5, none⟩ = some (.int .i64 (-1)) := (blk_cell BK135.out 5).trans rfl; have hfz34_0 := blk_frozen BK135.out 0; have hfz34_1 := blk_frozen BK135.out 1; have hfz34_2 := blk_frozen BK135.out 2; have hfz34_3 := blk_frozen BK135.out 3; have hfz34_4 := blk_frozen BK135.out 4; have hfz34_5 := blk_frozen BK135.out 5))
          go_ret2
          exact ⟨by first | rfl | (simp [errW_none, errW_some] <;> rfl) | (simp [*, errW_none, errW_some] <;> rfl), by repeat (first | (with_reducible first | exact HB.out | apply wA | apply wN | apply wD | refine below_set ?_ GE135.out) | exact HB.out)⟩
         ·rw [if_neg c18] at H
          have c18b0 : (a1_4.toList == ([] : List UInt8)) = false := beq_eq_false_iff_ne.mpr c18
          have c18b1 : (a1_4.toList != ([] : List UInt8)) = true := bne_iff_ne.mpr c18
          by_cases c35 : 1 + a1_4.size ≤ 9223372036854775807
          ·rw [if_pos c35] at H
           have c35b0 := eq_true c35
           have c35b1 : decide (1 + a1_4.size ≤ 9223372036854775807) = true := decide_eq_true c35
           try have c35b2 : (9223372036854775807 < 1 + a1_4.size) = False := eq_false (Nat.not_lt.2 c35)
           by_cases c36 : ((((((t151 ++ (⟨#[58]⟩ : ByteArray)) ++ t152) ++ (⟨#[58, 32]⟩ : ByteArray)) ++ t147) ++ (⟨#[58, 32]⟩ : ByteArray)) ++ t149).size + ((⟨#[32]⟩ : ByteArray) ++ a1_4).size ≤ 9223372036854775807
           ·rw [if_pos c36] at H
            have c36b0 := eq_true c36
            have c36b1 : decide (((((((t151 ++ (⟨#[58]⟩ : ByteArray)) ++ t152) ++ (⟨#[58, 32]⟩ : ByteArray)) ++ t147) ++ (⟨#[58, 32]⟩ : ByteArray)) ++ t149).size + ((⟨#[32]⟩ : ByteArray) ++ a1_4).size ≤ 9223372036854775807) = true := decide_eq_true c36
            try have c36b2 : (9223372036854775807 < ((((((t151 ++ (⟨#[58]⟩ : ByteArray)) ++ t152) ++ (⟨#[58, 32]⟩ : ByteArray)) ++ t147) ++ (⟨#[58, 32]⟩ : ByteArray)) ++ t149).size + ((⟨#[32]⟩ : ByteArray) ++ a1_4).size) = False := eq_false (Nat.not_lt.2 c36)
            try have c36b7 : (9223372036854775807 < t151.size + 1 + t152.size + 2 + t147.size + 2 + t149.size + 1 + a1_4.size) = False := by have h7_ := c36; simp only [ByteArray.size_append] at h7_; exact eq_false (Nat.not_lt.2 h7_)
            simp only [Option.some.injEq, Prod.mk.injEq] at H
            obtain ⟨rfl, rfl⟩ := H
            go_enter Tryz.func23, Tryz.ntmps23
            go_wp2_with (first | ((with_reducible refine gate_dst (N := 3) rfl ?_); refine box_event ?hg (N := 3) ?hd (cs := #[.int .i64 a1_0, .int .i64 a1_1, .int .i64 a1_2, .int .i64 a1_3, .string a1_4, .int .i64 a1_5]) (t := 41) ?hr ?_; (case hd => rfl); (case hg => rfl); (case hr => first | (go_simp; done) | (go_simp; rfl)); intro gb135 hg w37 hbox hb; have n0_ := ak (below_step (by repeat (first | (with_reducible first | exact HB.out | apply wA | apply wN | apply wD) | exact HB.out)) hb); have n1_ := ak (hbox); have n2_ := ak ((by rw [hg]; exact (below_size (by repeat (first | (with_reducible first | exact HB.out | apply wA | apply wN | apply wD) | exact HB.out))) : w.heap.size ≤ gb135)); have n3_ := ak ((by rw [hg]; exact (below_size (by repeat (first | (with_reducible first | exact HB.out | apply wA | apply wN | apply wD) | exact HB.out))) : w.heap.size ≤ gb135)); clear HB; have HB := n0_; have BK135 := n1_; have GW135 := n2_; have GE135 := n3_; clear n0_ n1_ n2_ n3_; clear hb hbox hg) | ((with_reducible refine gate_callee (f := 15) rfl ?_); refine goesL_ (some 18) rfl rfl Tryz.func15 (by kernel_rfl) rfl #[.slice A0 l0.length c0, .int .i64 0] rfl (by (try simp only [List.map_toArray, List.map_cons, List.map_nil]); first | done | rfl | (simp only [List.length_drop, List.length_take]; rfl)) ?_; (with_reducible refine (faults_Place.calls k _ _ l0 0 t136 t137 t138 _ ?side1 ?side2 A3.out ⟨Ft.All.stay HT.out (by repeat (first | (with_reducible first | exact HB.out | apply wA | apply wN | apply wD) | exact HB.out | (refine below_set ?_ (by assumption)) | (refine below_set ?_ (Aside0.out (by assumption)))))⟩).mono ?_); (case side1 => repeat (first | exact (Kd.C_below HR0.out HB.out) | (with_reducible refine Kd.C_alloc ?_ _) | (with_reducible refine Kd.C_drewN ?_ _) | (with_reducible refine Kd.C_drew ?_))); (case side2 => exact HC0.out); rintro e w38 ⟨rfl, hb⟩; refine ⟨_, rfl, ?_⟩; have n0_ := ak (blk_below (g := gb135) (o := .cells #[.int .i64 a1_0, .int .i64 a1_1, .int .i64 a1_2, .int .i64 a1_3, .string a1_4, .int .i64 a1_5] 41 (0, 0)) (by (with_reducible repeat (first | refine bN ?_ _ | refine bD ?_ | refine bA ?_ _)); exact BK135.out) hb); have n1_ := ak (below_step (by repeat (first | (with_reducible first | exact HB.out | apply wA | apply wN | apply wD | refine below_set ?_ GE135.out) | exact HB.out)) hb); clear BK135; clear HB; have BK135 := n0_; have HB := n1_; clear n0_ n1_; (try clear hb); (try clear hb2); (try clear hk); (try clear hi); have hcz39_0 : w38.cell? ⟨gb135, 0, none⟩ = some (.int .i64 a1_0) := (blk_cell BK135.out 0).trans rfl; have hcz39_1 : w38.cell? ⟨gb135, 1, none⟩ = some (.int .i64 a1_1) := (blk_cell BK135.out 1).trans rfl; have hcz39_2 : w38.cell? ⟨gb135, 2, none⟩ = some (.int .i64 a1_2) := (blk_cell BK135.out 2).trans rfl; have hcz39_3 : w38.cell? ⟨gb135, 3, none⟩ = some (.int .i64 a1_3) := (blk_cell BK135.out 3).trans rfl; have hcz39_4 : w38.cell? ⟨gb135, 4, none⟩ = some (.string a1_4) := (blk_cell BK135.out 4).trans rfl; have hcz39_5 : w38.cell? ⟨gb135, 5, none⟩ = some (.int .i64 a1_5) := (blk_cell BK135.out 5).trans rfl; have hfz39_0 := blk_frozen BK135.out 0; have hfz39_1 := blk_frozen BK135.out 1; have hfz39_2 := blk_frozen BK135.out 2; have hfz39_3 := blk_frozen BK135.out 3; have hfz39_4 := blk_frozen BK135.out 4; have hfz39_5 := blk_frozen BK135.out 5) | ((with_reducible refine gate_dst (N := 30) rfl ?_); refine Kd.R_lit k41 _ 41 ?hg (N := 30) ?hd (xs := ([(⟨a1_0, a1_1, (⟨a1_2, a1_3⟩ : S39), a1_4, (-1)⟩ : S41)] : List (S41))) (inner := [.int .i64 a1_0, .int .i64 a1_1, .int .i64 a1_2, .int .i64 a1_3, .string a1_4, .int .i64 (-1)]) (ok := fun _ => True) (okp := fun _ => True) ?hr ?hp (fun _ hk => hk) trivial (Below.refl _ _) (Nat.le_refl _) (by simp) ?_; (case hd => rfl); (case hg => rfl); (case hr => first | (go_simp; done) | (go_simp; rfl)); (case hp => exact (Reps.c6 (show Kd.M k41 _ _ _ (⟨a1_0, a1_1, (⟨a1_2, a1_3⟩ : S39), a1_4, (-1)⟩ : S41) [.int .i64 a1_0, .int .i64 a1_1, .int .i64 a1_2, .int .i64 a1_3, .string a1_4, .int .i64 (-1)] from (k41_mkM _ _ _ (⟨a1_0, a1_1, (⟨a1_2, a1_3⟩ : S39), a1_4, (-1)⟩ : S41) )) (Reps.none _ _))); intro v140 w40 ho41 hb hg_ hnew_; clear hg_ hnew_; (first | rw [← Ny139.out] at ho41 | (simp only [Int.reduceToNat] at ho41; rw [← Ny139.out] at ho41)); have n0_ := ak (Kd.R_lower (Kd.R_newB ho41 (g := gb135) (o := .cells #[.int .i64 a1_0, .int .i64 a1_1, .int .i64 a1_2, .int .i64 a1_3, .string a1_4, .int .i64 (-1)] 41 (0, 0)) (by (with_reducible repeat (first | refine bN ?_ _ | refine bD ?_ | refine bA ?_ _)); refine blk_put (cs := #[.int .i64 a1_0, .int .i64 a1_1, .int .i64 a1_2, .int .i64 a1_3, .string a1_4, .int .i64 a1_5]) ?_ 5 _ rfl; (with_reducible repeat (first | refine bN ?_ _ | refine bD ?_ | refine bA ?_ _)); exact BK135.out)) (below_size (by repeat (first | (with_reducible first | exact HB.out | apply wA | apply wN | apply wD | refine below_set ?_ GE135.out) | exact HB.out)))); have n1_ := ak (blk_below (g := gb135) (o := .cells #[.int .i64 a1_0, .int .i64 a1_1, .int .i64 a1_2, .int .i64 a1_3, .string a1_4, .int .i64 (-1)] 41 (0, 0)) (by (with_reducible repeat (first | refine bN ?_ _ | refine bD ?_ | refine bA ?_ _)); refine blk_put (cs := #[.int .i64 a1_0, .int .i64 a1_1, .int .i64 a1_2, .int .i64 a1_3, .string a1_4, .int .i64 a1_5]) ?_ 5 _ rfl; (with_reducible repeat (first | refine bN ?_ _ | refine bD ?_ | refine bA ?_ _)); exact BK135.out) hb); have n2_ := ak (below_step (by repeat (first | (with_reducible first | exact HB.out | apply wA | apply wN | apply wD | refine below_set ?_ GE135.out) | exact HB.out)) hb); clear BK135; clear HB; have HO141 := n0_; have BK135 := n1_; have HB := n2_; clear n0_ n1_ n2_; clear hb ho41; obtain ⟨Ao42, co42, eo42⟩ := Kd.R_slice HO141.out; subst eo42) | ((with_reducible refine gate_callee (f := 13) rfl ?_); refine goesL_ (some 31) rfl rfl Tryz.func13 (by kernel_rfl) rfl #[.int .i64 (l0.length : Int), .slice Ao42 y139.length co42] rfl (by (try simp only [List.map_toArray, List.map_cons, List.map_nil]); first | done | rfl | (simp only [List.length_drop, List.length_take]; rfl)) ?_; (with_reducible refine (faults_Check.calls k (l0.length : Int) _ _ y139 t142 t143 _ ?side1 ?side2 A5.out ⟨Ft.All.stay HT.out (by repeat (first | (with_reducible first | exact HB.out | apply wA | apply wN | apply wD) | exact HB.out | (refine below_set ?_ (by assumption)) | (refine below_set ?_ (Aside0.out (by assumption)))))⟩).mono ?_); (case side1 => repeat (first | exact (Kd.R_reads' HO141.out).2.2 | (with_reducible refine Kd.C_alloc ?_ _) | (with_reducible refine Kd.C_drewN ?_ _) | (with_reducible refine Kd.C_drew ?_))); (case side2 => exact (Kd.R_reads' HO141.out).2.1); rintro e w43 ⟨rfl, hb⟩; refine ⟨_, rfl, ?_⟩; have n0_ := ak (Kd.R_below (by (with_reducible repeat (first | apply Kd.R_alloc | apply Kd.R_drewN | apply Kd.R_drew)); exact HO141.out) hb); have n1_ := ak (blk_below (g := gb135) (o := .cells #[.int .i64 a1_0, .int .i64 a1_1, .int .i64 a1_2, .int .i64 a1_3, .string a1_4, .int .i64 (-1)] 41 (0, 0)) (by (with_reducible repeat (first | refine bN ?_ _ | refine bD ?_ | refine bA ?_ _)); exact BK135.out) hb); have n2_ := ak (below_step (by repeat (first | (with_reducible first | exact HB.out | apply wA | apply wN | apply wD | refine below_set ?_ GE135.out) | exact HB.out)) hb); clear HO141; clear BK135; clear HB; have HO141 := n0_; have BK135 := n1_; have HB := n2_; clear n0_ n1_ n2_; (try clear hb); (try clear hb2); (try clear hk); (try clear hi); have hcz44_0 : w43.cell? ⟨gb135, 0, none⟩ = some (.int .i64 a1_0) := (blk_cell BK135.out 0).trans rfl; have hcz44_1 : w43.cell? ⟨gb135, 1, none⟩ = some (.int .i64 a1_1) := (blk_cell BK135.out 1).trans rfl; have hcz44_2 : w43.cell? ⟨gb135, 2, none⟩ = some (.int .i64 a1_2) := (blk_cell BK135.out 2).trans rfl; have hcz44_3 : w43.cell? ⟨gb135, 3, none⟩ = some (.int .i64 a1_3) := (blk_cell BK135.out 3).trans rfl; have hcz44_4 : w43.cell? ⟨gb135, 4, none⟩ = some (.string a1_4) := (blk_cell BK135.out 4).trans rfl; have hcz44_5 : w43.cell? ⟨gb135, 5, none⟩ = some (.int .i64 (-1)) := (blk_cell BK135.out 5).trans rfl; have hfz44_0 := blk_frozen BK135.out 0; have hfz44_1 := blk_frozen BK135.out 1; have hfz44_2 := blk_frozen BK135.out 2; have hfz44_3 := blk_frozen BK135.out 3; have hfz44_4 := blk_frozen BK135.out 4; have hfz44_5 := blk_frozen BK135.out 5) | ((with_reducible refine gate_callee (f := 15) rfl ?_); refine goesL_ (some 42) rfl rfl Tryz.func15 (by kernel_rfl) rfl #[.slice A0 l0.length c0, .int .i64 a1_2] rfl (by (try simp only [List.map_toArray, List.map_cons, List.map_nil]); first | done | rfl | (simp only [List.length_drop, List.length_take]; rfl)) ?_; (with_reducible refine (faults_Place.calls k _ _ l0 a1_2 t144 t145 t146 _ ?side1 ?side2 A7.out ⟨Ft.All.stay HT.out (by repeat (first | (with_reducible first | exact HB.out | apply wA | apply wN | apply wD) | exact HB.out | (refine below_set ?_ (by assumption)) | (refine below_set ?_ (Aside0.out (by assumption)))))⟩).mono ?_); (case side1 => repeat (first | exact (Kd.C_below HR0.out HB.out) | (with_reducible refine Kd.C_alloc ?_ _) | (with_reducible refine Kd.C_drewN ?_ _) | (with_reducible refine Kd.C_drew ?_))); (case side2 => exact HC0.out); rintro e w45 ⟨rfl, hb⟩; refine ⟨_, rfl, ?_⟩; have n0_ := ak (Kd.R_below (by (with_reducible repeat (first | apply Kd.R_alloc | apply Kd.R_drewN | apply Kd.R_drew)); exact HO141.out) hb); have n1_ := ak (blk_below (g := gb135) (o := .cells #[.int .i64 a1_0, .int .i64 a1_1, .int .i64 a1_2, .int .i64 a1_3, .string a1_4, .int .i64 (-1)] 41 (0, 0)) (by (with_reducible repeat (first | refine bN ?_ _ | refine bD ?_ | refine bA ?_ _)); exact BK135.out) hb); have n2_ := ak (below_step (by repeat (first | (with_reducible first | exact HB.out | apply wA | apply wN | apply wD | refine below_set ?_ GE135.out) | exact HB.out)) hb); clear HO141; clear BK135; clear HB; have HO141 := n0_; have BK135 := n1_; have HB := n2_; clear n0_ n1_ n2_; (try clear hb); (try clear hb2); (try clear hk); (try clear hi); have hcz46_0 : w45.cell? ⟨gb135, 0, none⟩ = some (.int .i64 a1_0) := (blk_cell BK135.out 0).trans rfl; have hcz46_1 : w45.cell? ⟨gb135, 1, none⟩ = some (.int .i64 a1_1) := (blk_cell BK135.out 1).trans rfl; have hcz46_2 : w45.cell? ⟨gb135, 2, none⟩ = some (.int .i64 a1_2) := (blk_cell BK135.out 2).trans rfl; have hcz46_3 : w45.cell? ⟨gb135, 3, none⟩ = some (.int .i64 a1_3) := (blk_cell BK135.out 3).trans rfl; have hcz46_4 : w45.cell? ⟨gb135, 4, none⟩ = some (.string a1_4) := (blk_cell BK135.out 4).trans rfl; have hcz46_5 : w45.cell? ⟨gb135, 5, none⟩ = some (.int .i64 (-1)) := (blk_cell BK135.out 5).trans rfl; have hfz46_0 := blk_frozen BK135.out 0; have hfz46_1 := blk_frozen BK135.out 1; have hfz46_2 := blk_frozen BK135.out 2; have hfz46_3 := blk_frozen BK135.out 3; have hfz46_4 := blk_frozen BK135.out 4; have hfz46_5 := blk_frozen BK135.out 5) | ((with_reducible refine gate_callee (f := 19) rfl ?_); refine goesL_ (some 49) rfl rfl Tryz.func19 (by kernel_rfl) rfl #[.int .i64 a1_1] rfl (by (try simp only [List.map_toArray, List.map_cons, List.map_nil]); first | done | rfl | (simp only [List.length_drop, List.length_take]; rfl)) ?_; (with_reducible refine (faults_Pass.calls a1_1 t147 t148 _ A8.out ⟨Ft.All.stay HT.out (by repeat (first | (with_reducible first | exact HB.out | apply wA | apply wN | apply wD) | exact HB.out | (refine below_set ?_ (by assumption)) | (refine below_set ?_ (Aside0.out (by assumption)))))⟩).mono ?_); rintro e w47 ⟨rfl, hb⟩; refine ⟨_, rfl, ?_⟩; have n0_ := ak (Kd.R_below (by (with_reducible repeat (first | apply Kd.R_alloc | apply Kd.R_drewN | apply Kd.R_drew)); exact HO141.out) hb); have n1_ := ak (blk_below (g := gb135) (o := .cells #[.int .i64 a1_0, .int .i64 a1_1, .int .i64 a1_2, .int .i64 a1_3, .string a1_4, .int .i64 (-1)] 41 (0, 0)) (by (with_reducible repeat (first | refine bN ?_ _ | refine bD ?_ | refine bA ?_ _)); exact BK135.out) hb); have n2_ := ak (below_step (by repeat (first | (with_reducible first | exact HB.out | apply wA | apply wN | apply wD | refine below_set ?_ GE135.out) | exact HB.out)) hb); clear HO141; clear BK135; clear HB; have HO141 := n0_; have BK135 := n1_; have HB := n2_; clear n0_ n1_ n2_; (try clear hb); (try clear hb2); (try clear hk); (try clear hi); have hcz48_0 : w47.cell? ⟨gb135, 0, none⟩ = some (.int .i64 a1_0) := (blk_cell BK135.out 0).trans rfl; have hcz48_1 : w47.cell? ⟨gb135, 1, none⟩ = some (.int .i64 a1_1) := (blk_cell BK135.out 1).trans rfl; have hcz48_2 : w47.cell? ⟨gb135, 2, none⟩ = some (.int .i64 a1_2) := (blk_cell BK135.out 2).trans rfl; have hcz48_3 : w47.cell? ⟨gb135, 3, none⟩ = some (.int .i64 a1_3) := (blk_cell BK135.out 3).trans rfl; have hcz48_4 : w47.cell? ⟨gb135, 4, none⟩ = some (.string a1_4) := (blk_cell BK135.out 4).trans rfl; have hcz48_5 : w47.cell? ⟨gb135, 5, none⟩ = some (.int .i64 (-1)) := (blk_cell BK135.out 5).trans rfl; have hfz48_0 := blk_frozen BK135.out 0; have hfz48_1 := blk_frozen BK135.out 1; have hfz48_2 := blk_frozen BK135.out 2; have hfz48_3 := blk_frozen BK135.out 3; have hfz48_4 := blk_frozen BK135.out 4; have hfz48_5 := blk_frozen BK135.out 5) | ((with_reducible refine gate_callee (f := 17) rfl ?_); refine goesL_ (some 55) rfl rfl Tryz.func17 (by kernel_rfl) rfl #[.int .i64 a1_0] rfl (by (try simp only [List.map_toArray, List.map_cons, List.map_nil]); first | done | rfl | (simp only [List.length_drop, List.length_take]; rfl)) ?_; (with_reducible refine (faults_Word.calls a1_0 t149 t150 _ A9.out ⟨Ft.All.stay HT.out (by repeat (first | (with_reducible first | exact HB.out | apply wA | apply wN | apply wD) | exact HB.out | (refine below_set ?_ (by assumption)) | (refine below_set ?_ (Aside0.out (by assumption)))))⟩).mono ?_); rintro e w49 ⟨rfl, hb⟩; refine ⟨_, rfl, ?_⟩; have n0_ := ak (Kd.R_below (by (with_reducible repeat (first | apply Kd.R_alloc | apply Kd.R_drewN | apply Kd.R_drew)); exact HO141.out) hb); have n1_ := ak (blk_below (g := gb135) (o := .cells #[.int .i64 a1_0, .int .i64 a1_1, .int .i64 a1_2, .int .i64 a1_3, .string a1_4, .int .i64 (-1)] 41 (0, 0)) (by (with_reducible repeat (first | refine bN ?_ _ | refine bD ?_ | refine bA ?_ _)); exact BK135.out) hb); have n2_ := ak (below_step (by repeat (first | (with_reducible first | exact HB.out | apply wA | apply wN | apply wD | refine below_set ?_ GE135.out) | exact HB.out)) hb); clear HO141; clear BK135; clear HB; have HO141 := n0_; have BK135 := n1_; have HB := n2_; clear n0_ n1_ n2_; (try clear hb); (try clear hb2); (try clear hk); (try clear hi)) | ((with_reducible refine gate_callee (f := 54) rfl ?_); refine goesL_ (some 59) rfl rfl Tryz.func54 (by kernel_rfl) rfl #[.int .i64 t144] rfl (by (try simp only [List.map_toArray, List.map_cons, List.map_nil]); first | done | rfl | (simp only [List.length_drop, List.length_take]; rfl)) ?_; (with_reducible refine (strconv_Itoa_54.calls t144 t151 _ A10.out ⟨Ft.All.stay HT.out (by repeat (first | (with_reducible first | exact HB.out | apply wA | apply wN | apply wD) | exact HB.out | (refine below_set ?_ (by assumption)) | (refine below_set ?_ (Aside0.out (by assumption)))))⟩).mono ?_); rintro e w50 ⟨rfl, hb⟩; refine ⟨_, rfl, ?_⟩; have n0_ := ak (Kd.R_below (by (with_reducible repeat (first | apply Kd.R_alloc | apply Kd.R_drewN | apply Kd.R_drew)); exact HO141.out) hb); have n1_ := ak (blk_below (g := gb135) (o := .cells #[.int .i64 a1_0, .int .i64 a1_1, .int .i64 a1_2, .int .i64 a1_3, .string a1_4, .int .i64 (-1)] 41 (0, 0)) (by (with_reducible repeat (first | refine bN ?_ _ | refine bD ?_ | refine bA ?_ _)); exact BK135.out) hb); have n2_ := ak (below_step (by repeat (first | (with_reducible first | exact HB.out | apply wA | apply wN | apply wD | refine below_set ?_ GE135.out) | exact HB.out)) hb); clear HO141; clear BK135; clear HB; have HO141 := n0_; have BK135 := n1_; have HB := n2_; clear n0_ n1_ n2_; (try clear hb); (try clear hb2); (try clear hk); (try clear hi)) | ((with_reducible refine gate_callee (f := 54) rfl ?_); refine goesL_ (some 62) rfl rfl Tryz.func54 (by kernel_rfl) rfl #[.int .i64 t145] rfl (by (try simp only [List.map_toArray, List.map_cons, List.map_nil]); first | done | rfl | (simp only [List.length_drop, List.length_take]; rfl)) ?_; (with_reducible refine (strconv_Itoa_54.calls t145 t152 _ A12.out ⟨Ft.All.stay HT.out (by repeat (first | (with_reducible first | exact HB.out | apply wA | apply wN | apply wD) | exact HB.out | (refine below_set ?_ (by assumption)) | (refine below_set ?_ (Aside0.out (by assumption)))))⟩).mono ?_); rintro e w51 ⟨rfl, hb⟩; refine ⟨_, rfl, ?_⟩; have n0_ := ak (Kd.R_below (by (with_reducible repeat (first | apply Kd.R_alloc | apply Kd.R_drewN | apply Kd.R_drew)); exact HO141.out) hb); have n1_ := ak (blk_below (g := gb135) (o := .cells #[.int .i64 a1_0, .int .i64 a1_1, .int .i64 a1_2, .int .i64 a1_3, .string a1_4, .int .i64 (-1)] 41 (0, 0)) (by (with_reducible repeat (first | refine bN ?_ _ | refine bD ?_ | refine bA ?_ _)); exact BK135.out) hb); have n2_ := ak (below_step (by repeat (first | (with_reducible first | exact HB.out | apply wA | apply wN | apply wD | refine below_set ?_ GE135.out) | exact HB.out)) hb); clear HO141; clear BK135; clear HB; have HO141 := n0_; have BK135 := n1_; have HB := n2_; clear n0_ n1_ n2_; (try clear hb); (try clear hb2); (try clear hk); (try clear hi); have hcz52_0 : w51.cell? ⟨gb135, 0, none⟩ = some (.int .i64 a1_0) := (blk_cell BK135.out 0).trans rfl; have hcz52_1 : w51.cell? ⟨gb135, 1, none⟩ = some (.int .i64 a1_1) := (blk_cell BK135.out 1).trans rfl; have hcz52_2 : w51.cell? ⟨gb135, 2, none⟩ = some (.int .i64 a1_2) := (blk_cell BK135.out 2).trans rfl; have hcz52_3 : w51.cell? ⟨gb135, 3, none⟩ = some (.int .i64 a1_3) := (blk_cell BK135.out 3).trans rfl; have hcz52_4 : w51.cell? ⟨gb135, 4, none⟩ = some (.string a1_4) := (blk_cell BK135.out 4).trans rfl; have hcz52_5 : w51.cell? ⟨gb135, 5, none⟩ = some (.int .i64 (-1)) := (blk_cell BK135.out 5).trans rfl; have hfz52_0 := blk_frozen BK135.out 0; have hfz52_1 := blk_frozen BK135.out 1; have hfz52_2 := blk_frozen BK135.out 2; have hfz52_3 := blk_frozen BK135.out 3; have hfz52_4 := blk_frozen BK135.out 4; have hfz52_5 := blk_frozen BK135.out 5))
            go_ret2
            exact ⟨by first | rfl | (simp [errW_none, errW_some] <;> rfl) | (simp [*, errW_none, errW_some] <;> rfl), by repeat (first | (with_reducible first | exact HB.out | apply wA | apply wN | apply wD | refine below_set ?_ GE135.out) | exact HB.out)⟩
           ·rw [if_neg c36] at H
            exact absurd H (by simp)
          ·rw [if_neg c35] at H
           exact absurd H (by simp)
        ·rw [if_neg c17] at H
         exact absurd H (by simp)
       ·rw [if_neg c16] at H
        exact absurd H (by simp)
      ·rw [if_neg c15] at H
       exact absurd H (by simp)
     ·rw [if_neg c14] at H
      exact absurd H (by simp)
    ·rw [if_neg c13] at H
     exact absurd H (by simp)
   ·rw [if_neg c11] at H
    exact absurd H (by simp)
  ·rw [if_neg c6] at H
   have c6b0 : (t143 == 0) = false := beq_eq_false_iff_ne.mpr c6
   have c6b1 : (t143 != 0) = true := bne_iff_ne.mpr c6
   simp only [Option.some.injEq, Prod.mk.injEq] at H
   obtain ⟨rfl, rfl⟩ := H
   go_enter Tryz.func23, Tryz.ntmps23
   go_wp2_with (first | ((with_reducible refine gate_dst (N := 3) rfl ?_); refine box_event ?hg (N := 3) ?hd (cs := #[.int .i64 a1_0, .int .i64 a1_1, .int .i64 a1_2, .int .i64 a1_3, .string a1_4, .int .i64 a1_5]) (t := 41) ?hr ?_; (case hd => rfl); (case hg => rfl); (case hr => first | (go_simp; done) | (go_simp; rfl)); intro gb135 hg w53 hbox hb; have n0_ := ak (below_step (by repeat (first | (with_reducible first | exact HB.out | apply wA | apply wN | apply wD) | exact HB.out)) hb); have n1_ := ak (hbox); have n2_ := ak ((by rw [hg]; exact (below_size (by repeat (first | (with_reducible first | exact HB.out | apply wA | apply wN | apply wD) | exact HB.out))) : w.heap.size ≤ gb135)); have n3_ := ak ((by rw [hg]; exact (below_size (by repeat (first | (with_reducible first | exact HB.out | apply wA | apply wN | apply wD) | exact HB.out))) : w.heap.size ≤ gb135)); clear HB; have HB := n0_; have BK135 := n1_; have GW135 := n2_; have GE135 := n3_; clear n0_ n1_ n2_ n3_; clear hb hbox hg) | ((with_reducible refine gate_callee (f := 15) rfl ?_); refine goesL_ (some 18) rfl rfl Tryz.func15 (by kernel_rfl) rfl #[.slice A0 l0.length c0, .int .i64 0] rfl (by (try simp only [List.map_toArray, List.map_cons, List.map_nil]); first | done | rfl | (simp only [List.length_drop, List.length_take]; rfl)) ?_; (with_reducible refine (faults_Place.calls k _ _ l0 0 t136 t137 t138 _ ?side1 ?side2 A3.out ⟨Ft.All.stay HT.out (by repeat (first | (with_reducible first | exact HB.out | apply wA | apply wN | apply wD) | exact HB.out | (refine below_set ?_ (by assumption)) | (refine below_set ?_ (Aside0.out (by assumption)))))⟩).mono ?_); (case side1 => repeat (first | exact (Kd.C_below HR0.out HB.out) | (with_reducible refine Kd.C_alloc ?_ _) | (with_reducible refine Kd.C_drewN ?_ _) | (with_reducible refine Kd.C_drew ?_))); (case side2 => exact HC0.out); rintro e w54 ⟨rfl, hb⟩; refine ⟨_, rfl, ?_⟩; have n0_ := ak (blk_below (g := gb135) (o := .cells #[.int .i64 a1_0, .int .i64 a1_1, .int .i64 a1_2, .int .i64 a1_3, .string a1_4, .int .i64 a1_5] 41 (0, 0)) (by (with_reducible repeat (first | refine bN ?_ _ | refine bD ?_ | refine bA ?_ _)); exact BK135.out) hb); have n1_ := ak (below_step (by repeat (first | (with_reducible first | exact HB.out | apply wA | apply wN | apply wD | refine below_set ?_ GE135.out) | exact HB.out)) hb); clear BK135; clear HB; have BK135 := n0_; have HB := n1_; clear n0_ n1_; (try clear hb); (try clear hb2); (try clear hk); (try clear hi); have hcz55_0 : w54.cell? ⟨gb135, 0, none⟩ = some (.int .i64 a1_0) := (blk_cell BK135.out 0).trans rfl; have hcz55_1 : w54.cell? ⟨gb135, 1, none⟩ = some (.int .i64 a1_1) := (blk_cell BK135.out 1).trans rfl; have hcz55_2 : w54.cell? ⟨gb135, 2, none⟩ = some (.int .i64 a1_2) := (blk_cell BK135.out 2).trans rfl; have hcz55_3 : w54.cell? ⟨gb135, 3, none⟩ = some (.int .i64 a1_3) := (blk_cell BK135.out 3).trans rfl; have hcz55_4 : w54.cell? ⟨gb135, 4, none⟩ = some (.string a1_4) := (blk_cell BK135.out 4).trans rfl; have hcz55_5 : w54.cell? ⟨gb135, 5, none⟩ = some (.int .i64 a1_5) := (blk_cell BK135.out 5).trans rfl; have hfz55_0 := blk_frozen BK135.out 0; have hfz55_1 := blk_frozen BK135.out 1; have hfz55_2 := blk_frozen BK135.out 2; have hfz55_3 := blk_frozen BK135.out 3; have hfz55_4 := blk_frozen BK135.out 4; have hfz55_5 := blk_frozen BK135.out 5) | ((with_reducible refine gate_dst (N := 30) rfl ?_); refine Kd.R_lit k41 _ 41 ?hg (N := 30) ?hd (xs := ([(⟨a1_0, a1_1, (⟨a1_2, a1_3⟩ : S39), a1_4, (-1)⟩ : S41)] : List (S41))) (inner := [.int .i64 a1_0, .int .i64 a1_1, .int .i64 a1_2, .int .i64 a1_3, .string a1_4, .int .i64 (-1)]) (ok := fun _ => True) (okp := fun _ => True) ?hr ?hp (fun _ hk => hk) trivial (Below.refl _ _) (Nat.le_refl _) (by simp) ?_; (case hd => rfl); (case hg => rfl); (case hr => first | (go_simp; done) | (go_simp; rfl)); (case hp => exact (Reps.c6 (show Kd.M k41 _ _ _ (⟨a1_0, a1_1, (⟨a1_2, a1_3⟩ : S39), a1_4, (-1)⟩ : S41) [.int .i64 a1_0, .int .i64 a1_1, .int .i64 a1_2, .int .i64 a1_3, .string a1_4, .int .i64 (-1)] from (k41_mkM _ _ _ (⟨a1_0, a1_1, (⟨a1_2, a1_3⟩ : S39), a1_4, (-1)⟩ : S41) )) (Reps.none _ _))); intro v140 w56 ho57 hb hg_ hnew_; clear hg_ hnew_; (first | rw [← Ny139.out] at ho57 | (simp only [Int.reduceToNat] at ho57; rw [← Ny139.out] at ho57)); have n0_ := ak (Kd.R_lower (Kd.R_newB ho57 (g := gb135) (o := .cells #[.int .i64 a1_0, .int .i64 a1_1, .int .i64 a1_2, .int .i64 a1_3, .string a1_4, .int .i64 (-1)] 41 (0, 0)) (by (with_reducible repeat (first | refine bN ?_ _ | refine bD ?_ | refine bA ?_ _)); refine blk_put (cs := #[.int .i64 a1_0, .int .i64 a1_1, .int .i64 a1_2, .int .i64 a1_3, .string a1_4, .int .i64 a1_5]) ?_ 5 _ rfl; (with_reducible repeat (first | refine bN ?_ _ | refine bD ?_ | refine bA ?_ _)); exact BK135.out)) (below_size (by repeat (first | (with_reducible first | exact HB.out | apply wA | apply wN | apply wD | refine below_set ?_ GE135.out) | exact HB.out)))); have n1_ := ak (blk_below (g := gb135) (o := .cells #[.int .i64 a1_0, .int .i64 a1_1, .int .i64 a1_2, .int .i64 a1_3, .string a1_4, .int .i64 (-1)] 41 (0, 0)) (by (with_reducible repeat (first | refine bN ?_ _ | refine bD ?_ | refine bA ?_ _)); refine blk_put (cs := #[.int .i64 a1_0, .int .i64 a1_1, .int .i64 a1_2, .int .i64 a1_3, .string a1_4, .int .i64 a1_5]) ?_ 5 _ rfl; (with_reducible repeat (first | refine bN ?_ _ | refine bD ?_ | refine bA ?_ _)); exact BK135.out) hb); have n2_ := ak (below_step (by repeat (first | (with_reducible first | exact HB.out | apply wA | apply wN | apply wD | refine below_set ?_ GE135.out) | exact HB.out)) hb); clear BK135; clear HB; have HO141 := n0_; have BK135 := n1_; have HB := n2_; clear n0_ n1_ n2_; clear hb ho57; obtain ⟨Ao58, co58, eo58⟩ := Kd.R_slice HO141.out; subst eo58) | ((with_reducible refine gate_callee (f := 13) rfl ?_); refine goesL_ (some 31) rfl rfl Tryz.func13 (by kernel_rfl) rfl #[.int .i64 (l0.length : Int), .slice Ao58 y139.length co58] rfl (by (try simp only [List.map_toArray, List.map_cons, List.map_nil]); first | done | rfl | (simp only [List.length_drop, List.length_take]; rfl)) ?_; (with_reducible refine (faults_Check.calls k (l0.length : Int) _ _ y139 t142 t143 _ ?side1 ?side2 A5.out ⟨Ft.All.stay HT.out (by repeat (first | (with_reducible first | exact HB.out | apply wA | apply wN | apply wD) | exact HB.out | (refine below_set ?_ (by assumption)) | (refine below_set ?_ (Aside0.out (by assumption)))))⟩).mono ?_); (case side1 => repeat (first | exact (Kd.R_reads' HO141.out).2.2 | (with_reducible refine Kd.C_alloc ?_ _) | (with_reducible refine Kd.C_drewN ?_ _) | (with_reducible refine Kd.C_drew ?_))); (case side2 => exact (Kd.R_reads' HO141.out).2.1); rintro e w59 ⟨rfl, hb⟩; refine ⟨_, rfl, ?_⟩; have n0_ := ak (Kd.R_below (by (with_reducible repeat (first | apply Kd.R_alloc | apply Kd.R_drewN | apply Kd.R_drew)); exact HO141.out) hb); have n1_ := ak (blk_below (g := gb135) (o := .cells #[.int .i64 a1_0, .int .i64 a1_1, .int .i64 a1_2, .int .i64 a1_3, .string a1_4, .int .i64 (-1)] 41 (0, 0)) (by (with_reducible repeat (first | refine bN ?_ _ | refine bD ?_ | refine bA ?_ _)); exact BK135.out) hb); have n2_ := ak (below_step (by repeat (first | (with_reducible first | exact HB.out | apply wA | apply wN | apply wD | refine below_set ?_ GE135.out) | exact HB.out)) hb); clear HO141; clear BK135; clear HB; have HO141 := n0_; have BK135 := n1_; have HB := n2_; clear n0_ n1_ n2_; (try clear hb); (try clear hb2); (try clear hk); (try clear hi)))
   go_ret2
   exact ⟨by first | rfl | (simp [errW_none, errW_some] <;> rfl) | (simp [*, errW_none, errW_some] <;> rfl), by repeat (first | (with_reducible first | exact HB.out | apply wA | apply wN | apply wD | refine below_set ?_ GE135.out) | exact HB.out)⟩
 ·rw [if_neg c4] at H
  have c4b0 : (t138 == 0) = false := beq_eq_false_iff_ne.mpr c4
  have c4b1 : (t138 != 0) = true := bne_iff_ne.mpr c4
  simp only [Option.some.injEq, Prod.mk.injEq] at H
  obtain ⟨rfl, rfl⟩ := H
  go_enter Tryz.func23, Tryz.ntmps23
  go_wp2_with (first | ((with_reducible refine gate_dst (N := 3) rfl ?_); refine box_event ?hg (N := 3) ?hd (cs := #[.int .i64 a1_0, .int .i64 a1_1, .int .i64 a1_2, .int .i64 a1_3, .string a1_4, .int .i64 a1_5]) (t := 41) ?hr ?_; (case hd => rfl); (case hg => rfl); (case hr => first | (go_simp; done) | (go_simp; rfl)); intro gb135 hg w60 hbox hb; have n0_ := ak (below_step (by repeat (first | (with_reducible first | exact HB.out | apply wA | apply wN | apply wD) | exact HB.out)) hb); have n1_ := ak (hbox); have n2_ := ak ((by rw [hg]; exact (below_size (by repeat (first | (with_reducible first | exact HB.out | apply wA | apply wN | apply wD) | exact HB.out))) : w.heap.size ≤ gb135)); have n3_ := ak ((by rw [hg]; exact (below_size (by repeat (first | (with_reducible first | exact HB.out | apply wA | apply wN | apply wD) | exact HB.out))) : w.heap.size ≤ gb135)); clear HB; have HB := n0_; have BK135 := n1_; have GW135 := n2_; have GE135 := n3_; clear n0_ n1_ n2_ n3_; clear hb hbox hg) | ((with_reducible refine gate_callee (f := 15) rfl ?_); refine goesL_ (some 18) rfl rfl Tryz.func15 (by kernel_rfl) rfl #[.slice A0 l0.length c0, .int .i64 0] rfl (by (try simp only [List.map_toArray, List.map_cons, List.map_nil]); first | done | rfl | (simp only [List.length_drop, List.length_take]; rfl)) ?_; (with_reducible refine (faults_Place.calls k _ _ l0 0 t136 t137 t138 _ ?side1 ?side2 A3.out ⟨Ft.All.stay HT.out (by repeat (first | (with_reducible first | exact HB.out | apply wA | apply wN | apply wD) | exact HB.out | (refine below_set ?_ (by assumption)) | (refine below_set ?_ (Aside0.out (by assumption)))))⟩).mono ?_); (case side1 => repeat (first | exact (Kd.C_below HR0.out HB.out) | (with_reducible refine Kd.C_alloc ?_ _) | (with_reducible refine Kd.C_drewN ?_ _) | (with_reducible refine Kd.C_drew ?_))); (case side2 => exact HC0.out); rintro e w61 ⟨rfl, hb⟩; refine ⟨_, rfl, ?_⟩; have n0_ := ak (blk_below (g := gb135) (o := .cells #[.int .i64 a1_0, .int .i64 a1_1, .int .i64 a1_2, .int .i64 a1_3, .string a1_4, .int .i64 a1_5] 41 (0, 0)) (by (with_reducible repeat (first | refine bN ?_ _ | refine bD ?_ | refine bA ?_ _)); exact BK135.out) hb); have n1_ := ak (below_step (by repeat (first | (with_reducible first | exact HB.out | apply wA | apply wN | apply wD | refine below_set ?_ GE135.out) | exact HB.out)) hb); clear BK135; clear HB; have BK135 := n0_; have HB := n1_; clear n0_ n1_; (try clear hb); (try clear hb2); (try clear hk); (try clear hi)))
  go_ret2
  exact ⟨by first | rfl | (simp [errW_none, errW_some] <;> rfl) | (simp [*, errW_none, errW_some] <;> rfl), by repeat (first | (with_reducible first | exact HB.out | apply wA | apply wN | apply wD | refine below_set ?_ GE135.out) | exact HB.out)⟩
end Go.Proofs.YtdjkdlbokepoaaaGreatDoor.P
