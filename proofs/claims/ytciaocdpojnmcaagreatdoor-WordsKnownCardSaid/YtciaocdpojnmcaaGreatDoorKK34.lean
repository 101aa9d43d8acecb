import Derived.Test.YtciaocdpojnmcaaGreatDoorProg
import Derived.Below
import Derived.Deep.Draws
import Derived.Deep.AppendLies
import Derived.Maps.AppendAt
import Derived.OwnWalk
import Derived.Laws.BytesArg
import Derived.Laws.MakeOwn
import Derived.Laws.OwnMore
import Derived.Deep.OwnRows
import Derived.Tactics
import Derived.Lib.ConvBytes
import Derived.Laws.Slices
import Derived.WalkKit
import Derived.KernelRfl
import Derived.RowKit3
import Derived.Deep.LoopGhost
import Derived.Deep.QuietTactic
import Derived.BigQuiet
import Derived.WideLaws
import Derived.Deep.DeepCutAuto
import Derived.Deep.CutBlock
import Derived.Deep.RegionHeld3
import Derived.Laws.Rows
import Derived.Lib.AppendStr
import Derived.ArgAppend
import Derived.Laws.IdiomCopy
import Derived.OrdersHeld
import Derived.Laws.BitsLemmas
import Derived.RowKit
import Derived.Lib.LazyBuf
import Derived.Carry
import Derived.Laws.Cover1
import Derived.Test.YtciaocdpojnmcaaGreatDoorKK26
import Derived.Test.YtciaocdpojnmcaaGreatDoorKK27
import Derived.Test.YtciaocdpojnmcaaGreatDoorKK28
import Derived.Test.YtciaocdpojnmcaaGreatDoorKK29
import Derived.Test.YtciaocdpojnmcaaGreatDoorKK30
import Derived.Test.YtciaocdpojnmcaaGreatDoorKK31
import Derived.RangeFuncNested
import Derived.RangeFuncBound
import Derived.RangeFuncCalls
import Derived.RangeFuncLeaves
import Derived.RangeFuncFrom
import Derived.RangeFuncBox
import Derived.OwnWalkIn
import Derived.Shelf.Abstract
import Derived.Shelf.RegionOpen
import Derived.Test.YtciaocdpojnmcaaGreatDoorKK3
import Derived.Test.YtciaocdpojnmcaaGreatDoorKK4
import Derived.Test.YtciaocdpojnmcaaGreatDoorKK5
import Derived.Test.YtciaocdpojnmcaaGreatDoorKK7
import Derived.Test.YtciaocdpojnmcaaGreatDoorKK10
import Derived.Test.YtciaocdpojnmcaaGreatDoorKK11
import Derived.Test.YtciaocdpojnmcaaGreatDoorKK12
import Derived.Test.YtciaocdpojnmcaaGreatDoorKK13
import Derived.Test.YtciaocdpojnmcaaGreatDoorKK14
import Derived.Test.YtciaocdpojnmcaaGreatDoorKK15
import Derived.Test.YtciaocdpojnmcaaGreatDoorKK18
namespace Go.Proofs.YtciaocdpojnmcaaGreatDoor.P
open Go.RowKit Go.Proofs.YtciaocdpojnmcaaGreatDoorW.PrintWords Go.Proofs.YtciaocdpojnmcaaGreatDoorW.PrintLast Go.Proofs.YtciaocdpojnmcaaGreatDoorW.PrintMore
attribute [local go_sem] max2_int min2_int max_two min_two max_three min_three max_four min_four   -- for this text's walks alone
set_option linter.unusedVariables false
set_option linter.unusedSimpArgs false
def errW : Option Int → Value
  | none => .nilIface
  | some c => .iface 0 (.int .i64 c)
theorem errW_none : errW none = .nilIface := rfl
theorem errW_some (c : Int) : errW (some c) = .iface 0 (.int .i64 c) := rfl
theorem info3 : (Tryz.prog.info? 3).map (fun i => (i.zero, i.size, i.bytes)) = some (some (.int .i64 0), 1, 8) := by kernel_rfl
theorem info5 : (Tryz.prog.info? 5).map (fun i => (i.zero, i.size, i.bytes)) = some (some (.int .u8 0), 1, 1) := by kernel_rfl
theorem info76 : (Tryz.prog.info? 76).map (fun i => (i.zero, i.size, i.bytes)) = some (some (.agg #[(.string ⟨#[]⟩), (.string ⟨#[]⟩)]), 2, 32) := by kernel_rfl
structure S47 where
  f0 : ByteArray
  f1 : Bool
def z47 : S47 := ⟨(⟨#[]⟩ : ByteArray), false⟩
def k47 : Kd S47 := Kd.iso (Kd.pair Kd.string Kd.bool) (fun x : S47 => (x.f0, x.f1))
theorem k47_open {w : World} {x : S47} {cs : List Value} (h : k47.K w x cs) : cs = [.string x.f0, .bool x.f1] := by
  obtain ⟨_, _, rfl, rfl, rfl⟩ := h
  exact rfl
theorem k47_mkM (w : World) (base : Nat) (ok : Nat → Prop) (x : S47)  : k47.M w base ok x [.string x.f0, .bool x.f1] := ⟨[.string x.f0], [.bool x.f1], rfl, rfl, rfl⟩
def rd_T47 (xs : List S47) (i : Int) : S47 := xs.getD i.toNat z47
theorem at_T47 {w : World} {A : Option Addr} {n : Nat} {xs : List S47} (h : Kd.C k47 w A n xs) (i : Int) (h0 : 0 ≤ i) (h1 : i < n) : ∃ ad , A = some ad ∧ w.cell? (ad.add (i.toNat * 2)) = some (.string (rd_T47 xs i).f0) ∧ w.cell? ⟨(ad.add (i.toNat * 2)).block, (ad.add (i.toNat * 2)).off + 1, none⟩ = some (.bool (rd_T47 xs i).f1) := by
  obtain ⟨ad, c, e, _, hK, hc0⟩ := Kd.C_get h z47 i h0 h1
  have hc : ∀ j u, c[j]? = some u → w.cell? (ad.add (i.toNat * 2 + j)) = some u := hc0
  obtain rfl := k47_open hK
  exact ⟨ad, e, hc 0 _ rfl, by rw [← add_field _ _ 1 (by omega)]; exact hc 1 _ rfl⟩
structure S76 where
  f0 : ByteArray
  f1 : ByteArray
def z76 : S76 := ⟨(⟨#[]⟩ : ByteArray), (⟨#[]⟩ : ByteArray)⟩
def k76 : Kd S76 := Kd.iso (Kd.pair Kd.string Kd.string) (fun x : S76 => (x.f0, x.f1))
theorem k76_open {w : World} {x : S76} {cs : List Value} (h : k76.K w x cs) : cs = [.string x.f0, .string x.f1] := by
  obtain ⟨_, _, rfl, rfl, rfl⟩ := h
  exact rfl
theorem k76_mkM (w : World) (base : Nat) (ok : Nat → Prop) (x : S76)  : k76.M w base ok x [.string x.f0, .string x.f1] := ⟨[.string x.f0], [.string x.f1], rfl, rfl, rfl⟩
def rd_T76 (xs : List S76) (i : Int) : S76 := xs.getD i.toNat z76
theorem at_T76 {w : World} {A : Option Addr} {n : Nat} {xs : List S76} (h : Kd.C k76 w A n xs) (i : Int) (h0 : 0 ≤ i) (h1 : i < n) : ∃ ad , A = some ad ∧ w.cell? (ad.add (i.toNat * 2)) = some (.string (rd_T76 xs i).f0) ∧ w.cell? ⟨(ad.add (i.toNat * 2)).block, (ad.add (i.toNat * 2)).off + 1, none⟩ = some (.string (rd_T76 xs i).f1) := by
  obtain ⟨ad, c, e, _, hK, hc0⟩ := Kd.C_get h z76 i h0 h1
  have hc : ∀ j u, c[j]? = some u → w.cell? (ad.add (i.toNat * 2 + j)) = some u := hc0
  obtain rfl := k76_open hK
  exact ⟨ad, e, hc 0 _ rfl, by rw [← add_field _ _ 1 (by omega)]; exact hc 1 _ rfl⟩
theorem ak {p : Prop} (h : p) : Aside0 p := ⟨h⟩
theorem bN {W : World} {g : Nat} {o : Obj} (h : W.heap[g]? = some o) (m : Nat) : (W.drewN m).heap[g]? = some o := blk_drewN h m
theorem bD {W : World} {g : Nat} {o : Obj} (h : W.heap[g]? = some o) : W.drew.heap[g]? = some o := blk_drew h
theorem bA {W : World} {g : Nat} {o : Obj} (h : W.heap[g]? = some o) (o' : Obj) : (W.alloc o').heap[g]? = some o := blk_alloc h o'
theorem wA {w W : World} (h : Below w.heap.size w W) (o : Obj) : Below w.heap.size w (W.alloc o) := below_alloc h o
theorem wN {B : Nat} {w W : World} (h : Below B w W) (n : Nat) : Below B w (W.drewN n) := pw_below_drewN h n
theorem wD {B : Nat} {w W : World} (h : Below B w W) : Below B w W.drew := below_drew1 h
end Go.Proofs.YtciaocdpojnmcaaGreatDoor.P
namespace Go.Proofs.YtciaocdpojnmcaaGreatDoor.P
open Go.RowKit Go.Proofs.YtciaocdpojnmcaaGreatDoorW.PrintWords Go.Proofs.YtciaocdpojnmcaaGreatDoorW.PrintLast Go.Proofs.YtciaocdpojnmcaaGreatDoorW.PrintMore
attribute [local go_sem] max2_int min2_int max_two min_two max_three min_three max_four min_four   -- for this text's walks alone
set_option linter.unusedVariables false
set_option linter.unusedSimpArgs false
def words_isPlain.f (a0 : Int) : Option (Bool) := if a0 ≥ 32 then (if a0 ≤ 126 then (if a0 = 34 then (some false) else (some (a0 != 92))) else (some false)) else (some false)
set_option maxHeartbeats 8000000 in
set_option maxRecDepth 100000 in
theorem words_isPlain.calls (a0 : Int) (r : Bool) (w : World) (h : words_isPlain.f a0 = some r) :
    Calls Tryz.prog 26 #[.int .u8 a0] w fun e w' => e = .returned (.bool r) ∧ Drawn0 w w' := by
  have H : (if a0 ≥ 32 then (if a0 ≤ 126 then (if a0 = 34 then (some false) else (some (a0 != 92))) else (some false)) else (some false)) = some r := h
  clear h
  by_cases c2 : a0 ≥ 32
  · rw [if_pos c2] at H
    have c2b0 : decide (32 ≤ a0) = true := decide_eq_true c2
    clear c2
    by_cases c3 : a0 ≤ 126
    · rw [if_pos c3] at H
      have c3b0 : decide (a0 ≤ 126) = true := decide_eq_true c3
      clear c3
      by_cases c4 : a0 = 34
      · rw [if_pos c4] at H
        have c4b0 : (a0 == 34) = true := beq_iff_eq.mpr c4
        have c4b1 : (a0 != 34) = false := bne_eq_false_iff_eq.mpr c4
        clear c4
        obtain rfl := Option.some.inj H
        go_enter Tryz.func26, Tryz.ntmps26
        go_wp2
        go_ret
        exact ⟨by first | rfl | (simp; done) | (simp [*]; done), by repeat (first | exact Drawn0.refl _ | apply Drawn0.step)⟩
      · rw [if_neg c4] at H
        have c4b0 : (a0 == 34) = false := beq_eq_false_iff_ne.mpr c4
        have c4b1 : (a0 != 34) = true := bne_iff_ne.mpr c4
        obtain rfl := Option.some.inj H
        go_enter Tryz.func26, Tryz.ntmps26
        go_wp2
        go_ret
        exact ⟨by first | rfl | (simp; done) | (simp [*]; done), by repeat (first | exact Drawn0.refl _ | apply Drawn0.step)⟩
    · rw [if_neg c3] at H
      have c3b0 : decide (a0 ≤ 126) = false := decide_eq_false c3
      clear c3
      obtain rfl := Option.some.inj H
      go_enter Tryz.func26, Tryz.ntmps26
      go_wp2
      go_ret
      exact ⟨by first | rfl | (simp; done) | (simp [*]; done), by repeat (first | exact Drawn0.refl _ | apply Drawn0.step)⟩
  · rw [if_neg c2] at H
    have c2b0 : decide (32 ≤ a0) = false := decide_eq_false c2
    clear c2
    obtain rfl := Option.some.inj H
    go_enter Tryz.func26, Tryz.ntmps26
    go_wp2
    go_ret
    exact ⟨by first | rfl | (simp; done) | (simp [*]; done), by repeat (first | exact Drawn0.refl _ | apply Drawn0.step)⟩
def words_unescape.f (a0 : ByteArray) : Option (Int × Int) := some (Wd.unescP a0)
theorem words_unescape.calls (a0 : ByteArray) (r1 : Int) (r2 : Int) (w : World) (h : words_unescape.f a0 = some (r1, r2)) (HT : Aside0 (Wd.All w)) :
    Calls Tryz.prog 49 #[.string a0] w fun e w' => e = .returned (.tuple #[.int .u8 r1, .int .i64 r2]) ∧ Below w.heap.size w w' := by
  unfold words_unescape.f at h
  have h' := Option.some.inj h
  have h1 : (Wd.unescP a0).1 = r1 := by rw [h']
  have h2 : (Wd.unescP a0).2 = r2 := by rw [h']
  subst h1; subst h2
  exact Wd.unesc_calls a0 w HT.out.esc
end Go.Proofs.YtciaocdpojnmcaaGreatDoor.P
namespace Go.Proofs.YtciaocdpojnmcaaGreatDoor.P
open Go.RowKit Go.Proofs.YtciaocdpojnmcaaGreatDoorW.PrintWords Go.Proofs.YtciaocdpojnmcaaGreatDoorW.PrintLast Go.Proofs.YtciaocdpojnmcaaGreatDoorW.PrintMore
attribute [local go_sem] max2_int min2_int max_two min_two max_three min_three max_four min_four   -- for this text's walks alone
set_option linter.unusedVariables false
set_option linter.unusedSimpArgs false
mutual
def words_unquote.j0 : Nat → ByteArray → Bool → Option (ByteArray × Int)
  | 0, _, _ => none
  | k + 1, x0, x15 => if x15 = true then (some ((⟨#[]⟩ : ByteArray), 0)) else (words_unquote.l0 k x0 ([] : List Int) 1)
def words_unquote.l0 : Nat → ByteArray → List Int → Int → Option (ByteArray × Int)
  | 0, _, _, _ => none
  | k + 1, x0, x4, x5 => if x5 < (x0.size : Int) then (if 0 ≤ x5 then (if (bt x0 x5) = 34 then (some (strOfNums x4, wrap64 (x5 + 1))) else (if (bt x0 x5) = 92 then (if 0 ≤ (wrap64 (x5 + 1)) then (if (wrap64 (x5 + 1)) ≤ (x0.size : Int) then ((words_unescape.f (x0.extract ((wrap64 (x5 + 1)) : Int).toNat x0.size)).bind fun bt103 => (if bt103.2 = 0 then (some ((⟨#[]⟩ : ByteArray), 0)) else (if x4.length < 140737488355328 then (words_unquote.l0 k x0 (x4 ++ [bt103.1]) (wrap64 ((wrap64 (x5 + bt103.2)) + 1))) else (none)))) else (none)) else (none)) else ((words_isPlain.f (bt x0 x5)).bind fun t108 => (if t108 = true then (if x4.length < 140737488355328 then (words_unquote.l0 k x0 (x4 ++ [bt x0 x5]) (wrap64 (x5 + 1))) else (none)) else (some ((⟨#[]⟩ : ByteArray), 0)))))) else (none)) else (some ((⟨#[]⟩ : ByteArray), 0))
end
def words_unquote.f (k : Nat) (a0 : ByteArray) : Option (ByteArray × Int) := if a0.toList = ([] : List UInt8) then (words_unquote.j0 k a0 true) else (if 0 < (a0.size : Int) then (words_unquote.j0 k a0 ((bt a0 0) != 34)) else (none))
set_option maxHeartbeats 8000000 in
set_option maxRecDepth 100000 in
theorem words_unquote.calls (k : Nat) (a0 : ByteArray) (r1 : ByteArray) (r2 : Int) (w : World) (h : words_unquote.f k a0 = some (r1, r2)) (HT : Aside0 (Wd.All w)) :
    Calls Tryz.prog 24 #[.string a0] w fun e w' => e = .returned (.tuple #[.string r1, .int .i64 r2]) ∧ Below w.heap.size w w' := by
  have HB := ak (Below.refl w.heap.size w)
  have H : (if a0.toList = ([] : List UInt8) then (words_unquote.j0 k a0 true) else (if 0 < (a0.size : Int) then (words_unquote.j0 k a0 ((bt a0 0) != 34)) else (none))) = some (r1, r2) := h
  clear h
  have HC2 := ak H
  clear H
  go_enter Tryz.func24, Tryz.ntmps24
  go_upto_region 1 with (fail)
  go_cut [15] (fun v15 wc => ∃ (kq : Nat) (x15_1 : Bool), v15 = .bool x15_1 ∧ Aside0 (words_unquote.j0 kq a0 x15_1 = some (r1, r2)) ∧ Aside0 (kq ≤ k) ∧ Aside0 (Below w.heap.size w wc))
  case first =>
    have H := HC2.out
    clear HC2
    by_cases c3 : a0.toList = ([] : List UInt8)
    · rw [if_pos c3] at H
      have c3b0 : (a0.toList == ([] : List UInt8)) = true := beq_iff_eq.mpr c3
      have c3b1 : (a0.toList != ([] : List UInt8)) = false := bne_eq_false_iff_eq.mpr c3
      clear c3
      (first | rw [c3b0] | (simp only [i64_w, i32_w]; rw [c3b0]) | skip)
      have H' := ak H
      clear H
      go_wp2
      go_meet
      case rel => exact ⟨_, (true), (by first | rfl | (simp; done) | (simp [*]; done)), H', ⟨by first | omega | exact Nat.le_refl _⟩, ⟨by repeat (first | (with_reducible first | exact HB.out | apply wA | apply wN | apply wD) | exact HB.out)⟩⟩
    · rw [if_neg c3] at H
      have c3b0 : (a0.toList == ([] : List UInt8)) = false := beq_eq_false_iff_ne.mpr c3
      have c3b1 : (a0.toList != ([] : List UInt8)) = true := bne_iff_ne.mpr c3
      (first | rw [c3b0] | (simp only [i64_w, i32_w]; rw [c3b0]) | skip)
      by_cases c4 : 0 < (a0.size : Int)
      · rw [if_pos c4] at H
        have c4b0 : decide (0 < (a0.size : Int)) = true := decide_eq_true c4
        have c4b1 : decide (0 < a0.size) = true := decide_eq_true (by omega)
        clear c4
        have H' := ak H
        clear H
        have p5 : 0 ≤ (0 : Int) := (by omega)
        have q5 : 0 < a0.size := (by have : (0 : Int) < (a0.size : Int) := of_decide_eq_true (by first | (with_reducible assumption) | assumption); omega)
        have hx5 : ∀ h : 0 < a0.size, ((a0[0]'h).toNat : Int) = bt a0 0 := bt_at a0 0
        clear p5
        have qi5 : (0 < (a0.size : Int)) = True := eq_true (of_decide_eq_true (by first | (with_reducible assumption) | assumption))
        replace q5 := eq_true q5
        go_wp2
        go_meet
        case rel => exact ⟨_, (((bt a0 0) != 34)), (by first | rfl | (simp; done) | (simp [*]; done)), H', ⟨by first | omega | exact Nat.le_refl _⟩, ⟨by repeat (first | (with_reducible first | exact HB.out | apply wA | apply wN | apply wD) | exact HB.out)⟩⟩
      · rw [if_neg c4] at H
        exact absurd H (by simp)
  case rest =>
    clear HC2
    try clear c2
    try clear p2
    try clear c3
    try clear c3b0
    try clear c3b1
    try clear c4
    try clear c4b0
    try clear c4b1
    try clear p5
    try clear q5
    try clear hx5
    try clear qi5
    try clear p5
    try clear q5
    obtain ⟨kq, x15_1, rfl, HA, HJ1, HB⟩ := hcut
    cases kq with
    | zero => exact absurd HA.out (by simp [words_unquote.j0])
    | succ kj1 =>
      have H := HA.out
      clear HA
      simp only [words_unquote.j0] at H
      by_cases c6 : x15_1 = true
      · subst c6
        have H1 : (some ((⟨#[]⟩ : ByteArray), 0)) = some (r1, r2) := by rw [if_pos rfl] at H; exact H
        clear H
        have H := H1
        clear H1
        simp only [Option.some.injEq, Prod.mk.injEq] at H
        obtain ⟨rfl, rfl⟩ := H
        go_wp2
        go_ret2
        exact ⟨by first | rfl | (simp [errW_none, errW_some] <;> rfl) | (simp [*, errW_none, errW_some] <;> rfl), by repeat (first | (with_reducible first | exact HB.out | apply wA | apply wN | apply wD) | exact HB.out)⟩
      · replace c6 := Bool.eq_false_iff.mpr c6
        subst c6
        have H1 : (words_unquote.l0 kj1 a0 ([] : List Int) 1) = some (r1, r2) := by rw [if_neg (show ¬ (false = true) by decide)] at H; exact H
        clear H
        have H := H1
        clear H1
        have H' := ak H
        clear H
        go_wp2
        go_loopg [4, 5] kj1 (fun kq v4 v5 w' => ∃ (x4_2 : List Int) (x5_2 : Int), v5 = .int .i64 x5_2 ∧ Aside0 (words_unquote.l0 kq a0 x4_2 x5_2 = some (r1, r2)) ∧ Aside0 (kq ≤ kj1) ∧ Aside0 (Kd.R (Kd.int .u8) 5 w' w.heap.size (fun _ => True) v4 x4_2) ∧ Aside0 (Below w.heap.size w w'))
        case atStart => exact ⟨(([] : List Int)), (1), (by first | rfl | (simp; done) | (simp [*]; done)), H', ⟨Nat.le_refl _⟩, ⟨by first | exact Kd.R_nil _ _ _ _ _ | exact Kd.N_nil _ _ _ _ _ | exact Kd.V_nil _ _ _ _ _ | exact Kd.Q_nil _ _ _ _ _ | exact Kd.S_nil _ _ _ _ _⟩, ⟨by repeat (first | (with_reducible first | exact HB.out | apply wA | apply wN | apply wD) | exact HB.out)⟩⟩
        case round =>
          clear H'
          try clear c2
          try clear p2
          try clear c3
          try clear c3b0
          try clear c3b1
          try clear c4
          try clear c4b0
          try clear c4b1
          try clear p5
          try clear q5
          try clear hx5
          try clear qi5
          try clear c6
          try clear p2
          try clear p5
          try clear q5
          obtain ⟨x4_2, x5_2, rfl, HA, HK2, HO_4, HB⟩ := hrel
          cases gk with
          | zero => exact absurd HA.out (by simp [words_unquote.l0])
          | succ k2 =>
            have H := HA.out
            clear HA
            simp only [words_unquote.l0] at H
            by_cases c7 : x5_2 < (a0.size : Int)
            · rw [if_pos c7] at H
              have c7b0 : decide (x5_2 < (a0.size : Int)) = true := decide_eq_true c7
              clear c7
              by_cases c8 : 0 ≤ x5_2
              · rw [if_pos c8] at H
                have c8b0 : decide (0 ≤ x5_2) = true := decide_eq_true c8
                clear c8
                by_cases c10 : (bt a0 x5_2) = 34
                · rw [if_pos c10] at H
                  have c10b0 : ((bt a0 x5_2) == 34) = true := beq_iff_eq.mpr c10
                  have c10b1 : ((bt a0 x5_2) != 34) = false := bne_eq_false_iff_eq.mpr c10
                  clear c10
                  simp only [Option.some.injEq, Prod.mk.injEq] at H
                  obtain ⟨rfl, rfl⟩ := H
                  have p9 : 0 ≤ (x5_2 : Int) := of_decide_eq_true (by first | (with_reducible assumption) | assumption)
                  have q9 : x5_2 < (a0.size : Int) := of_decide_eq_true (by first | (with_reducible assumption) | assumption)
                  have hx9 := bt_at a0 x5_2
                  replace p9 := eq_true p9
                  replace q9 := eq_true q9
                  have hcv11 := own_string (P := Tryz.prog) Tryz.underlying55 Tryz.underlying5 Tryz.underlying9 (Kd.own_of_R HO_4.out)
                  go_wp2
                  go_ret2
                  exact ⟨by first | rfl | (simp [errW_none, errW_some] <;> rfl) | (simp [*, errW_none, errW_some] <;> rfl), by repeat (first | (with_reducible first | exact HB.out | apply wA | apply wN | apply wD) | exact HB.out)⟩
                · rw [if_neg c10] at H
                  have c10b0 : ((bt a0 x5_2) == 34) = false := beq_eq_false_iff_ne.mpr c10
                  have c10b1 : ((bt a0 x5_2) != 34) = true := bne_iff_ne.mpr c10
                  by_cases c12 : (bt a0 x5_2) = 92
                  · rw [if_pos c12] at H
                    have c12b0 : ((bt a0 x5_2) == 92) = true := beq_iff_eq.mpr c12
                    have c12b1 : ((bt a0 x5_2) != 92) = false := bne_eq_false_iff_eq.mpr c12
                    clear c12
                    obtain ⟨ji13, hji13⟩ : ∃ j_ : Int, (wrap64 (x5_2 + 1)) = j_ := ⟨_, rfl⟩
                    replace H : (if 0 ≤ (ji13) then (if (ji13) ≤ (a0.size : Int) then ((words_unescape.f (a0.extract ((ji13) : Int).toNat a0.size)).bind fun bt103 => (if bt103.2 = 0 then (some ((⟨#[]⟩ : ByteArray), 0)) else (if x4_2.length < 140737488355328 then (words_unquote.l0 k2 a0 (x4_2 ++ [bt103.1]) (wrap64 ((wrap64 (x5_2 + bt103.2)) + 1))) else (none)))) else (none)) else (none)) = some (r1, r2) := by first | (rw [hji13] at H; exact H) | (simp only [hji13] at H ⊢; exact H)
                    have hji13w : (IntKind.i64.wrap (x5_2 + 1)) = ji13 := (i64_w _).trans hji13
                    by_cases c14 : 0 ≤ (ji13)
                    · rw [if_pos c14] at H
                      have c14b0 := eq_true c14
                      have c14b1 : decide (0 ≤ (ji13)) = true := decide_eq_true c14
                      clear c14
                      by_cases c15 : (ji13) ≤ (a0.size : Int)
                      · rw [if_pos c15] at H
                        have c15b0 := eq_true c15
                        have c15b1 : decide ((ji13) ≤ (a0.size : Int)) = true := decide_eq_true c15
                        clear c15
                        replace H := Option.bind_eq_some_iff.mp H
                        obtain ⟨⟨t103, t104⟩, A160, H⟩ := H
                        replace H : (if t104 = 0 then (some ((⟨#[]⟩ : ByteArray), 0)) else (if x4_2.length < 140737488355328 then (words_unquote.l0 k2 a0 (x4_2 ++ [t103]) (wrap64 ((wrap64 (x5_2 + t104)) + 1))) else (none))) = some (r1, r2) := H
                        have A16 := ak A160
                        clear A160
                        by_cases c17 : t104 = 0
                        · rw [if_pos c17] at H
                          have c17b0 : (t104 == 0) = true := beq_iff_eq.mpr c17
                          have c17b1 : (t104 != 0) = false := bne_eq_false_iff_eq.mpr c17
                          clear c17
                          simp only [Option.some.injEq, Prod.mk.injEq] at H
                          obtain ⟨rfl, rfl⟩ := H
                          have p9 : 0 ≤ (x5_2 : Int) := of_decide_eq_true (by first | (with_reducible assumption) | assumption)
                          have q9 : x5_2 < (a0.size : Int) := of_decide_eq_true (by first | (with_reducible assumption) | assumption)
                          have hx9 := bt_at a0 x5_2
                          replace p9 := eq_true p9
                          replace q9 := eq_true q9
                          go_wp2_with (first | ((with_reducible refine gate_callee (f := 49) rfl ?_); refine goesL_ (some 40) rfl rfl Tryz.func49 (by kernel_rfl) rfl #[.string (a0.extract ((ji13) : Int).toNat a0.size)] rfl (by (try simp only [List.map_toArray, List.map_cons, List.map_nil]); first | done | (simp only [hji13]; rfl) | rfl | (simp only [List.length_drop, List.length_take]; rfl)) ?_; (with_reducible refine (words_unescape.calls (a0.extract ((ji13) : Int).toNat a0.size) t103 t104 _ A16.out ⟨Wd.All.stay HT.out (by repeat (first | (with_reducible first | exact HB.out | apply wA | apply wN | apply wD) | exact HB.out | (refine below_set ?_ (by assumption)) | (refine below_set ?_ (Aside0.out (by assumption)))))⟩).mono ?_); rintro e w18 ⟨rfl, hb⟩; refine ⟨_, rfl, ?_⟩; have n0_ := ak (Kd.R_below (by (with_reducible repeat (first | apply Kd.R_alloc | apply Kd.R_drewN | apply Kd.R_drew)); exact HO_4.out) hb); have n1_ := ak (below_step (by repeat (first | (with_reducible first | exact HB.out | apply wA | apply wN | apply wD) | exact HB.out)) hb); clear HO_4; clear HB; have HO_4 := n0_; have HB := n1_; clear n0_ n1_; (try clear hb); (try clear hb2); (try clear hk); (try clear hi)))
                          go_ret2
                          exact ⟨by first | rfl | (simp [errW_none, errW_some] <;> rfl) | (simp only [← hji13]; first | rfl | (simp [errW_none, errW_some] <;> rfl)) | (simp [*, errW_none, errW_some] <;> rfl), by repeat (first | (with_reducible first | exact HB.out | apply wA | apply wN | apply wD) | exact HB.out)⟩
                        · rw [if_neg c17] at H
                          have c17b0 : (t104 == 0) = false := beq_eq_false_iff_ne.mpr c17
                          have c17b1 : (t104 != 0) = true := bne_iff_ne.mpr c17
                          by_cases c19 : x4_2.length < 140737488355328
                          · rw [if_pos c19] at H
                            have LMc19 := ak c19
                            clear c19
                            obtain ⟨y105, hy105⟩ : ∃ y_ : List Int, y_ = (x4_2 ++ [t103]) := ⟨_, rfl⟩
                            replace H : (words_unquote.l0 k2 a0 y105 (wrap64 ((wrap64 (x5_2 + t104)) + 1))) = some (r1, r2) := by first | (rw [hy105]; with_reducible exact H) | (have H2_ := (Option.bind_some _ _).symm.trans H; rw [hy105]; with_reducible exact H2_) | (have H2_ := (Option.bind_some _ _).symm.trans H; with_reducible exact H2_) | with_reducible exact H | (rw [hy105]; exact H) | exact H
                            have Ny105 := ak hy105
                            clear hy105
                            have H' := ak H
                            clear H
                            have p9 : 0 ≤ (x5_2 : Int) := of_decide_eq_true (by first | (with_reducible assumption) | assumption)
                            have q9 : x5_2 < (a0.size : Int) := of_decide_eq_true (by first | (with_reducible assumption) | assumption)
                            have hx9 := bt_at a0 x5_2
                            replace p9 := eq_true p9
                            replace q9 := eq_true q9
                            go_wp2_with (first | ((with_reducible refine gate_callee (f := 49) rfl ?_); refine goesL_ (some 40) rfl rfl Tryz.func49 (by kernel_rfl) rfl #[.string (a0.extract ((ji13) : Int).toNat a0.size)] rfl (by (try simp only [List.map_toArray, List.map_cons, List.map_nil]); first | done | (simp only [hji13]; rfl) | rfl | (simp only [List.length_drop, List.length_take]; rfl)) ?_; (with_reducible refine (words_unescape.calls (a0.extract ((ji13) : Int).toNat a0.size) t103 t104 _ A16.out ⟨Wd.All.stay HT.out (by repeat (first | (with_reducible first | exact HB.out | apply wA | apply wN | apply wD) | exact HB.out | (refine below_set ?_ (by assumption)) | (refine below_set ?_ (Aside0.out (by assumption)))))⟩).mono ?_); rintro e w20 ⟨rfl, hb⟩; refine ⟨_, rfl, ?_⟩; have n0_ := ak (Kd.R_below (by (with_reducible repeat (first | apply Kd.R_alloc | apply Kd.R_drewN | apply Kd.R_drew)); exact HO_4.out) hb); have n1_ := ak (below_step (by repeat (first | (with_reducible first | exact HB.out | apply wA | apply wN | apply wD) | exact HB.out)) hb); clear HO_4; clear HB; have HO_4 := n0_; have HB := n1_; clear n0_ n1_; (try clear hb); (try clear hb2); (try clear hk); (try clear hi)) | ((with_reducible refine gate_builtin (b := .append) (xs := #[.tmp 45, .tmp 47]) rfl ?_); at_builtin; refine Kd.R_append (Kd.int .u8) (w0 := w) w.heap.size rfl (.tmp 45) (.tmp 47) 55 5 (.int .u8 0) 1 rfl Tryz.underlying55 info5 rfl (by decide) (by omega) u4 x4_2 t103 [.int .u8 t103] (fun _ => True) (fun _ => False) rfl rfl ?aP (fun _ hk => hk.elim) ?aF ?aO ?aB ?aS ?aL ?_; (case aP => exact rfl); (case aB => exact (by repeat (first | (with_reducible first | exact HB.out | apply wA | apply wN | apply wD) | exact HB.out))); (case aF => exact (fun _ _ => trivial)); (case aO => exact (by (with_reducible repeat (first | apply Kd.R_alloc | apply Kd.R_drewN | apply Kd.R_drew)); exact HO_4.out)); (case aS => exact (below_size (by repeat (first | (with_reducible first | exact HB.out | apply wA | apply wN | apply wD) | exact HB.out)))); (case aL => have := LMc19.out; omega); intro v106 w21 ho hb hg hat; rw [← Ny105.out] at ho; have n0_ := ak (hb); have n1_ := ak (ho); clear HB; clear HO_4; have HB := n0_; have HO107 := n1_; clear n0_ n1_; clear ho hb hg hat))
                            go_roundg k2
                            case measure => have := HJ1.out; have := HK2.out; omega
                            case rel => exact ⟨(y105), (wrap64 ((wrap64 (x5_2 + t104)) + 1)), (by first | rfl | (simp; done) | (simp [*]; done)), H', ⟨by have := HJ1.out; have := HK2.out; omega⟩, ⟨by (with_reducible repeat (first | apply Kd.R_alloc | apply Kd.R_drewN | apply Kd.R_drew)); exact HO107.out⟩, ⟨by repeat (first | (with_reducible first | exact HB.out | apply wA | apply wN | apply wD) | exact HB.out)⟩⟩
                          · rw [if_neg c19] at H
                            exact absurd H (by simp)
                      · rw [if_neg c15] at H
                        exact absurd H (by simp)
                    · rw [if_neg c14] at H
                      exact absurd H (by simp)
                  · rw [if_neg c12] at H
                    have c12b0 : ((bt a0 x5_2) == 92) = false := beq_eq_false_iff_ne.mpr c12
                    have c12b1 : ((bt a0 x5_2) != 92) = true := bne_iff_ne.mpr c12
                    replace H := Option.bind_eq_some_iff.mp H
                    obtain ⟨t108, A220, H⟩ := H
                    replace H : (if t108 = true then (if x4_2.length < 140737488355328 then (words_unquote.l0 k2 a0 (x4_2 ++ [bt a0 x5_2]) (wrap64 (x5_2 + 1))) else (none)) else (some ((⟨#[]⟩ : ByteArray), 0))) = some (r1, r2) := H
                    have A22 := ak A220
                    clear A220
                    by_cases c23 : t108 = true
                    · subst c23
                      have H1 : (if x4_2.length < 140737488355328 then (words_unquote.l0 k2 a0 (x4_2 ++ [bt a0 x5_2]) (wrap64 (x5_2 + 1))) else (none)) = some (r1, r2) := by rw [if_pos rfl] at H; exact H
                      clear H
                      have H := H1
                      clear H1
                      by_cases c24 : x4_2.length < 140737488355328
                      · rw [if_pos c24] at H
                        have LMc24 := ak c24
                        clear c24
                        obtain ⟨y109, hy109⟩ : ∃ y_ : List Int, y_ = (x4_2 ++ [bt a0 x5_2]) := ⟨_, rfl⟩
                        replace H : (words_unquote.l0 k2 a0 y109 (wrap64 (x5_2 + 1))) = some (r1, r2) := by first | (rw [hy109]; with_reducible exact H) | (have H2_ := (Option.bind_some _ _).symm.trans H; rw [hy109]; with_reducible exact H2_) | (have H2_ := (Option.bind_some _ _).symm.trans H; with_reducible exact H2_) | with_reducible exact H | (rw [hy109]; exact H) | exact H
                        have Ny109 := ak hy109
                        clear hy109
                        have H' := ak H
                        clear H
                        have p9 : 0 ≤ (x5_2 : Int) := of_decide_eq_true (by first | (with_reducible assumption) | assumption)
                        have q9 : x5_2 < (a0.size : Int) := of_decide_eq_true (by first | (with_reducible assumption) | assumption)
                        have hx9 := bt_at a0 x5_2
                        replace p9 := eq_true p9
                        replace q9 := eq_true q9
                        go_wp2_with (first | ((with_reducible refine gate_callee (f := 26) rfl ?_); refine goesL_ (some 54) rfl rfl Tryz.func26 (by kernel_rfl) rfl #[.int .u8 (bt a0 x5_2)] rfl (by (try simp only [List.map_toArray, List.map_cons, List.map_nil]); first | done | rfl | (simp only [List.length_drop, List.length_take]; rfl)) ?_; (with_reducible refine (words_isPlain.calls (bt a0 x5_2) true _ A22.out).mono ?_); rintro e w' ⟨rfl, ⟨nd, rfl⟩⟩; refine ⟨_, rfl, ?_⟩) | ((with_reducible refine gate_builtin (b := .append) (xs := #[.tmp 55, .tmp 57]) rfl ?_); at_builtin; refine Kd.R_append (Kd.int .u8) (w0 := w) w.heap.size rfl (.tmp 55) (.tmp 57) 55 5 (.int .u8 0) 1 rfl Tryz.underlying55 info5 rfl (by decide) (by omega) u4 x4_2 (bt a0 x5_2) [.int .u8 (bt a0 x5_2)] (fun _ => True) (fun _ => False) rfl rfl ?aP (fun _ hk => hk.elim) ?aF ?aO ?aB ?aS ?aL ?_; (case aP => exact rfl); (case aB => exact (by repeat (first | (with_reducible first | exact HB.out | apply wA | apply wN | apply wD) | exact HB.out))); (case aF => exact (fun _ _ => trivial)); (case aO => exact (by (with_reducible repeat (first | apply Kd.R_alloc | apply Kd.R_drewN | apply Kd.R_drew)); exact HO_4.out)); (case aS => exact (below_size (by repeat (first | (with_reducible first | exact HB.out | apply wA | apply wN | apply wD) | exact HB.out)))); (case aL => have := LMc24.out; omega); intro v110 w25 ho hb hg hat; rw [← Ny109.out] at ho; have n0_ := ak (hb); have n1_ := ak (ho); clear HB; clear HO_4; have HB := n0_; have HO111 := n1_; clear n0_ n1_; clear ho hb hg hat))
                        go_roundg k2
                        case measure => have := HJ1.out; have := HK2.out; omega
                        case rel => exact ⟨(y109), (wrap64 (x5_2 + 1)), (by first | rfl | (simp; done) | (simp [*]; done)), H', ⟨by have := HJ1.out; have := HK2.out; omega⟩, ⟨by (with_reducible repeat (first | apply Kd.R_alloc | apply Kd.R_drewN | apply Kd.R_drew)); exact HO111.out⟩, ⟨by repeat (first | (with_reducible first | exact HB.out | apply wA | apply wN | apply wD) | exact HB.out)⟩⟩
                      · rw [if_neg c24] at H
                        exact absurd H (by simp)
                    · replace c23 := Bool.eq_false_iff.mpr c23
                      subst c23
                      have H1 : (some ((⟨#[]⟩ : ByteArray), 0)) = some (r1, r2) := by rw [if_neg (show ¬ (false = true) by decide)] at H; exact H
                      clear H
                      have H := H1
                      clear H1
                      simp only [Option.some.injEq, Prod.mk.injEq] at H
                      obtain ⟨rfl, rfl⟩ := H
                      have p9 : 0 ≤ (x5_2 : Int) := of_decide_eq_true (by first | (with_reducible assumption) | assumption)
                      have q9 : x5_2 < (a0.size : Int) := of_decide_eq_true (by first | (with_reducible assumption) | assumption)
                      have hx9 := bt_at a0 x5_2
                      replace p9 := eq_true p9
                      replace q9 := eq_true q9
                      go_wp2_with (first | ((with_reducible refine gate_callee (f := 26) rfl ?_); refine goesL_ (some 54) rfl rfl Tryz.func26 (by kernel_rfl) rfl #[.int .u8 (bt a0 x5_2)] rfl (by (try simp only [List.map_toArray, List.map_cons, List.map_nil]); first | done | rfl | (simp only [List.length_drop, List.length_take]; rfl)) ?_; (with_reducible refine (words_isPlain.calls (bt a0 x5_2) false _ A22.out).mono ?_); rintro e w' ⟨rfl, ⟨nd, rfl⟩⟩; refine ⟨_, rfl, ?_⟩))
                      go_ret2
                      exact ⟨by first | rfl | (simp [errW_none, errW_some] <;> rfl) | (simp [*, errW_none, errW_some] <;> rfl), by repeat (first | (with_reducible first | exact HB.out | apply wA | apply wN | apply wD) | exact HB.out)⟩
              · rw [if_neg c8] at H
                exact absurd H (by simp)
            · rw [if_neg c7] at H
              have c7b0 : decide (x5_2 < (a0.size : Int)) = false := decide_eq_false c7
              clear c7
              simp only [Option.some.injEq, Prod.mk.injEq] at H
              obtain ⟨rfl, rfl⟩ := H
              go_wp2
              go_ret2
              exact ⟨by first | rfl | (simp [errW_none, errW_some] <;> rfl) | (simp [*, errW_none, errW_some] <;> rfl), by repeat (first | (with_reducible first | exact HB.out | apply wA | apply wN | apply wD) | exact HB.out)⟩
end Go.Proofs.YtciaocdpojnmcaaGreatDoor.P
namespace Go.Proofs.YtciaocdpojnmcaaGreatDoor.P
open Go.RowKit Go.Proofs.YtciaocdpojnmcaaGreatDoorW.PrintWords Go.Proofs.YtciaocdpojnmcaaGreatDoorW.PrintLast Go.Proofs.YtciaocdpojnmcaaGreatDoorW.PrintMore
attribute [local go_sem] max2_int min2_int max_two min_two max_three min_three max_four min_four   -- for this text's walks alone
set_option linter.unusedVariables false
set_option linter.unusedSimpArgs false
def words_isBare.l0 : Nat → ByteArray → Int → Int → Option (Bool)
  | 0, _, _, _ => none
  | k + 1, x0, x5, x6 => if x6 < x5 then (if 0 ≤ x6 then (if x6 < (x0.size : Int) then ((words_isPlain.f (bt x0 x6)).bind fun t337 => (if t337 = true then (if (bt x0 x6) = 32 then (some false) else (words_isBare.l0 k x0 x5 (wrap64 (x6 + 1)))) else (some false))) else (none)) else (none)) else (some (x0.toList != ([] : List UInt8)))
def words_isBare.f (k : Nat) (a0 : ByteArray) : Option (Bool) := words_isBare.l0 k a0 (a0.size : Int) 0
set_option maxHeartbeats 8000000 in
set_option maxRecDepth 100000 in
theorem words_isBare.calls (k : Nat) (a0 : ByteArray) (r : Bool) (w : World) (h : words_isBare.f k a0 = some r) :
    Calls Tryz.prog 22 #[.string a0] w fun e w' => e = .returned (.bool r) ∧ Drawn0 w w' := by
  have H : (words_isBare.l0 k a0 (a0.size : Int) 0) = some r := h
  clear h
  have H' := ak H
  clear H
  go_enter Tryz.func22, Tryz.ntmps22
  go_wp2
  go_loopg [6] k (fun kq v6 w' => ∃ (x6_1 : Int), v6 = .int .i64 x6_1 ∧ Aside0 (words_isBare.l0 kq a0 (a0.size : Int) x6_1 = some r) ∧ Aside0 (kq ≤ k) ∧ Drawn0 w w')
  case atStart => exact ⟨(0), (by first | rfl | (simp; done) | (simp [*]; done)), H', ⟨Nat.le_refl _⟩, by repeat (first | exact Drawn0.refl _ | apply Drawn0.step)⟩
  case round =>
    clear H'
    obtain ⟨x6_1, rfl, HA, HK1, ⟨m1, rfl⟩⟩ := hrel
    cases gk with
    | zero => exact absurd HA.out (by simp [words_isBare.l0])
    | succ k1 =>
      have H := HA.out
      clear HA
      simp only [words_isBare.l0] at H
      by_cases c2 : x6_1 < (a0.size : Int)
      · rw [if_pos c2] at H
        have c2b0 : decide (x6_1 < (a0.size : Int)) = true := decide_eq_true c2
        clear c2
        by_cases c3 : 0 ≤ x6_1
        · rw [if_pos c3] at H
          have c3b0 : decide (0 ≤ x6_1) = true := decide_eq_true c3
          clear c3
          by_cases c4 : x6_1 < (a0.size : Int)
          · rw [if_pos c4] at H
            have c4b0 : decide (x6_1 < (a0.size : Int)) = true := decide_eq_true c4
            clear c4
            replace H := Option.bind_eq_some_iff.mp H
            obtain ⟨t337, A60, H⟩ := H
            replace H : (if t337 = true then (if (bt a0 x6_1) = 32 then (some false) else (words_isBare.l0 k1 a0 (a0.size : Int) (wrap64 (x6_1 + 1)))) else (some false)) = some r := H
            have A6 := ak A60
            clear A60
            by_cases c7 : t337 = true
            · subst c7
              have H1 : (if (bt a0 x6_1) = 32 then (some false) else (words_isBare.l0 k1 a0 (a0.size : Int) (wrap64 (x6_1 + 1)))) = some r := by rw [if_pos rfl] at H; exact H
              clear H
              have H := H1
              clear H1
              by_cases c9 : (bt a0 x6_1) = 32
              · rw [if_pos c9] at H
                have c9b0 : ((bt a0 x6_1) == 32) = true := beq_iff_eq.mpr c9
                have c9b1 : ((bt a0 x6_1) != 32) = false := bne_eq_false_iff_eq.mpr c9
                clear c9
                obtain rfl := Option.some.inj H
                have p5 : 0 ≤ (x6_1 : Int) := of_decide_eq_true (by first | (with_reducible assumption) | assumption)
                have q5 : x6_1 < (a0.size : Int) := of_decide_eq_true (by first | (with_reducible assumption) | assumption)
                have hx5 := bt_at a0 x6_1
                replace p5 := eq_true p5
                replace q5 := eq_true q5
                go_wp2_with (first | ((with_reducible refine gate_callee (f := 26) rfl ?_); refine goesL_ (some 12) rfl rfl Tryz.func26 (by kernel_rfl) rfl #[.int .u8 (bt a0 x6_1)] rfl (by (try simp only [List.map_toArray, List.map_cons, List.map_nil]); first | done | rfl | (simp only [List.length_drop, List.length_take]; rfl)) ?_; (with_reducible refine (words_isPlain.calls (bt a0 x6_1) true _ A6.out).mono ?_); rintro e w' ⟨rfl, ⟨nd, rfl⟩⟩; refine ⟨_, rfl, ?_⟩; have p8 : 0 ≤ (x6_1 : Int) := of_decide_eq_true (by first | (with_reducible assumption) | assumption); have q8 : x6_1 < (a0.size : Int) := of_decide_eq_true (by first | (with_reducible assumption) | assumption); have hx8 := bt_at a0 x6_1; replace p8 := eq_true p8; replace q8 := eq_true q8))
                go_ret
                exact ⟨by first | rfl | (simp; done) | (simp [*]; done), by repeat (first | exact Drawn0.refl _ | apply Drawn0.step)⟩
              · rw [if_neg c9] at H
                have c9b0 : ((bt a0 x6_1) == 32) = false := beq_eq_false_iff_ne.mpr c9
                have c9b1 : ((bt a0 x6_1) != 32) = true := bne_iff_ne.mpr c9
                have H' := ak H
                clear H
                have p5 : 0 ≤ (x6_1 : Int) := of_decide_eq_true (by first | (with_reducible assumption) | assumption)
                have q5 : x6_1 < (a0.size : Int) := of_decide_eq_true (by first | (with_reducible assumption) | assumption)
                have hx5 := bt_at a0 x6_1
                replace p5 := eq_true p5
                replace q5 := eq_true q5
                go_wp2_with (first | ((with_reducible refine gate_callee (f := 26) rfl ?_); refine goesL_ (some 12) rfl rfl Tryz.func26 (by kernel_rfl) rfl #[.int .u8 (bt a0 x6_1)] rfl (by (try simp only [List.map_toArray, List.map_cons, List.map_nil]); first | done | rfl | (simp only [List.length_drop, List.length_take]; rfl)) ?_; (with_reducible refine (words_isPlain.calls (bt a0 x6_1) true _ A6.out).mono ?_); rintro e w' ⟨rfl, ⟨nd, rfl⟩⟩; refine ⟨_, rfl, ?_⟩; have p8 : 0 ≤ (x6_1 : Int) := of_decide_eq_true (by first | (with_reducible assumption) | assumption); have q8 : x6_1 < (a0.size : Int) := of_decide_eq_true (by first | (with_reducible assumption) | assumption); have hx8 := bt_at a0 x6_1; replace p8 := eq_true p8; replace q8 := eq_true q8))
                go_roundg k1
                case measure => have := HK1.out; omega
                case rel => exact ⟨(wrap64 (x6_1 + 1)), (by first | rfl | (simp; done) | (simp [*]; done)), H', ⟨by have := HK1.out; omega⟩, by repeat (first | exact Drawn0.refl _ | apply Drawn0.step)⟩
            · replace c7 := Bool.eq_false_iff.mpr c7
              subst c7
              have H1 : (some false) = some r := by rw [if_neg (show ¬ (false = true) by decide)] at H; exact H
              clear H
              have H := H1
              clear H1
              obtain rfl := Option.some.inj H
              have p5 : 0 ≤ (x6_1 : Int) := of_decide_eq_true (by first | (with_reducible assumption) | assumption)
              have q5 : x6_1 < (a0.size : Int) := of_decide_eq_true (by first | (with_reducible assumption) | assumption)
              have hx5 := bt_at a0 x6_1
              replace p5 := eq_true p5
              replace q5 := eq_true q5
              go_wp2_with (first | ((with_reducible refine gate_callee (f := 26) rfl ?_); refine goesL_ (some 12) rfl rfl Tryz.func26 (by kernel_rfl) rfl #[.int .u8 (bt a0 x6_1)] rfl (by (try simp only [List.map_toArray, List.map_cons, List.map_nil]); first | done | rfl | (simp only [List.length_drop, List.length_take]; rfl)) ?_; (with_reducible refine (words_isPlain.calls (bt a0 x6_1) false _ A6.out).mono ?_); rintro e w' ⟨rfl, ⟨nd, rfl⟩⟩; refine ⟨_, rfl, ?_⟩))
              go_ret
              exact ⟨by first | rfl | (simp; done) | (simp [*]; done), by repeat (first | exact Drawn0.refl _ | apply Drawn0.step)⟩
          · rw [if_neg c4] at H
            exact absurd H (by simp)
        · rw [if_neg c3] at H
          exact absurd H (by simp)
      · rw [if_neg c2] at H
        have c2b0 : decide (x6_1 < (a0.size : Int)) = false := decide_eq_false c2
        clear c2
        obtain rfl := Option.some.inj H
        go_wp2
        go_ret
        exact ⟨by first | rfl | (simp; done) | (simp [*]; done) | (cases a0.toList <;> rfl) | (simp; cases a0.toList <;> rfl), by repeat (first | exact Drawn0.refl _ | apply Drawn0.step)⟩
end Go.Proofs.YtciaocdpojnmcaaGreatDoor.P
namespace Go.Proofs.YtciaocdpojnmcaaGreatDoor.P
open Go.RowKit Go.Proofs.YtciaocdpojnmcaaGreatDoorW.PrintWords Go.Proofs.YtciaocdpojnmcaaGreatDoorW.PrintLast Go.Proofs.YtciaocdpojnmcaaGreatDoorW.PrintMore
attribute [local go_sem] max2_int min2_int max_two min_two max_three min_three max_four min_four   -- for this text's walks alone
set_option linter.unusedVariables false
set_option linter.unusedSimpArgs false
section
attribute [local go_sem] Oper.semAt_some
set_option maxHeartbeats 1000000 in
theorem Wd.fields_in (n : Nat) (s : ByteArray) (w : World) :
    CallsIn Fence.wide n Tryz.prog 21 #[.string s] w fun e w' => e = .returned (.func (.func 47) #[] #[.pointer (some ⟨w.heap.size, 0, none⟩)]) ∧ w' = w.alloc (.cells #[.string s] 9) := by
  refine callsIn_of_wp Tryz.func21 rfl trivial ?_ rfl
  simp only [Tryz.ntmps21, List.size_toArray, List.length_cons, List.length_nil, Nat.reduceAdd, Nat.reduceSub, Array.replicate_succ, Array.replicate_zero, List.push_toArray, List.append_toArray, List.nil_append, List.cons_append]
  gi_wp2
  go_ret
  exact ⟨rfl, rfl⟩
/-- The field that stands first (and how many bytes it has there), if there is one. -/
def Wd.fieldOf (K : Nat) (rest : ByteArray) : Option (Option (S47 × Int)) := (words_unquote.f K rest).bind fun t => if 0 < t.2 then some (some (⟨t.1, true⟩, t.2)) else if rest.size ≤ 1000000 then (words_isBare.f K (Wd.ahead rest 32)).bind fun b => if b = true then some (some (⟨Wd.ahead rest 32, false⟩, ((Wd.ahead rest 32).size : Int))) else some none else none
/-- Behind a field f of n bytes; G: what is yielded behind it. -/
def Wd.afterG (G : ByteArray → Option (List (S47 × Bool))) (rest : ByteArray) (f : S47) (n : Int) : Option (List (S47 × Bool)) := if 0 ≤ n ∧ n ≤ (rest.size : Int) then
        (if (rest.extract n.toNat rest.size).toList = [] then some [(f, true)]
         else if bt (rest.extract n.toNat rest.size) 0 = 32 then (G ((rest.extract n.toNat rest.size).extract 1 (rest.extract n.toNat rest.size).size)).map (fun l => (f, true) :: l)
         else some [(z47, false)])
      else none
/-- What is yielded. -/
def Wd.fieldsP (K : Nat) : Nat → ByteArray → Option (List (S47 × Bool))
  | 0, _ => none
  | g + 1, rest => (Wd.fieldOf K rest).bind fun o => match o with
    | none => some [(z47, false)]
    | some (f, n) => Wd.afterG (Wd.fieldsP K g) rest f n
/-- A block of the iterator's own beside the consumer's box Bl: the box's row is another block. -/
structure Wd.PK (Bl k : Nat) (x : Array Value) (W : World) : Prop where
  box : ∃ v, W.heap[Bl]? = some (.cells #[v] 22 (0, 0)) ∧ v.ownBlock ≠ some k
  own : W.heap[k]? = some (.cells x 47 (0, 0))
  far : Bl ≠ k
/-- What the consumer keeps. -/
def Wd.KF (Bl : Nat) (W W' : World) : Prop := (∀ k x, Wd.PK Bl k x W → Wd.PK Bl k x W') ∧ (Wd.All W → Wd.All W')
theorem Wd.KF.t {Bl : Nat} {U V X : World} (h : Wd.KF Bl U V) (h' : Wd.KF Bl V X) : Wd.KF Bl U X := ⟨fun k x e => h'.1 k x (h.1 k x e), fun e => h'.2 (h.2 e)⟩
theorem Wd.PK.below {Bl k : Nat} {x : Array Value} {W W' : World} (h : Wd.PK Bl k x W) (hb : Below W.heap.size W W') : Wd.PK Bl k x W' := by
  obtain ⟨⟨v, h1, h2⟩, h3, h4⟩ := h
  exact ⟨⟨v, blk_below h1 hb, h2⟩, blk_below h3 hb, h4⟩
theorem Wd.PK.put {Bl k : Nat} {x : Array Value} {W : World} (h : Wd.PK Bl k x W) (i : Nat) (u : Value) (y : Array Value) (e : x.setIfInBounds i u = y) : Wd.PK Bl k y (W.setCell ⟨k, i, none⟩ u) := by
  obtain ⟨⟨v, h1, h2⟩, h3, h4⟩ := h
  exact ⟨⟨v, blk_far h1 h4 _, h2⟩, blk_put h3 i u e, h4⟩
theorem Wd.gb {W W' : World} (h : Below W.heap.size W W') : W.grownBy W' none := ⟨h.os, h.tape, h.output, h.size, fun k hk _ => h.block k hk⟩
theorem Wd.gs (W : World) (k i : Nat) (u : Value) : W.grownBy (W.setCell ⟨k, i, none⟩ u) (some k) := ⟨by simp [World.setCell], by simp [World.setCell], by simp [World.setCell], by simp [World.setCell], fun b _ hne => Below.heap_setCell W ⟨k, i, none⟩ u b (fun e => hne (by rw [e]))⟩
theorem Wd.PK.cells {Bl k : Nat} {a b : Value} {W : World} (h : Wd.PK Bl k #[a, b] W) : W.cell? ⟨k, 0, none⟩ = some a ∧ W.frozen? ⟨k, 0, none⟩ = false ∧ W.cell? ⟨k, 1, none⟩ = some b ∧ W.frozen? ⟨k, 1, none⟩ = false := by
  have h1 := h.own
  refine ⟨?_, ?_, ?_, ?_⟩ <;> simp [World.cell?, World.frozen?, h1]
theorem Wd.All.far {W W' : World} (h : Wd.All W) (hb : Below 5 W W') : Wd.All W' := by
  have hc : ∀ {g j : Nat} {v : Value}, g < 5 → W.cell? ⟨g, j, none⟩ = some v → W'.cell? ⟨g, j, none⟩ = some v := fun hg h => (hb.cell (show (⟨_, _, none⟩   : Addr).block < 5 from hg)).trans h
  obtain ⟨h1, ⟨e0, e1, e2, e3, e4, e5, e6, e7, e8, e9⟩, ⟨t, p, h3⟩, mm, h4⟩ := h
  have hT : Wd.Tab W' := by
    have hg : Tryz.prog.globalNamed "internal/strconv.uint64pow10" = some 4 := by kernel_rfl
    have h' : W.var? Tryz.prog "internal/strconv.uint64pow10" = _ := h1
    show W'.var? Tryz.prog "internal/strconv.uint64pow10" = _
    unfold World.var? at h' ⊢
    rw [hg] at h' ⊢
    simp only [Option.bind_some] at h' ⊢
    rw [hb.block 4 (by omega)]
    exact h'
  exact ⟨hT, ⟨hc (by omega) e0, hc (by omega) e1, hc (by omega) e2, hc (by omega) e3, hc (by omega) e4, hc (by omega) e5, hc (by omega) e6, hc (by omega) e7, hc (by omega) e8, hc (by omega) e9⟩, ⟨t, p, hc (by omega) h3⟩, mm, hc (by omega) h4⟩
theorem Wd.All.size {W : World} (h : Wd.All W) : 5 ≤ W.heap.size := by
  obtain ⟨m, hm⟩ := h.mx
  have h1 := World.block_lt_of_cell? W _ hm
  have hg : Tryz.prog.globalNamed "internal/strconv.uint64pow10" = some 4 := by kernel_rfl
  have h' : W.var? Tryz.prog "internal/strconv.uint64pow10" = _ := h.pow
  unfold World.var? at h'
  rw [hg] at h'
  simp only [Option.bind_some] at h'
  have h2 : 4 < W.heap.size := by
    rcases Nat.lt_or_ge 4 W.heap.size with h1 | h1
    · exact h1
    · rw [Array.getElem?_eq_none h1] at h'; cases h'
  dsimp only at h1
  omega
theorem Wd.All.put {k i : Nat} {u : Value} {W : World} (h : Wd.All W) (hk : 4 < k) : Wd.All (W.setCell ⟨k, i, none⟩ u) := h.far ((Below.refl 5 W).setCell (p := ⟨k, i, none⟩) (by show 5 ≤ k; omega) _)
set_option maxRecDepth 100000 in
set_option maxHeartbeats 4000000 in
theorem Wd.iter (n : Nat) (hn : 1 ≤ n) (l Bs Bl K : Nat) (s : ByteArray) (rs : List (S47 × Bool)) (g0 : Nat) (hf : Wd.fieldsP K g0 s = some rs) (J Jx : List (S47 × Bool) → World → Prop) (w : World) (hbs : w.cell? ⟨Bs, 0, none⟩ = some (.string s)) (hall : Wd.All w) (hbl : w.heap[Bl]? = some (.cells #[.slice none 0 0] 22 (0, 0))) (h9 : 4 < w.heap.size)
    (hJd : ∀ s A B row, J s A → A.grownBy B row → (∀ r, row = some r → r = w.heap.size) → J s B)
    (hY : ∀ pre x W1, J pre W1 → (∃ post, pre ++ x :: post = rs) → YieldAt Fence.wide (n - 1) Tryz.prog l #[.agg #[.string (x : S47 × Bool).1.f0, .bool x.1.f1], .bool x.2] W1 fun e W' =>
      (e = .returned (.bool true) ∧ J (pre ++ [x]) W' ∧ Wd.KF Bl W1 W') ∨ (e = .returned (.bool false) ∧ Jx (pre ++ [x]) W'))
    (h0 : J [] w) :
    CallsIn Fence.wide n Tryz.prog 47 #[.func (.yield l) #[] #[], .pointer (some ⟨Bs, 0, none⟩)] w fun e W' => (∃ v, e = .returned v) ∧ (J rs W' ∨ ∃ pre, Jx pre W') := by
  refine callsIn_of_wp Tryz.func47 rfl trivial ?_ rfl
  simp only [Tryz.ntmps47, List.size_toArray, List.length_cons, List.length_nil, Nat.reduceAdd, Nat.reduceSub, Array.replicate_succ, Array.replicate_zero, List.push_toArray, List.append_toArray, List.nil_append, List.cons_append]
  obtain ⟨Bf, hBf⟩ : ∃ Bf, w.heap.size = Bf := ⟨_, rfl⟩
  have HJ := ak hJd
  have HY := ak hY
  have HF := ak hf
  have hnx : J [] (w.alloc (.cells #[.string ⟨#[]⟩, .bool false] 47)) := hJd _ _ _ none h0 (World.grownBy_alloc _ _ _) (fun r e => by cases e)
  have HP0 : Aside0 (Wd.PK Bl Bf #[.string ⟨#[]⟩, .bool false] (w.alloc (.cells #[.string ⟨#[]⟩, .bool false] 47))) := ⟨⟨⟨_, bA hbl _, by simp [Value.ownBlock]⟩, by rw [← hBf]; exact blk_new w _, by have := blk_lt hbl; omega⟩⟩
  have HA0 : Aside0 (Wd.All (w.alloc (.cells #[.string ⟨#[]⟩, .bool false] 47))) := ⟨hall.stay ((Below.refl _ w).alloc (Nat.le_refl _) _)⟩
  have HN := ak hnx
  have H9 := ak h9
  clear hJd hY hf hnx hbl hall h0 h9
  refine Wd.wpIn_scope_two rfl rfl
    (fun n a W => ∃ (g : Nat) (rest : ByteArray) (m : Int) (pre ys : List (S47 × Bool)), ∃ c0 c1 : Value, ∃ u2 u6 u7 u8 u9 u10 u11 u12 u13 u14 u15 u16 u17 u18 u19 u20 u21 u22 u23 u24 : Value, ∃ u25 u26 u27 u28 u29 u30 u31 u32 u33 u34 u35 u36 u37 u38 u39 u40 u41 u42 u43 u44 : Value, ∃ u45 u46 u47 u48 u49 u50 u51 u52 u53 u54 u55 u56 : Value, n = 2 * g + 1 ∧ pre ++ ys = rs ∧ Wd.fieldsP K g rest = some ys ∧ a = { tmps := #[.func (.yield l) #[] #[], .pointer (some ⟨Bs, 0, none⟩), u2, .string rest, .pointer (some ⟨Bf, 0, none⟩), .int .i64 m, u6, u7, u8, u9, u10, u11, u12, u13, u14, u15, u16, u17, u18, u19, u20, u21, u22, u23, u24, u25, u26, u27, u28, u29, u30, u31, u32, u33, u34, u35, u36, u37, u38, u39, u40, u41, u42, u43, u44, u45, u46, u47, u48, u49, u50, u51, u52, u53, u54, u55, u56], defers := [] } ∧ J pre W ∧ Wd.PK Bl Bf #[c0, c1] W ∧ Wd.All W)
    (fun n a W => ∃ (g : Nat) (rest : ByteArray) (m : Int) (f : S47) (pre ys : List (S47 × Bool)), ∃ u2 u6 u7 u8 u9 u10 u11 u12 u13 u14 u15 u16 u17 u18 u19 u20 u21 u22 u23 u24 : Value, ∃ u25 u26 u27 u28 u29 u30 u31 u32 u33 u34 u35 u36 u37 u38 u39 u40 u41 u42 u43 u44 : Value, ∃ u45 u46 u47 u48 u49 u50 u51 u52 u53 u54 u55 u56 : Value, n = 2 * g + 2 ∧ pre ++ ys = rs ∧ Wd.afterG (Wd.fieldsP K g) rest f m = some ys ∧ a = { tmps := #[.func (.yield l) #[] #[], .pointer (some ⟨Bs, 0, none⟩), u2, .string rest, .pointer (some ⟨Bf, 0, none⟩), .int .i64 m, u6, u7, u8, u9, u10, u11, u12, u13, u14, u15, u16, u17, u18, u19, u20, u21, u22, u23, u24, u25, u26, u27, u28, u29, u30, u31, u32, u33, u34, u35, u36, u37, u38, u39, u40, u41, u42, u43, u44, u45, u46, u47, u48, u49, u50, u51, u52, u53, u54, u55, u56], defers := [] } ∧ J pre W ∧ Wd.PK Bl Bf #[.string f.f0, .bool f.f1] W ∧ Wd.All W)
    ?first ?pass1 ?pass0
  case first =>
    intro S hS hR
    have HS := ak hS
    clear hS
    gi_wp2
    rename_i hK
    refine wpIn_label (hK _ _ (HS.out (2 * g0 + 1) _ _ ?_))
    subst hBf
    exact ⟨g0, s, 0, [], rs, _, _, _, _, _, _, _, _, _, _, _, _, _, _, _, _, _, _, _, _, _, _, _, _, _, _, _, _, _, _, _, _, _, _, _, _, _, _, _, _, _, _, _, _, _, _, _, _, _, _, _, _, _, _, rfl, rfl, HF.out, rfl, HN.out, HP0.out, HA0.out⟩
  case pass1 =>
    intro m1 a W hj S hB0 hS0 hR
    obtain ⟨g, rest, m, pre, ys, c0, c1, u2, u6, u7, u8, u9, u10, u11, u12, u13, u14, u15, u16, u17, u18, u19, u20, u21, u22, u23, u24, u25, u26, u27, u28, u29, u30, u31, u32, u33, u34, u35, u36, u37, u38, u39, u40, u41, u42, u43, u44, u45, u46, u47, u48, u49, u50, u51, u52, u53, u54, u55, u56, rfl, hpr, hfp, rfl, hJ, hPK, hAll⟩ := hj
    cases g with
    | zero => simp [Wd.fieldsP] at hfp
    | succ g =>
      rw [Wd.fieldsP] at hfp
      have HB0 := ak hB0
      have HS0 := ak hS0
      have H9' : 4 < Bf := by have := H9.out; omega
      have HJd : ∀ (A B : World), J pre A → Below A.heap.size A B → J pre B := fun A B h hb => HJ.out _ _ _ none h (Wd.gb hb) (fun r e => by cases e)
      have HJs : ∀ (A : World) (i : Nat) (u : Value), J pre A → J pre (A.setCell ⟨Bf, i, none⟩ u) := fun A i u h => HJ.out _ _ _ (some Bf) h (Wd.gs _ _ _ _) (fun r e => by cases e; exact hBf.symm)
      have H9' := ak H9'
      have HJd := ak HJd
      have HJs := ak HJs
      have HR := ak hR
      clear hB0 hS0 hR
      unfold Wd.fieldOf at hfp
      obtain ⟨o, hfo, hfp⟩ := Option.bind_eq_some_iff.1 hfp
      obtain ⟨⟨t1, t2⟩, hu, hfo⟩ := Option.bind_eq_some_iff.1 hfo
      have hst1 := fun (V : World) (hP : Wd.PK Bl Bf #[c0, c1] V) => hP.put 0 (.string t1) #[.string t1, c1] rfl
      have hst2 := fun (bq : Bool) (V : World) (hP : Wd.PK Bl Bf #[.string t1, c1] V) => hP.put 1 (.bool bq) #[.string t1, .bool bq] rfl
      by_cases h2 : 0 < t2
      · rw [if_pos h2] at hfo
        obtain rfl := Option.some.inj hfo
        have hd : decide (0 < t2) = true := decide_eq_true h2
        have Hfp := ak hfp
        have Hpr := ak hpr
        clear hfp hpr hfo h2
        gi_wp2_with (first | (refine ⟨trivial, (callsIn_wide.2 ( words_unquote.calls K rest t1 t2 _ hu ⟨hAll⟩)).mono ?_⟩; rintro e w2 ⟨rfl, hb⟩; have hP2 := hPK.below hb; have hA2 := hAll.stay hb; have hJ2 := HJd.out _ _ hJ hb; obtain ⟨k0, k1, k2, k3⟩ := hP2.cells; have hP3 := hst1 _ hP2; have hP4 := hst2 true _ hP3; obtain ⟨i0, i1, i2, i3⟩ := hP3.cells))
        refine wpIn_goto ?_
        exact HS0.out (2 * g + 2) _ _ (by omega) ⟨g, rest, t2, ⟨t1, true⟩, pre, ys, _, _, _, _, _, _, _, _, _, _, _, _, _, _, _, _, _, _, _, _, _, _, _, _, _, _, _, _, _, _, _, _, _, _, _, _, _, _, _, _, _, _, _, _, _, _, _, _, _, _, _, _, rfl, Hpr.out, Hfp.out, rfl, HJs.out _ 1 _ (HJs.out _ 0 _ hJ2), hP4, (hA2.put H9'.out).put H9'.out⟩
      · rw [if_neg h2] at hfo
        have hd : decide (0 < t2) = false := decide_eq_false h2
        by_cases hsz : rest.size ≤ 1000000
        · rw [if_pos hsz] at hfo
          obtain ⟨bq, hbq, hfo⟩ := Option.bind_eq_some_iff.1 hfo
          have hst4 := fun (V : World) (hP : Wd.PK Bl Bf #[.string t1, .bool false] V) => hP.put 0 (.string (Wd.ahead rest 32)) #[.string (Wd.ahead rest 32), .bool false] rfl
          cases bq with
          | true =>
            rw [if_pos rfl] at hfo
            obtain rfl := Option.some.inj hfo
            have Hfp := ak hfp
            have Hpr := ak hpr
            clear hfp hpr hfo h2
            gi_wp2_with (first
              | (refine ⟨trivial, (callsIn_wide.2 ( words_unquote.calls K rest t1 t2 _ hu ⟨hAll⟩)).mono ?_⟩; rintro e w2 ⟨rfl, hb⟩; have hP2 := hPK.below hb; have hA2 := hAll.stay hb; have hJ2 := HJd.out _ _ hJ hb; obtain ⟨k0, k1, k2, k3⟩ := hP2.cells; have hP3 := hst1 _ hP2; have hP4 := hst2 false _ hP3; obtain ⟨i0, i1, i2, i3⟩ := hP3.cells)
              | (refine ⟨trivial, (callsIn_wide.2 (Wd.cut_calls rest 32 hsz _)).mono ?_⟩; rintro e w5 ⟨⟨cr, cf, rfl⟩, hb5⟩; have hP5 := hP4.below hb5; have hA5 := ((hA2.put (i := 0) (u := .string t1) H9'.out).put (i := 1) (u := .bool false) H9'.out).stay hb5; have hJ5 := HJd.out _ _ (HJs.out _ 1 (.bool false) (HJs.out _ 0 (.string t1) hJ2)) hb5; obtain ⟨l0, l1, l2, l3⟩ := hP5.cells; have hP6 := hst4 _ hP5; obtain ⟨m0, m1, m2, m3⟩ := hP6.cells)
              | (refine ⟨trivial, (callsIn_wide.2 (words_isBare.calls K (Wd.ahead rest 32) true _ hbq)).mono ?_⟩; rintro e w7 ⟨rfl, hb7⟩; have hb7 := hb7.below; have hP7 := hP6.below hb7; have hA7 := (hA5.put (i := 0) (u := .string (Wd.ahead rest 32)) H9'.out).stay hb7; have hJ7 := HJd.out _ _ (HJs.out _ 0 (.string (Wd.ahead rest 32)) hJ5) hb7))
            rename_i hK
            refine wpIn_label (hK _ _ ?_)
            exact HB0.out (2 * g + 2) _ _ (by omega) ⟨g, rest, _, ⟨Wd.ahead rest 32, false⟩, pre, ys, _, _, _, _, _, _, _, _, _, _, _, _, _, _, _, _, _, _, _, _, _, _, _, _, _, _, _, _, _, _, _, _, _, _, _, _, _, _, _, _, _, _, _, _, _, _, _, _, _, _, _, _, rfl, Hpr.out, Hfp.out, rfl, hJ7, hP7, hA7⟩
          | false =>
            simp only [Bool.false_eq_true, if_false] at hfo
            obtain rfl := Option.some.inj hfo
            obtain rfl := Option.some.inj hfp
            have Hpr := ak hpr
            clear hfp hpr hfo h2
            gi_wp2_with (first
              | (refine ⟨trivial, (callsIn_wide.2 ( words_unquote.calls K rest t1 t2 _ hu ⟨hAll⟩)).mono ?_⟩; rintro e w2 ⟨rfl, hb⟩; have hP2 := hPK.below hb; have hA2 := hAll.stay hb; have hJ2 := HJd.out _ _ hJ hb; obtain ⟨k0, k1, k2, k3⟩ := hP2.cells; have hP3 := hst1 _ hP2; have hP4 := hst2 false _ hP3; obtain ⟨i0, i1, i2, i3⟩ := hP3.cells)
              | (refine ⟨trivial, (callsIn_wide.2 (Wd.cut_calls rest 32 hsz _)).mono ?_⟩; rintro e w5 ⟨⟨cr, cf, rfl⟩, hb5⟩; have hP5 := hP4.below hb5; have hA5 := ((hA2.put (i := 0) (u := .string t1) H9'.out).put (i := 1) (u := .bool false) H9'.out).stay hb5; have hJ5 := HJd.out _ _ (HJs.out _ 1 (.bool false) (HJs.out _ 0 (.string t1) hJ2)) hb5; obtain ⟨l0, l1, l2, l3⟩ := hP5.cells; have hP6 := hst4 _ hP5; obtain ⟨m0, m1, m2, m3⟩ := hP6.cells)
              | (refine ⟨trivial, (callsIn_wide.2 (words_isBare.calls K (Wd.ahead rest 32) false _ hbq)).mono ?_⟩; rintro e w7 ⟨rfl, hb7⟩; have hb7 := hb7.below; have hP7 := hP6.below hb7; have hA7 := (hA5.put (i := 0) (u := .string (Wd.ahead rest 32)) H9'.out).stay hb7; have hJ7 := HJd.out _ _ (HJs.out _ 0 (.string (Wd.ahead rest 32)) hJ5) hb7; obtain ⟨fn, tmps, assign, body, hy, hRo⟩ := HY.out pre (z47, false) w7 hJ7 ⟨_, Hpr.out⟩; dsimp only [z47] at hy))
            refine hRo.mono ?_
            rintro e W3 (⟨rfl, hJ3, hk3⟩ | ⟨rfl, hJx3⟩)
            · gi_wp2
              refine HR.out _ _ (bodyPost_ret (results_none rfl _ _ _) rfl ?_)
              exact ⟨⟨_, rfl⟩, .inl (by rw [← Hpr.out]; exact hJ3)⟩
            · gi_wp2
              refine HR.out _ _ (bodyPost_ret (results_none rfl _ _ _) rfl ?_)
              exact ⟨⟨_, rfl⟩, .inr ⟨_, hJx3⟩⟩
        · rw [if_neg hsz] at hfo; cases hfo
  case pass0 =>
    intro m1 a W hj S hS1 hR
    obtain ⟨g, rest, m, f, pre, ys, u2, u6, u7, u8, u9, u10, u11, u12, u13, u14, u15, u16, u17, u18, u19, u20, u21, u22, u23, u24, u25, u26, u27, u28, u29, u30, u31, u32, u33, u34, u35, u36, u37, u38, u39, u40, u41, u42, u43, u44, u45, u46, u47, u48, u49, u50, u51, u52, u53, u54, u55, u56, rfl, hpr, hag, rfl, hJ, hPK, hAll⟩ := hj
    have HS1 := ak hS1
    have HR := ak hR
    clear hS1 hR
    unfold Wd.afterG at hag
    by_cases hm : 0 ≤ m ∧ m ≤ (rest.size : Int)
    · rw [if_pos hm] at hag
      obtain ⟨k, rfl⟩ : ∃ k : Nat, m = (k : Int) := ⟨m.toNat, (Int.toNat_of_nonneg hm.1).symm⟩
      have hk : k ≤ rest.size := by omega
      simp only [Int.toNat_natCast] at hag
      obtain ⟨r, hr⟩ : ∃ r, rest.extract k rest.size = r := ⟨_, rfl⟩
      rw [hr] at hag
      have Hr := ak hr
      clear hm
      obtain ⟨k0, k1, k2, k3⟩ := hPK.cells
      by_cases he : r.toList = []
      · rw [if_pos he] at hag
        obtain rfl := Option.some.inj hag
        obtain rfl : r = ⟨#[]⟩ := by rw [← Lib.mk_data r, ← Lib.toList_data, he]
        have Hpr := ak hpr
        clear hpr hag he
        obtain ⟨fn, tmps, assign, body, hy, hRo⟩ := HY.out pre (f, true) W hJ ⟨_, Hpr.out⟩
        dsimp only at hy
        gi_wp2
        refine hRo.mono ?_
        rintro e W3 (⟨rfl, hJ3, hk3⟩ | ⟨rfl, hJx3⟩)
        · gi_wp2
          refine HR.out _ _ (bodyPost_ret (results_none rfl _ _ _) rfl ?_)
          exact ⟨⟨_, rfl⟩, .inl (by rw [← Hpr.out]; exact hJ3)⟩
        · gi_wp2
          refine HR.out _ _ (bodyPost_ret (results_none rfl _ _ _) rfl ?_)
          exact ⟨⟨_, rfl⟩, .inr ⟨_, hJx3⟩⟩
      · rw [if_neg he] at hag
        have hq0 : r.toList.isEmpty = false := by rw [List.isEmpty_eq_false_iff]; exact he
        have hs0 : 0 < r.size := by
          rw [Lib.size_eq]
          rw [Lib.toList_data] at he
          exact List.length_pos_iff.2 he
        have hbt : (((r[0]'hs0).toNat : Nat) : Int) = bt r 0 := bt_at r 0 hs0
        by_cases hb : bt r 0 = 32
        · rw [if_pos hb] at hag
          obtain ⟨ys', hG, rfl⟩ := Option.map_eq_some_iff.1 hag
          have hx : (r[0]'hs0).toNat = 32 := by rw [hb] at hbt; exact_mod_cast hbt
          have Hpr := ak hpr
          have HG := ak hG
          clear hpr hag hG he hb hbt
          obtain ⟨fn, tmps, assign, body, hy, hRo⟩ := HY.out pre (f, true) W hJ ⟨_, Hpr.out⟩
          dsimp only at hy
          gi_wp2
          refine hRo.mono ?_
          rintro e W3 (⟨rfl, hJ3, hk3⟩ | ⟨rfl, hJx3⟩)
          · gi_wp2
            refine wpIn_goto ?_
            exact HS1.out (2 * g + 1) _ _ (by omega) ⟨g, r.extract 1 r.size, _, pre ++ [(f, true)], ys', _, _, _, _, _, _, _, _, _, _, _, _, _, _, _, _, _, _, _, _, _, _, _, _, _, _, _, _, _, _, _, _, _, _, _, _, _, _, _, _, _, _, _, _, _, _, _, _, _, _, _, _, _, _, rfl, by rw [List.append_assoc]; exact Hpr.out, HG.out, rfl, hJ3, hk3.1 _ _ hPK, hk3.2 hAll⟩
          · gi_wp2
            refine HR.out _ _ (bodyPost_ret (results_none rfl _ _ _) rfl ?_)
            exact ⟨⟨_, rfl⟩, .inr ⟨_, hJx3⟩⟩
        · rw [if_neg hb] at hag
          obtain rfl := Option.some.inj hag
          have hx : ((r[0]'hs0).toNat == 32) = false := by rw [beq_eq_false_iff_ne]; intro h; exact hb (by rw [← hbt, h]; rfl)
          have hx2 : (((r[0]'hs0).toNat : Int) == 32) = false := by rw [beq_eq_false_iff_ne]; intro h; exact hb (by rw [← hbt, h])
          have Hpr := ak hpr
          clear hpr hag he hb hbt
          obtain ⟨fn, tmps, assign, body, hy, hRo⟩ := HY.out pre (z47, false) W hJ ⟨_, Hpr.out⟩
          dsimp only [z47] at hy
          gi_wp2
          refine hRo.mono ?_
          rintro e W3 (⟨rfl, hJ3, hk3⟩ | ⟨rfl, hJx3⟩)
          · gi_wp2
            refine HR.out _ _ (bodyPost_ret (results_none rfl _ _ _) rfl ?_)
            exact ⟨⟨_, rfl⟩, .inl (by rw [← Hpr.out]; exact hJ3)⟩
          · gi_wp2
            refine HR.out _ _ (bodyPost_ret (results_none rfl _ _ _) rfl ?_)
            exact ⟨⟨_, rfl⟩, .inr ⟨_, hJx3⟩⟩
    · rw [if_neg hm] at hag; cases hag
def Wd.splitR (rs : List (S47 × Bool)) : List S47 × Int := if rs.all (fun x => x.2) = true then (if rs.any (fun x => decide (2000 < x.1.f0.size)) = true ∨ 64 < rs.length then ([], 3) else (rs.map (fun x => x.1), 0)) else ([], 6)
def words_Split.f (a0 : ByteArray) : Option (List S47 × Int) := if 8192 < a0.size then some ([], 3) else if a0.toList = [] then some ([], 0) else (Wd.fieldsP (a0.size + 10) (a0.size + 10) a0).map Wd.splitR
theorem Wd.fieldsP_len (K : Nat) : ∀ (g : Nat) (rest : ByteArray) (ys : List (S47 × Bool)), Wd.fieldsP K g rest = some ys → ys.length ≤ g ∧ ys ≠ []
  | 0, _, _, h => by simp [Wd.fieldsP] at h
  | g + 1, rest, ys, h => by
    rw [Wd.fieldsP] at h
    obtain ⟨o, ho, h⟩ := Option.bind_eq_some_iff.1 h
    cases o with
    | none => cases h; simp
    | some t =>
      obtain ⟨f, n⟩ := t
      simp only [Wd.afterG] at h
      split at h
      · split at h
        · cases h; simp
        · split at h
          · obtain ⟨l, hl, rfl⟩ := Option.map_eq_some_iff.1 h
            have := (Wd.fieldsP_len K g _ l hl).1
            simp; omega
          · cases h; simp
      · cases h
def Wd.cellsOf (l : List (S47 × Bool)) : List Value := l.flatMap (fun x => [.string x.1.f0, .bool x.1.f1])
theorem Wd.reps_ (W : World) (base : Nat) (ok : Nat → Prop) : ∀ (l : List (S47 × Bool)) (acc : List S47) (cs : List Value), Reps (k47.M W base ok) k47.sz acc cs → Reps (k47.M W base ok) k47.sz (acc ++ l.map (fun x => x.1)) (cs ++ Wd.cellsOf l)
  | [], acc, cs, h => by simpa [Wd.cellsOf] using h
  | x :: l, acc, cs, h => by
    have := Wd.reps_ W base ok l (acc ++ [x.1]) (cs ++ [.string x.1.f0, .bool x.1.f1]) (h.snoc (k47_mkM _ _ _ x.1) rfl)
    simpa [Wd.cellsOf] using this
theorem Wd.reps (W : World) (base : Nat) (ok : Nat → Prop) (l : List (S47 × Bool)) : Reps (k47.M W base ok) k47.sz (l.map (fun x => x.1)) (Wd.cellsOf l) := by
  have := Wd.reps_ W base ok l [] [] (Reps.none _ _)
  simpa using this
theorem Wd.cell_two (W : World) (N : Nat) (hN : W.heap.size = N) (a b : Value) : ∀ (j : Nat) (u : Value), [a, b][j]? = some u → (W.alloc (.cells #[a, b] 47)).cell? ((⟨N, 0, none⟩ : Addr).add j) = some u := by
  intro j u hj
  subst hN
  have h := World.alloc_heap_new W (.cells #[a, b] 47)
  have ha : (⟨W.heap.size, 0, none⟩ : Addr).add j = ⟨W.heap.size, j, none⟩ := by rw [Addr.add_lit, Nat.zero_add]
  rw [ha]
  simp only [World.cell?, h]
  simpa using hj
/-- What the loop of Split keeps. -/
structure Wd.LI (n Bf : Nat) (v : Value) (tl : Bool) (pre : List (S47 × Bool)) (W : World) : Prop where
  b1 : Boxed W n 22 (.slice none 0 0)
  b2 : Boxed W (n + 1) 28 (.int .i64 0)
  bl : Boxed W (n + 2) 22 v
  bt : Boxed W (n + 3) 4 (.bool tl)
  row : W.ownsRow n 47 2 v pre.length (Wd.cellsOf pre)
  far : v.ownBlock ≠ some Bf
theorem Wd.wpListIn_append_at {F : Fence} {n : Nat} {P : Program} (w : World) {ops : Array Oper} {rest : List Oper} {o : Oper} {a : Act} {Q : Exit → Act → World → Prop}
    (hg : o.guard = none) (s x : Operand) (t : TypeId) (hop : o.op = Op.call { callee := Callee.builtin Builtin.append, args := #[s, x], argTypes := #[t, t] })
    (base : Nat) (e : TypeId) (i : TypeInfo) (z : Value) (size bytes : Nat) (h1 : P.underlying t = some (.slice e)) (h2 : P.info? e = some i) (h3 : i.zero = some z) (h4 : i.size = size) (h5 : i.bytes = bytes) (h6 : z.cells.size = size) (h7 : 0 < size)
    (v : Value) (k : Nat) (xs : List Value) (hs : a.eval s = v) (hown : w.ownsRow base e size v k xs) (ad : Addr) (m c : Nat) (news : List Value) (hx : a.eval x = .slice (some ad) m c) (hn : news.length = m * size)
    (hc : ∀ j u, news[j]? = some u → w.cell? (ad.add j) = some u) (h1c : ∀ u ∈ news, u.oneCell' = true) (b1 : k + m ≤ maxLen) (b2 : (k + m) * bytes ≤ 140737488355328) (b3 : base ≤ w.heap.size)
    (hK : ∀ v' w', w'.ownsRow base e size v' (k + m) (xs ++ news) → w.grownBy w' v.ownBlock → (v'.ownBlock = v.ownBlock ∨ v'.ownBlock = some w.heap.size) → wpListIn F n P ops Q rest (a.put o.dst v') w') :
    wpListIn F n P ops Q (o :: rest) a w := by
  refine wpListIn_plain hg fun K hK' => ?_
  obtain ⟨v', w', hrun, r1, r2, _, r3⟩ := run_append_own_at (P := P) w base t o.type e i z size bytes h1 h2 h3 h4 h5 h6 h7 v k xs hown ad m c news hn hc h1c b1 b2 b3
  unfold Oper.wpIn
  refine ⟨?_, ?_⟩
  · simp [Oper.about, hop, resolve, Target.leads, Sem.run_pure]
  · rw [Oper.semAt_plain F _ _ (by rw [hop]; intro c hc'; cases hc')]
    simp [execOp, hop, resolve, invoke, builtin, hs, hx, hrun, Result.andThen]
    exact hK' _ _ (hK v' w' r1 r2 r3)
theorem Wd.LI.step {n Bf : Nat} {v v' : Value} {tl tl' : Bool} {pre : List (S47 × Bool)} {x : S47 × Bool} {W W3 : World} (h : Wd.LI n Bf v tl pre W) (h4 : 5 ≤ n) (hBf : n + 5 ≤ Bf) (hsz : Bf < W.heap.size)
    (hown' : W3.ownsRow n 47 2 v' (pre.length + 1) (Wd.cellsOf pre ++ [.string x.1.f0, .bool x.1.f1]))
    (hg : ((W.setCell ⟨n + 3, 0, none⟩ (.bool tl')).alloc (.cells #[.string x.1.f0, .bool x.1.f1] 47)).grownBy W3 v.ownBlock)
    (hat : v'.ownBlock = v.ownBlock ∨ v'.ownBlock = some ((W.setCell ⟨n + 3, 0, none⟩ (.bool tl')).alloc (.cells #[.string x.1.f0, .bool x.1.f1] 47)).heap.size) :
    Boxed W3 (n + 2) 22 v ∧ Wd.LI n Bf v' tl' (pre ++ [x]) (W3.setCell ⟨n + 2, 0, none⟩ v') ∧ KeepsFrom (n + 5) W (W3.setCell ⟨n + 2, 0, none⟩ v') ∧ Wd.KF (n + 2) W (W3.setCell ⟨n + 2, 0, none⟩ v') ∧ Below n W (W3.setCell ⟨n + 2, 0, none⟩ v') := by
  obtain ⟨h1, h2, h3, h5, h6, h7⟩ := h
  have hs2 : ((W.setCell ⟨n + 3, 0, none⟩ (.bool tl')).alloc (.cells #[.string x.1.f0, .bool x.1.f1] 47)).heap.size = W.heap.size + 1 := by simp [World.setCell]
  have hne : ∀ k : Nat, k < W.heap.size → v.ownBlock ≠ some k → v'.ownBlock ≠ some k := by
    intro k hk hv
    rcases hat with e | e
    · rw [e]; exact hv
    · rw [e, hs2]; intro e'; cases e'; omega
  have hblk : ∀ (k : Nat) (o : Obj), W.heap[k]? = some o → k ≠ n + 3 → v.ownBlock ≠ some k → W3.heap[k]? = some o := by
    intro k o ho hk hv
    have hlt := (Array.getElem?_eq_some_iff.1 ho).1
    rw [hg.block k (by rw [hs2]; omega) (fun e => hv e.symm), Below.heap_alloc _ _ _ (by simpa [World.setCell] using hlt), Below.heap_setCell W ⟨n + 3, 0, none⟩ _ k hk]
    exact ho
  have hrow : ∀ k, v.ownBlock = some k → ∃ cells, W.heap[k]? = some (.cells cells 47 (0, 0)) := fun k hk => own_typed h6 k hk
  have hnr : ∀ {B : Nat} {t : TypeId} {u : Value}, Boxed W B t u → t ≠ 47 → v.ownBlock ≠ some B := fun hb ht e => hb.not_row ht h6 e.symm
  have hb2 : Below n W ((W.setCell ⟨n + 3, 0, none⟩ (.bool tl')).alloc (.cells #[.string x.1.f0, .bool x.1.f1] 47)) := ((Below.refl n W).setCell (p := ⟨n + 3, 0, none⟩) (by show n ≤ n + 3; omega) _).alloc (by have := h1.lt; simp [World.setCell]; omega) _
  have hb3 : Below n W W3 := hb2.grown hg (by rw [hs2]; omega) (fun k e => own_base h6 k e)
  have hb4 : Below n W (W3.setCell ⟨n + 2, 0, none⟩ v') := hb3.setCell (p := ⟨n + 2, 0, none⟩) (by show n ≤ n + 2; omega) _
  have b1 : Boxed W3 n 22 (.slice none 0 0) := hblk _ _ h1 (by omega) (hnr h1 (by decide))
  have b2 : Boxed W3 (n + 1) 28 (.int .i64 0) := hblk _ _ h2 (by omega) (hnr h2 (by decide))
  have b3 : Boxed W3 (n + 2) 22 v := hblk _ _ h3 (by omega) (hnr h3 (by decide))
  have b5 : Boxed W3 (n + 3) 4 (.bool tl') := by
    have h5' := (h5.set (.bool tl')).alloc (.cells #[.string x.1.f0, .bool x.1.f1] 47)
    exact h5'.kept hg (fun e => hnr h5 (by decide) e.symm)
  have gs := grownBy_setCell' W3 (n + 2) v'
  have hl' : some (n + 2) ≠ v'.ownBlock := fun e => hne (n + 2) h3.lt (hnr h3 (by decide)) e.symm
  refine ⟨b3, ⟨b1.kept gs (by simp), b2.kept gs (by simp), b3.set v', b5.kept gs (by simp), ?_, hne Bf hsz h7⟩, ⟨hb4.size, fun k o hk ho hc => ?_⟩, ⟨fun k y hp => ?_, fun ha => ha.far (hb4.mono h4)⟩, hb4⟩
  · rw [List.length_append, List.length_singleton, show Wd.cellsOf (pre ++ [x]) = Wd.cellsOf pre ++ [.string x.1.f0, .bool x.1.f1] by simp [Wd.cellsOf]]
    exact hown'.kept gs (by
      cases hv : v'.ownBlock with
      | none => exact .inl rfl
      | some g => right; rw [← hv]; exact fun e => hl' e.symm)
  · rw [Below.heap_setCell W3 ⟨n + 2, 0, none⟩ _ k (show k ≠ n + 2 by omega)]
    refine hblk k o ho (by omega) (fun e => ?_)
    obtain ⟨cells, hcc⟩ := hrow k e
    rw [hcc] at ho; cases ho; cases hc
  · obtain ⟨⟨u, hu, hud⟩, ho, hf⟩ := hp
    obtain rfl : u = v := by
      have := (show W.heap[n + 2]? = _ from h3).symm.trans hu
      simpa using this.symm
    have hk3 : k ≠ n + 3 := by
      rintro rfl
      have := (show W.heap[n + 3]? = _ from h5).symm.trans ho
      simp at this
    have hlt := (Array.getElem?_eq_some_iff.1 ho).1
    refine ⟨⟨v', b3.set v', hne k hlt hud⟩, ?_, hf⟩
    rw [Below.heap_setCell W3 ⟨n + 2, 0, none⟩ _ k (show k ≠ n + 2 from fun e => hf e.symm)]
    exact hblk k _ ho hk3 hud
theorem Wd.LI.grow {n Bf : Nat} {v : Value} {tl : Bool} {pre : List (S47 × Bool)} {A B : World} {row : Option Nat} (h : Wd.LI n Bf v tl pre A) (hg : A.grownBy B row) (hBf : n + 5 ≤ Bf) (hr : ∀ r, row = some r → r = Bf ∨ ∃ o : Obj, A.heap[r]? = some o ∧ o.isCells = false) : Wd.LI n Bf v tl pre B := by
  obtain ⟨h1, h2, h3, h5, h6, h7⟩ := h
  have hb : ∀ {k : Nat} {t : TypeId} {u : Value}, Boxed A k t u → k ≠ Bf → Boxed B k t u := fun {k t u} hx hk => hx.kept hg (fun e => by
    rcases hr k e.symm with h | ⟨o, ho, hc⟩
    · exact hk h
    · rw [show A.heap[k]? = _ from hx] at ho; cases ho; cases hc)
  refine ⟨hb h1 (by omega), hb h2 (by omega), hb h3 (by omega), hb h5 (by omega), h6.kept hg ?_, h7⟩
  cases hv : v.ownBlock with
  | none => exact .inl rfl
  | some k =>
    right
    intro e
    rcases hr k e.symm with h | ⟨o, ho, hc⟩
    · exact h7 (by rw [hv, h])
    · obtain ⟨cells, hcc⟩ := own_typed h6 k hv
      rw [hcc] at ho; cases ho; cases hc
theorem Wd.KF.other {Bl : Nat} {W : World} {l : Nat} {o o' : Obj} (hl : 5 ≤ l) (ho : W.heap[l]? = some o) (hc : o.isCells = false) : Wd.KF Bl W (W.putObj l o') := by
  have hne : ∀ {k : Nat} {x : Obj}, W.heap[k]? = some x → x.isCells = true → (W.putObj l o').heap[k]? = some x := by
    intro k x hx hxc
    refine (World.putObj_heap_other ?_).trans hx
    rintro rfl
    rw [ho] at hx; cases hx; rw [hc] at hxc; cases hxc
  have hg := grownBy_putObj' W l o'
  refine ⟨fun k x hp => ?_, fun ha => ha.far ⟨hg.os, hg.tape, hg.output, hg.size, fun k hk => World.putObj_heap_other (by omega)⟩⟩
  obtain ⟨⟨v, h1, h2⟩, h3, h4⟩ := hp
  exact ⟨⟨v, hne h1 rfl, h2⟩, hne h3 rfl, h4⟩
theorem inf47 : (Tryz.prog.info? 47).map (fun i => (i.zero, i.size, i.bytes)) = some (some (.agg #[.string ⟨#[]⟩, .bool false]), 2, 24) := by kernel_rfl
set_option maxRecDepth 100000 in
set_option maxHeartbeats 4000000 in
theorem Wd.split_in (K g0 : Nat) (s : ByteArray) (rs : List (S47 × Bool)) (hf : Wd.fieldsP K g0 s = some rs) (hs : s.size ≤ 8192) (hg0 : g0 ≤ 9000) (hne : s.toList.isEmpty = false) (w : World) (hA : Wd.All w) :
    CallsIn Fence.wide 4 Tryz.prog 8 #[.string s] w fun e W' => ∃ v, e = .returned (.tuple #[v, .int .i64 (Wd.splitR rs).2]) ∧ Kd.R k47 47 W' w.heap.size (fun _ => True) v (Wd.splitR rs).1 ∧ Below w.heap.size w W' := by
  obtain ⟨i0, hi, hz0, hz1, hz2⟩ := info_parts inf47
  refine callsIn_of_wp_marks Tryz.func8 rfl trivial ?_ rfl
  simp only [Tryz.ntmps8, List.size_toArray, List.length_cons, List.length_nil, Nat.reduceAdd, Nat.reduceSub, Array.replicate_succ, Array.replicate_zero, List.push_toArray, List.append_toArray, List.nil_append, List.cons_append]
  have hl1 : ¬ ((8192 : Int) < (s.size : Int)) := by omega
  gi_wp2_with (first
    | (refine ⟨trivial, (Wd.fields_in _ _ _).mono ?_⟩; rintro e w' ⟨rfl, rfl⟩))
  have h4 := hA.size
  obtain ⟨w5, hw5⟩ : ∃ w5, (((((w.alloc (.cells #[.slice none 0 0] 22)).alloc (.cells #[.int .i64 0] 28)).alloc (.cells #[.slice none 0 0] 22)).alloc (.cells #[.bool false] 4)).alloc (.cells #[.string s] 9)) = w5 := ⟨_, rfl⟩
  have hs5 : w5.heap.size = w.heap.size + 5 := by rw [← hw5]; simp
  have hB5 : Below w.heap.size w w5 := by rw [← hw5]; exact (((((Below.refl _ w).alloc (Nat.le_refl _) _).alloc (by simp only [World.size_alloc]; omega) _).alloc (by simp only [World.size_alloc]; omega) _).alloc (by simp only [World.size_alloc]; omega) _).alloc (by simp only [World.size_alloc]; omega) _
  have hA5 : Wd.All w5 := hA.stay hB5
  have hL5 : Wd.LI w.heap.size (w.heap.size + 7) (.slice none 0 0) false [] w5 := by
    have e1 := Boxed.new w 22 (.slice none 0 0)
    have e2 := Boxed.new (w.alloc (.cells #[.slice none 0 0] 22)) 28 (.int .i64 0)
    have e3 := Boxed.new ((w.alloc (.cells #[.slice none 0 0] 22)).alloc (.cells #[.int .i64 0] 28)) 22 (.slice none 0 0)
    have e4 := Boxed.new (((w.alloc (.cells #[.slice none 0 0] 22)).alloc (.cells #[.int .i64 0] 28)).alloc (.cells #[.slice none 0 0] 22)) 4 (.bool false)
    simp only [World.size_alloc] at e2 e3 e4
    rw [← hw5]
    exact ⟨(((e1.alloc _).alloc _).alloc _).alloc _, ((e2.alloc _).alloc _).alloc _, (e3.alloc _).alloc _, e4.alloc _, World.ownsRow_nil _ _ _ _, by simp [Value.ownBlock]⟩
  have hS5 : w5.cell? ⟨w.heap.size + 4, 0, none⟩ = some (.string s) := by
    have := Boxed.new ((((w.alloc (.cells #[.slice none 0 0] 22)).alloc (.cells #[.int .i64 0] 28)).alloc (.cells #[.slice none 0 0] 22)).alloc (.cells #[.bool false] 4)) 9 (.string s)
    simp only [World.size_alloc] at this
    rw [← hw5]
    exact this.cell
  simp only [Nat.add_assoc, Nat.reduceAdd]
  rw [hw5]
  clear hw5
  have hlen := Wd.fieldsP_len K g0 s rs hf
  refine Wd.rangeFunc_W (by omega) (gf := 47) (lb := #[.pointer (some ⟨w.heap.size + 4, 0, none⟩)]) rfl (enters_of Tryz.func47 (by kernel_rfl) rfl)
    (encs := fun x : S47 × Bool => #[.agg #[.string x.1.f0, .bool x.1.f1], .bool x.2]) (Kp := Wd.KF (w.heap.size + 2)) (R := rs)
    (fun l J Jx W hW hJ hY h0 => Wd.iter 3 (by omega) l (w.heap.size + 4) (w.heap.size + 2) K s rs g0 hf J Jx W ((hW.cell (show w.heap.size + 4 < w5.heap.size by omega)).trans hS5) (hA5.stay hW) (blk_below hL5.bl hW) (by have := hW.size; omega) hJ hY h0)
    (fun h h' => h.t h') (fun W l o o' hl ho hc _ => Wd.KF.other (by omega) ho hc) (fun _ => rfl)
    (fun pre W => (∀ x ∈ pre, x.2 = true) ∧ (∃ v, Wd.LI w.heap.size (w.heap.size + 7) v (pre.any (fun x => decide (2000 < x.1.f0.size))) pre W) ∧ Below w.heap.size w W)
    (fun c _ W => c = .ret ∧ Boxed W w.heap.size 22 (.slice none 0 0) ∧ Boxed W (w.heap.size + 1) 28 (.int .i64 6) ∧ Below w.heap.size w W ∧ rs.all (fun x => x.2) = false)
    (fun pre A B row h hg hr => ⟨h.1, h.2.1.imp (fun v hv => hv.grow hg (by omega) (fun r e => by have := hr r e; rcases this with h1 | h1; exact .inl (by omega); exact .inr h1.2)), h.2.2.grown hg h.2.2.size (fun r e => by have := hr r e; omega)⟩)
    (fun c pre A B row h hg hr => ⟨h.1, h.2.1.kept hg (fun e => by obtain ⟨_, o, ho, hc⟩ := hr _ e.symm; rw [show A.heap[w.heap.size]? = _ from h.2.1] at ho; cases ho; cases hc), h.2.2.1.kept hg (fun e => by obtain ⟨_, o, ho, hc⟩ := hr _ e.symm; rw [show A.heap[w.heap.size + 1]? = _ from h.2.2.1] at ho; cases ho; cases hc), h.2.2.2.1.grown hg h.2.2.2.1.size (fun r e => by have := hr r e; omega), h.2.2.2.2⟩)
    ⟨by simp, ⟨_, hL5⟩, hB5⟩
    (fun pre x a1 W => ∃ g v, (∀ y ∈ pre, y.2 = true) ∧ Wd.LI w.heap.size (w.heap.size + 7) v (pre.any (fun x => decide (2000 < x.1.f0.size))) pre W ∧ Below w.heap.size w W ∧ w.heap.size + 7 < W.heap.size ∧ W.heap[g]? = some (.cells #[.string x.1.f0, .bool x.1.f1] 47 (0, 0)) ∧ a1 = { tmps := #[.string s, undef, .pointer (some ⟨w.heap.size, 0, none⟩), .pointer (some ⟨w.heap.size + 1, 0, none⟩), .pointer (some ⟨w.heap.size + 2, 0, none⟩), .pointer (some ⟨w.heap.size + 3, 0, none⟩), .pointer (some ⟨g, 0, none⟩), .bool x.2, .bool false, .string s, .int .i64 s.size, .bool false, .bool false, .string s, .bool false, .string s, .func (.func 47) #[] #[.pointer (some ⟨w.heap.size + 4, 0, none⟩)], .agg #[.string x.1.f0, .bool x.1.f1], .bool x.2, undef, undef, undef, undef, undef, undef, undef, undef, undef, undef, undef, undef, undef, undef, undef, undef, undef, undef, undef, undef], defers := [] })
    (fun pre x a1 u A B row h hg hr => by
      obtain ⟨g, v, h1, h2, h3, h4, h5, rfl⟩ := h
      exact ⟨g, v, h1, h2.grow hg (by omega) (fun r e => by have := hr r e; exact .inr this.2), h3.grown hg h3.size (fun r e => by have := hr r e; omega), by have := hg.size; omega, (hg.block g (Array.getElem?_eq_some_iff.1 h5).1 (fun e => by obtain ⟨_, o, ho, hc⟩ := hr _ e.symm; rw [h5] at ho; cases ho; cases hc)).trans h5, rfl⟩)
    ?assign ?body ?done ?stop
  case assign =>
    rintro l pre x W ⟨h1, ⟨v, h2⟩, h3⟩ hsz hpx
    gi_wp2
    exact ⟨KeepsFrom.of_grownBy (World.grownBy_alloc W _ none) (fun j e => by cases e), ⟨fun k y hp => hp.below ((Below.refl _ W).alloc (Nat.le_refl _) _), fun ha => ha.stay ((Below.refl _ W).alloc (Nat.le_refl _) _)⟩, W.heap.size, v, h1, h2.grow (World.grownBy_alloc W _ none) (by omega) (fun r e => by cases e), h3.alloc h3.size _, by simp only [World.size_alloc]; omega, blk_new W _, rfl⟩
  case body =>
    rintro l pre ⟨⟨f0, f1⟩, b⟩ a1 W ⟨g, v, h1, hL, hB, hsz, hg, rfl⟩ hpx
    obtain ⟨post, hpx⟩ := hpx
    obtain ⟨tl, htl⟩ : ∃ tl, pre.any (fun x => decide (2000 < x.1.f0.size)) = tl := ⟨_, rfl⟩
    rw [htl] at hL
    have d1 := hL.b1.cell
    have d2 := hL.b2.cell
    have d3 := hL.bl.cell
    have d4 := hL.bt.cell
    have e1 := hL.b1.frozen
    have e2 := hL.b2.frozen
    have e3 := hL.bl.frozen
    have e4 := hL.bt.frozen
    have hg0 : W.cell? ⟨g, 0, none⟩ = some (.string f0) := by simp [World.cell?, hg]
    have hg1 : W.cell? ⟨g, 1, none⟩ = some (.bool f1) := by simp [World.cell?, hg]
    cases b with
    | false =>
      gi_wp2
      have k1 := grownBy_setCell' W w.heap.size (.slice none 0 0)
      have k2 := grownBy_setCell' (W.setCell ⟨w.heap.size, 0, none⟩ (.slice none 0 0)) (w.heap.size + 1) (.int .i64 6)
      refine ⟨(KeepsFrom.of_grownBy k1 (fun j e => by cases e; omega)).trans (KeepsFrom.of_grownBy k2 (fun j e => by cases e; omega)), rfl, (hL.b1.set _).kept k2 (by simp), (hL.b2.kept k1 (by simp)).set _, (hB.setCell (p := ⟨w.heap.size, 0, none⟩) (Nat.le_refl _) _).setCell (p := ⟨w.heap.size + 1, 0, none⟩) (by show w.heap.size ≤ w.heap.size + 1; omega) _, ?_⟩
      rw [← hpx]
      exact ⟨⟨f0, f1⟩, by simp⟩
    | true =>
      obtain ⟨dq, hdq⟩ : ∃ dq, decide (2000 < f0.size) = dq := ⟨_, rfl⟩
      have hdI : decide ((2000 : Int) < (f0.size : Int)) = dq := by rw [← hdq]; exact decide_eq_decide.2 (by omega)
      have hlt' : pre.length + 1 ≤ 9000 := by
        have := hlen.1
        rw [← hpx, List.length_append, List.length_cons] at this
        omega
      have hg3 : g ≠ w.heap.size + 3 := by
        rintro rfl
        have := (show W.heap[w.heap.size + 3]? = _ from hL.bt).symm.trans hg
        simp at this
      have D3 := fun u : Value => (hL.bl.kept (grownBy_setCell' W (w.heap.size + 3) u) (by simp)).cell
      have E3 := fun u : Value => (hL.bl.kept (grownBy_setCell' W (w.heap.size + 3) u) (by simp)).frozen
      have G := fun u : Value => blk_far hg (p := ⟨w.heap.size + 3, 0, none⟩) hg3 u
      have G0 : ∀ u : Value, (W.setCell ⟨w.heap.size + 3, 0, none⟩ u).cell? ⟨g, 0, none⟩ = some (.string f0) := fun u => by simp [World.cell?, G u]
      have G1 : ∀ u : Value, (W.setCell ⟨w.heap.size + 3, 0, none⟩ u).cell? ⟨g, 1, none⟩ = some (.bool f1) := fun u => by simp [World.cell?, G u]
      have HR := ak fun u : Value => (hL.row.kept (grownBy_setCell' W (w.heap.size + 3) u) (by
        cases hv : v.ownBlock with
        | none => exact .inl rfl
        | some k => right; intro e; rw [← hv] at e; exact hL.bt.not_row (by decide) hL.row e.symm)).alloc (.cells #[.string f0, .bool f1] 47)
      have HS := ak fun u : Value => (show w.heap.size ≤ ((W.setCell ⟨w.heap.size + 3, 0, none⟩ u).alloc (.cells #[.string f0, .bool f1] 47)).heap.size from by simp [World.setCell]; omega)
      have HC := ak fun u : Value => Wd.cell_two (W.setCell ⟨w.heap.size + 3, 0, none⟩ u) W.heap.size (by simp [World.setCell]) (.string f0) (.bool f1)
      have HSt := ak fun (u : Bool) (v' : Value) (W3 : World) => hL.step (x := ((⟨f0, f1⟩ : S47), true)) (v' := v') (tl' := u) (W3 := W3) h4 (by omega) hsz
      have HB := ak hB
      have H1 := ak h1
      have HT : Aside0 ((pre ++ [((⟨f0, f1⟩ : S47), true)]).any (fun x => decide (2000 < x.1.f0.size)) = (tl || dq)) := ⟨by rw [List.any_append, htl]; simp [hdq]⟩
      clear hB h1 htl hdq hpx hsz hL hg h4 hne
      cases tl with
      | true =>
        gi_wp2_with (gi_at_builtin; refine Wd.wpListIn_append_at _ rfl _ _ 22 rfl w.heap.size 47 i0 (.agg #[.string ⟨#[]⟩, .bool false]) 2 24 Tryz.underlying22 hi hz0 hz1 hz2 rfl (by decide) v pre.length (Wd.cellsOf pre) rfl (HR.out _) _ 1 1 [.string f0, .bool f1] rfl rfl (HC.out _) (by simp [Value.oneCell']) (by unfold maxLen; omega) (by omega) (HS.out _) ?_; intro v' w2 hown' hgrow hat; obtain ⟨g', cap', rfl⟩ := ownsRow_succ hown'; obtain ⟨q0, q1, q2, q3, q4⟩ := HSt.out true _ _ hown' hgrow hat; have z1 := q0.cell; have z2 := q0.frozen)
        exact ⟨q2, q3, by intro a hy; rcases List.mem_append.1 hy with h | h; exact absurd (H1.out (a, false) h) (by simp); simp at h, ⟨_, by rw [HT.out]; exact q1⟩, HB.out.trans q4⟩
      | false =>
        gi_wp2_with (gi_at_builtin; refine Wd.wpListIn_append_at _ rfl _ _ 22 rfl w.heap.size 47 i0 (.agg #[.string ⟨#[]⟩, .bool false]) 2 24 Tryz.underlying22 hi hz0 hz1 hz2 rfl (by decide) v pre.length (Wd.cellsOf pre) rfl (HR.out _) _ 1 1 [.string f0, .bool f1] rfl rfl (HC.out _) (by simp [Value.oneCell']) (by unfold maxLen; omega) (by omega) (HS.out _) ?_; intro v' w2 hown' hgrow hat; obtain ⟨g', cap', rfl⟩ := ownsRow_succ hown'; obtain ⟨q0, q1, q2, q3, q4⟩ := HSt.out dq _ _ hown' hgrow hat; have z1 := q0.cell; have z2 := q0.frozen)
        exact ⟨q2, q3, by intro a hy; rcases List.mem_append.1 hy with h | h; exact absurd (H1.out (a, false) h) (by simp); simp at h, ⟨_, by rw [HT.out]; exact q1⟩, HB.out.trans q4⟩
  case done =>
    rintro D W hD ⟨h1, ⟨v, hL⟩, hB⟩ hK
    have hall : rs.all (fun x => x.2) = true := List.all_eq_true.2 (fun x hx => h1 x hx)
    obtain ⟨m, hm⟩ : ∃ m, rs.length = m + 1 := ⟨rs.length - 1, by have := List.length_pos_iff.2 hlen.2; omega⟩
    have hrow := hL.row
    rw [hm] at hrow
    obtain ⟨g', cap', rfl⟩ := ownsRow_succ hrow
    obtain ⟨tl, htl⟩ : ∃ tl, rs.any (fun x => decide (2000 < x.1.f0.size)) = tl := ⟨_, rfl⟩
    rw [htl] at hL
    have hDlt := (Array.getElem?_eq_some_iff.1 hK).1
    have hfar : ∀ {B : Nat} {t : TypeId} {u : Value}, Boxed W B t u → t ≠ 47 → (Value.slice (some ⟨g', 0, none⟩) (m + 1) cap').ownBlock = none ∨ (Value.slice (some ⟨g', 0, none⟩) (m + 1) cap').ownBlock ≠ some B := fun hb ht => .inr (fun e => hb.not_row ht hrow e.symm)
    have d1 := hL.b1.cell
    have d2 := hL.b2.cell
    have d3 := hL.bl.cell
    have d4 := hL.bt.cell
    have e1 := hL.b1.frozen
    have e2 := hL.b2.frozen
    have e3 := hL.bl.frozen
    have e4 := hL.bt.frozen
    by_cases hlong : tl = true ∨ 64 < rs.length
    · have hsp : Wd.splitR rs = ([], 3) := by unfold Wd.splitR; rw [if_pos hall, htl, if_pos hlong]
      cases tl with
      | true =>
        gi_wp2
        have k1 := grownBy_setCell' W w.heap.size (.slice none 0 0)
        have k2 := grownBy_setCell' (W.setCell ⟨w.heap.size, 0, none⟩ (.slice none 0 0)) (w.heap.size + 1) (.int .i64 3)
        have hK2 := (k2.block D (by have := k1.size; omega) (by simp; omega)).trans ((k1.block D hDlt (by simp; omega)).trans hK)
        have r1 := (hL.b1.set (.slice none 0 0)).kept k2 (by simp)
        have r2 := (hL.b2.kept k1 (by simp)).set (.int .i64 3)
        refine ⟨by simp, .inl ⟨_, _, rfl, run_takeDeferred hK2, ?_⟩⟩
        have kD := grownBy_putObj' ((W.setCell ⟨w.heap.size, 0, none⟩ (.slice none 0 0)).setCell ⟨w.heap.size + 1, 0, none⟩ (.int .i64 3)) D (.deferred none)
        have c1 := (r1.kept kD (by simp; omega)).cell
        have c2 := (r2.kept kD (by simp; omega)).cell
        have hBB : Below w.heap.size w _ := (((hB.setCell (p := ⟨w.heap.size, 0, none⟩) (Nat.le_refl _) (.slice none 0 0)).setCell (p := ⟨w.heap.size + 1, 0, none⟩) (by show w.heap.size ≤ w.heap.size + 1; omega) (.int .i64 3))).grown kD (by have := k2.size; have := k1.size; have := hB.size; omega) (fun r e => by cases e; omega)
        refine ⟨.tuple #[.slice none 0 0, .int .i64 3], by simp [results, Tryz.f8, go_sem, c1, c2], .slice none 0 0, by first | rfl | rw [hsp], by (try rw [hsp]); exact Kd.R_nil _ _ _ _ _, hBB⟩
      | false =>
        have hq : ¬ ((m : Int) + 1 ≤ 64) := by rcases hlong with h | h; cases h; omega
        have hq2 : decide ((64 : Int) < (m : Int) + 1) = true := decide_eq_true (by omega)
        gi_wp2
        have k1 := grownBy_setCell' W w.heap.size (.slice none 0 0)
        have k2 := grownBy_setCell' (W.setCell ⟨w.heap.size, 0, none⟩ (.slice none 0 0)) (w.heap.size + 1) (.int .i64 3)
        have hK2 := (k2.block D (by have := k1.size; omega) (by simp; omega)).trans ((k1.block D hDlt (by simp; omega)).trans hK)
        have r1 := (hL.b1.set (.slice none 0 0)).kept k2 (by simp)
        have r2 := (hL.b2.kept k1 (by simp)).set (.int .i64 3)
        refine ⟨by simp, .inl ⟨_, _, rfl, run_takeDeferred hK2, ?_⟩⟩
        have kD := grownBy_putObj' ((W.setCell ⟨w.heap.size, 0, none⟩ (.slice none 0 0)).setCell ⟨w.heap.size + 1, 0, none⟩ (.int .i64 3)) D (.deferred none)
        have c1 := (r1.kept kD (by simp; omega)).cell
        have c2 := (r2.kept kD (by simp; omega)).cell
        have hBB : Below w.heap.size w _ := (((hB.setCell (p := ⟨w.heap.size, 0, none⟩) (Nat.le_refl _) (.slice none 0 0)).setCell (p := ⟨w.heap.size + 1, 0, none⟩) (by show w.heap.size ≤ w.heap.size + 1; omega) (.int .i64 3))).grown kD (by have := k2.size; have := k1.size; have := hB.size; omega) (fun r e => by cases e; omega)
        refine ⟨.tuple #[.slice none 0 0, .int .i64 3], by simp [results, Tryz.f8, go_sem, c1, c2], .slice none 0 0, by first | rfl | rw [hsp], by (try rw [hsp]); exact Kd.R_nil _ _ _ _ _, hBB⟩
    · have hsp : Wd.splitR rs = (rs.map (fun x => x.1), 0) := by unfold Wd.splitR; rw [if_pos hall, htl, if_neg hlong]
      have htf : tl = false := by cases tl; rfl; exact absurd (.inl rfl) hlong
      subst htf
      have hq2 : decide ((64 : Int) < (m : Int) + 1) = false := decide_eq_false (by have : ¬ 64 < rs.length := fun h => hlong (.inr h); omega)
      have d3' := (hL.bl.kept (grownBy_setCell' W w.heap.size (.slice (some ⟨g', 0, none⟩) (m + 1) cap')) (by simp)).cell
      gi_wp2
      have k1 := grownBy_setCell' W w.heap.size (.slice (some ⟨g', 0, none⟩) (m + 1) cap')
      have k2 := grownBy_setCell' (W.setCell ⟨w.heap.size, 0, none⟩ (.slice (some ⟨g', 0, none⟩) (m + 1) cap')) (w.heap.size + 1) (.int .i64 0)
      have hK2 := (k2.block D (by have := k1.size; omega) (by simp; omega)).trans ((k1.block D hDlt (by simp; omega)).trans hK)
      have r1 := (hL.b1.set (.slice (some ⟨g', 0, none⟩) (m + 1) cap')).kept k2 (by simp)
      have r2 := (hL.b2.kept k1 (by simp)).set (.int .i64 0)
      refine ⟨by simp, .inl ⟨_, _, rfl, run_takeDeferred hK2, ?_⟩⟩
      have kD := grownBy_putObj' ((W.setCell ⟨w.heap.size, 0, none⟩ (.slice (some ⟨g', 0, none⟩) (m + 1) cap')).setCell ⟨w.heap.size + 1, 0, none⟩ (.int .i64 0)) D (.deferred none)
      have c1 := (r1.kept kD (by simp; omega)).cell
      have c2 := (r2.kept kD (by simp; omega)).cell
      have hBB : Below w.heap.size w _ := (((hB.setCell (p := ⟨w.heap.size, 0, none⟩) (Nat.le_refl _) (.slice (some ⟨g', 0, none⟩) (m + 1) cap')).setCell (p := ⟨w.heap.size + 1, 0, none⟩) (by show w.heap.size ≤ w.heap.size + 1; omega) (.int .i64 0))).grown kD (by have := k2.size; have := k1.size; have := hB.size; omega) (fun r e => by cases e; omega)
      refine ⟨.tuple #[.slice (some ⟨g', 0, none⟩) (m + 1) cap', .int .i64 0], by simp [results, Tryz.f8, go_sem, c1, c2], .slice (some ⟨g', 0, none⟩) (m + 1) cap', by first | rfl | rw [hsp], by (try rw [hsp]); exact ⟨fun _ _ => trivial, Wd.cellsOf rs, by rw [List.length_map, hm]; exact ((hrow.kept k1 (hfar hL.b1 (by decide))).kept k2 (hfar hL.b2 (by decide))).kept kD (.inr (by simp only [Value.ownBlock, ne_eq, Option.some.injEq]; rintro rfl; obtain ⟨cells, hcc⟩ := own_typed hrow g' rfl; rw [hcc] at hK; cases hK)), Wd.reps _ _ _ rs⟩, hBB⟩
  case stop =>
    rintro D c pre W hD ⟨rfl, hb1, hb2, hB, hall⟩ hK
    have d1 := hb1.cell
    have d2 := hb2.cell
    gi_wp2
    refine ⟨by simp, .inl ⟨_, _, rfl, run_takeDeferred hK, ?_⟩⟩
    have kD := grownBy_putObj' W D (.deferred none)
    have c1 := (hb1.kept kD (by simp; omega)).cell
    have c2 := (hb2.kept kD (by simp; omega)).cell
    have hsp : Wd.splitR rs = ([], 6) := by unfold Wd.splitR; rw [hall]; rfl
    refine ⟨.tuple #[.slice none 0 0, .int .i64 6], by simp [results, Tryz.f8, go_sem, c1, c2], .slice none 0 0, by first | rfl | rw [hsp], by (try rw [hsp]); exact Kd.R_nil _ _ _ _ _, hB.grown kD hB.size (fun r e => by cases e; omega)⟩
set_option maxHeartbeats 1000000 in
theorem words_Split.calls (a0 : ByteArray) (r1 : List S47) (r2 : Int) (w : World) (h : words_Split.f a0 = some (r1, r2)) (HT : Aside0 (Wd.All w)) :
    Calls Tryz.prog 8 #[.string a0] w fun e w' => ∃ v0_ : Value, e = .returned (.tuple #[v0_, .int .i64 r2]) ∧ Kd.R k47 47 w' w.heap.size (fun _ => True) v0_ r1 ∧ Below w.heap.size w w' := by
  unfold words_Split.f at h
  by_cases h1 : 8192 < a0.size
  · rw [if_pos h1] at h
    cases h
    have hl1 : ((8192 : Int) < (a0.size : Int)) := by omega
    refine callsIn_wide (n := 4) |>.1 ?_
    refine callsIn_of_wp Tryz.func8 rfl trivial ?_ rfl
    simp only [Tryz.ntmps8, List.size_toArray, List.length_cons, List.length_nil, Nat.reduceAdd, Nat.reduceSub, Array.replicate_succ, Array.replicate_zero, List.push_toArray, List.append_toArray, List.nil_append, List.cons_append]
    gi_wp2
    have b1 := (Boxed.new w 22 (.slice none 0 0)).alloc (.cells #[.int .i64 3] 28)
    have b2 := Boxed.new (w.alloc (.cells #[.slice none 0 0] 22)) 28 (.int .i64 3)
    simp only [World.size_alloc] at b2
    have c1 := b1.cell
    have c2 := b2.cell
    refine bodyPost_ret (v := .tuple #[.slice none 0 0, .int .i64 3]) ?_ rfl ?_
    · simp [results, Tryz.f8, go_sem, c1, c2]
    · exact ⟨_, rfl, Kd.R_nil _ _ _ _ _, ((Below.refl _ w).alloc (Nat.le_refl _) _).alloc (by simp) _⟩
  rw [if_neg h1] at h
  by_cases h2 : a0.toList = []
  · rw [if_pos h2] at h
    cases h
    obtain rfl : a0 = ⟨#[]⟩ := by rw [← Lib.mk_data a0, ← Lib.toList_data, h2]
    refine callsIn_wide (n := 4) |>.1 ?_
    refine callsIn_of_wp Tryz.func8 rfl trivial ?_ rfl
    simp only [Tryz.ntmps8, List.size_toArray, List.length_cons, List.length_nil, Nat.reduceAdd, Nat.reduceSub, Array.replicate_succ, Array.replicate_zero, List.push_toArray, List.append_toArray, List.nil_append, List.cons_append]
    gi_wp2
    have b1 := (Boxed.new w 22 (.slice none 0 0)).alloc (.cells #[.int .i64 0] 28)
    have b2 := Boxed.new (w.alloc (.cells #[.slice none 0 0] 22)) 28 (.int .i64 0)
    simp only [World.size_alloc] at b2
    have c1 := b1.cell
    have c2 := b2.cell
    refine bodyPost_ret (v := .tuple #[.slice none 0 0, .int .i64 0]) ?_ rfl ?_
    · simp [results, Tryz.f8, go_sem, c1, c2]
    · exact ⟨_, rfl, Kd.R_nil _ _ _ _ _, ((Below.refl _ w).alloc (Nat.le_refl _) _).alloc (by simp) _⟩
  rw [if_neg h2] at h
  obtain ⟨rs, hf, hr⟩ := Option.map_eq_some_iff.1 h
  have e1 : (Wd.splitR rs).1 = r1 := by rw [hr]
  have e2 : (Wd.splitR rs).2 = r2 := by rw [hr]
  subst e1; subst e2
  exact callsIn_wide.1 (Wd.split_in _ _ a0 rs hf (by omega) (by omega) (by rw [List.isEmpty_eq_false_iff]; exact h2) w HT.out)
end
end Go.Proofs.YtciaocdpojnmcaaGreatDoor.P
namespace Go.Proofs.YtciaocdpojnmcaaGreatDoor.P
open Go.RowKit Go.Proofs.YtciaocdpojnmcaaGreatDoorW.PrintWords Go.Proofs.YtciaocdpojnmcaaGreatDoorW.PrintLast Go.Proofs.YtciaocdpojnmcaaGreatDoorW.PrintMore
attribute [local go_sem] max2_int min2_int max_two min_two max_three min_three max_four min_four   -- for this text's walks alone
set_option linter.unusedVariables false
set_option linter.unusedSimpArgs false
def words_Unquote.f (k : Nat) (a0 : ByteArray) : Option (ByteArray × Int) := (words_unquote.f k a0).bind fun bt112 => (if bt112.2 = 0 then (some ((⟨#[]⟩ : ByteArray), 6)) else (if bt112.2 < (a0.size : Int) then (some ((⟨#[]⟩ : ByteArray), 6)) else (some (bt112.1, 0))))
set_option maxHeartbeats 8000000 in
set_option maxRecDepth 100000 in
theorem words_Unquote.calls (k : Nat) (a0 : ByteArray) (r1 : ByteArray) (r2 : Int) (w : World) (h : words_Unquote.f k a0 = some (r1, r2)) (HT : Aside0 (Wd.All w)) :
    Calls Tryz.prog 11 #[.string a0] w fun e w' => e = .returned (.tuple #[.string r1, .int .i64 r2]) ∧ Below w.heap.size w w' := by
  have HB := ak (Below.refl w.heap.size w)
  have H : ((words_unquote.f k a0).bind fun bt112 => (if bt112.2 = 0 then (some ((⟨#[]⟩ : ByteArray), 6)) else (if bt112.2 < (a0.size : Int) then (some ((⟨#[]⟩ : ByteArray), 6)) else (some (bt112.1, 0))))) = some (r1, r2) := h
  clear h
  replace H := Option.bind_eq_some_iff.mp H
  obtain ⟨⟨t112, t113⟩, A20, H⟩ := H
  replace H : (if t113 = 0 then (some ((⟨#[]⟩ : ByteArray), 6)) else (if t113 < (a0.size : Int) then (some ((⟨#[]⟩ : ByteArray), 6)) else (some (t112, 0)))) = some (r1, r2) := H
  have A2 := ak A20
  clear A20
  by_cases c3 : t113 = 0
  · rw [if_pos c3] at H
    have c3b0 : (t113 == 0) = true := beq_iff_eq.mpr c3
    have c3b1 : (t113 != 0) = false := bne_eq_false_iff_eq.mpr c3
    clear c3
    simp only [Option.some.injEq, Prod.mk.injEq] at H
    obtain ⟨rfl, rfl⟩ := H
    go_enter Tryz.func11, Tryz.ntmps11
    go_wp2_with (first | ((with_reducible refine gate_callee (f := 24) rfl ?_); refine goesL_ (some 8) rfl rfl Tryz.func24 (by kernel_rfl) rfl #[.string a0] rfl (by (try simp only [List.map_toArray, List.map_cons, List.map_nil]); first | done | rfl | (simp only [List.length_drop, List.length_take]; rfl)) ?_; (with_reducible refine (words_unquote.calls k a0 t112 t113 _ A2.out ⟨Wd.All.stay HT.out (by repeat (first | (with_reducible first | exact HB.out | apply wA | apply wN | apply wD) | exact HB.out | (refine below_set ?_ (by assumption)) | (refine below_set ?_ (Aside0.out (by assumption)))))⟩).mono ?_); rintro e w4 ⟨rfl, hb⟩; refine ⟨_, rfl, ?_⟩; have n0_ := ak (below_step (by repeat (first | (with_reducible first | exact HB.out | apply wA | apply wN | apply wD) | exact HB.out)) hb); clear HB; have HB := n0_; clear n0_; (try clear hb); (try clear hb2); (try clear hk); (try clear hi)))
    go_ret2
    exact ⟨by first | rfl | (simp [errW_none, errW_some] <;> rfl) | (simp [*, errW_none, errW_some] <;> rfl), by repeat (first | (with_reducible first | exact HB.out | apply wA | apply wN | apply wD) | exact HB.out)⟩
  · rw [if_neg c3] at H
    have c3b0 : (t113 == 0) = false := beq_eq_false_iff_ne.mpr c3
    have c3b1 : (t113 != 0) = true := bne_iff_ne.mpr c3
    by_cases c5 : t113 < (a0.size : Int)
    · rw [if_pos c5] at H
      have c5b0 : decide (t113 < (a0.size : Int)) = true := decide_eq_true c5
      clear c5
      simp only [Option.some.injEq, Prod.mk.injEq] at H
      obtain ⟨rfl, rfl⟩ := H
      go_enter Tryz.func11, Tryz.ntmps11
      go_wp2_with (first | ((with_reducible refine gate_callee (f := 24) rfl ?_); refine goesL_ (some 8) rfl rfl Tryz.func24 (by kernel_rfl) rfl #[.string a0] rfl (by (try simp only [List.map_toArray, List.map_cons, List.map_nil]); first | done | rfl | (simp only [List.length_drop, List.length_take]; rfl)) ?_; (with_reducible refine (words_unquote.calls k a0 t112 t113 _ A2.out ⟨Wd.All.stay HT.out (by repeat (first | (with_reducible first | exact HB.out | apply wA | apply wN | apply wD) | exact HB.out | (refine below_set ?_ (by assumption)) | (refine below_set ?_ (Aside0.out (by assumption)))))⟩).mono ?_); rintro e w6 ⟨rfl, hb⟩; refine ⟨_, rfl, ?_⟩; have n0_ := ak (below_step (by repeat (first | (with_reducible first | exact HB.out | apply wA | apply wN | apply wD) | exact HB.out)) hb); clear HB; have HB := n0_; clear n0_; (try clear hb); (try clear hb2); (try clear hk); (try clear hi)))
      go_ret2
      exact ⟨by first | rfl | (simp [errW_none, errW_some] <;> rfl) | (simp [*, errW_none, errW_some] <;> rfl), by repeat (first | (with_reducible first | exact HB.out | apply wA | apply wN | apply wD) | exact HB.out)⟩
    · rw [if_neg c5] at H
      have c5b0 : decide (t113 < (a0.size : Int)) = false := decide_eq_false c5
      clear c5
      simp only [Option.some.injEq, Prod.mk.injEq] at H
      obtain ⟨rfl, rfl⟩ := H
      go_enter Tryz.func11, Tryz.ntmps11
      go_wp2_with (first | ((with_reducible refine gate_callee (f := 24) rfl ?_); refine goesL_ (some 8) rfl rfl Tryz.func24 (by kernel_rfl) rfl #[.string a0] rfl (by (try simp only [List.map_toArray, List.map_cons, List.map_nil]); first | done | rfl | (simp only [List.length_drop, List.length_take]; rfl)) ?_; (with_reducible refine (words_unquote.calls k a0 t112 t113 _ A2.out ⟨Wd.All.stay HT.out (by repeat (first | (with_reducible first | exact HB.out | apply wA | apply wN | apply wD) | exact HB.out | (refine below_set ?_ (by assumption)) | (refine below_set ?_ (Aside0.out (by assumption)))))⟩).mono ?_); rintro e w7 ⟨rfl, hb⟩; refine ⟨_, rfl, ?_⟩; have n0_ := ak (below_step (by repeat (first | (with_reducible first | exact HB.out | apply wA | apply wN | apply wD) | exact HB.out)) hb); clear HB; have HB := n0_; clear n0_; (try clear hb); (try clear hb2); (try clear hk); (try clear hi)))
      go_ret2
      exact ⟨by first | rfl | (simp [errW_none, errW_some] <;> rfl) | (simp [*, errW_none, errW_some] <;> rfl), by repeat (first | (with_reducible first | exact HB.out | apply wA | apply wN | apply wD) | exact HB.out)⟩
def strconv_Itoa_30.f (a0 : Int) : Option ByteArray := if 0 ≤ a0 ∧ a0 ≤ 1000000000 then some ⟨(Lib.itoa a0).toArray⟩ else none
theorem strconv_Itoa_30.calls (a0 : Int) (r : ByteArray) (w : World) (h : strconv_Itoa_30.f a0 = some r) (HT : Aside0 (Wd.All w)) :
    Calls Tryz.prog 30 #[.int .i64 a0] w fun e w' => e = .returned (.string r) ∧ Below w.heap.size w w' := by
  unfold strconv_Itoa_30.f at h
  by_cases hs : 0 ≤ a0 ∧ a0 ≤ 1000000000
  · rw [if_pos hs] at h
    obtain rfl := Option.some.inj h
    exact Wd.itoa_calls a0 hs.1 hs.2 w HT.out.pow
  · rw [if_neg hs] at h; cases h
def words_List.f (l0 : List Int) : Option (ByteArray × Int) := some (Wd.listS l0)
theorem words_List.calls (A0 : Option Addr) (c0 : Nat) (l0 : List Int) (r1 : ByteArray) (r2 : Int) (w : World) (hr0 : Kd.C (Kd.int .i64) w A0 l0.length l0) (hc0 : l0.length ≤ c0) (h : words_List.f l0 = some (r1, r2)) (HT : Aside0 (Wd.All w)) :
    Calls Tryz.prog 13 #[.slice A0 l0.length c0] w fun e w' => e = .returned (.tuple #[.string r1, .int .i64 r2]) ∧ Below w.heap.size w w' := by
  unfold words_List.f at h
  have h' := Option.some.inj h
  have h1 : (Wd.listS l0).1 = r1 := by rw [h']
  have h2 : (Wd.listS l0).2 = r2 := by rw [h']
  subst h1; subst h2
  exact Wd.list_calls l0 A0 c0 w hr0 HT.out.pow
def strings_Trim.f (a0 a1 : ByteArray) : Option ByteArray := if a0.size ≤ 9223372036854775807 ∧ 2 ≤ a1.size ∧ a1.size < 4294967281 ∧ a1.data.toList.all (fun b => decide (b.toNat < 128)) = true then some ⟨(Wd.trimL a1.data.toList (Wd.trimR a1.data.toList a0.data.toList)).toArray⟩ else none
theorem strings_Trim.calls (a0 a1 : ByteArray) (r : ByteArray) (w : World) (h : strings_Trim.f a0 a1 = some r) :
    Calls Tryz.prog 46 #[.string a0, .string a1] w fun e w' => e = .returned (.string r) ∧ Below w.heap.size w w' := by
  unfold strings_Trim.f at h
  by_cases hs : a0.size ≤ 9223372036854775807 ∧ 2 ≤ a1.size ∧ a1.size < 4294967281 ∧ a1.data.toList.all (fun b => decide (b.toNat < 128)) = true
  · rw [if_pos hs] at h
    obtain rfl := Option.some.inj h
    exact Wd.trim_calls a0 a1 hs.1 hs.2.1 hs.2.2.1 (fun j b hj => of_decide_eq_true (List.all_eq_true.1 hs.2.2.2 b (List.mem_of_getElem? hj))) w
  · rw [if_neg hs] at h; cases h
def strings_TrimPrefix.f (a0 a1 : ByteArray) : Option ByteArray := some ⟨(Lib.trimPrefix a0.data.toList a1.data.toList).toArray⟩
theorem strings_TrimPrefix.calls (a0 a1 : ByteArray) (r : ByteArray) (w : World) (h : strings_TrimPrefix.f a0 a1 = some r) :
    Calls Tryz.prog 54 #[.string a0, .string a1] w fun e w' => e = .returned (.string r) ∧ w' = w := by
  unfold strings_TrimPrefix.f at h
  obtain rfl := Option.some.inj h
  exact Tryz.strings_TrimPrefix a0 a1 w
end Go.Proofs.YtciaocdpojnmcaaGreatDoor.P
namespace Go.Proofs.YtciaocdpojnmcaaGreatDoor.P
open Go.RowKit Go.Proofs.YtciaocdpojnmcaaGreatDoorW.PrintWords Go.Proofs.YtciaocdpojnmcaaGreatDoorW.PrintLast Go.Proofs.YtciaocdpojnmcaaGreatDoorW.PrintMore
attribute [local go_sem] max2_int min2_int max_two min_two max_three min_three max_four min_four   -- for this text's walks alone
set_option linter.unusedVariables false
set_option linter.unusedSimpArgs false
def words_isDecimal.f (a0 : ByteArray) : Option (Bool) := (strings_TrimPrefix.f a0 (⟨#[45]⟩ : ByteArray)).bind fun t114 => (if t114.toList = ([] : List UInt8) then (some false) else ((strings_Trim.f t114 (⟨#[48, 49, 50, 51, 52, 53, 54, 55, 56, 57]⟩ : ByteArray)).bind fun t115 => (if t115.toList = ([] : List UInt8) then (if 0 < (t114.size : Int) then (if (bt t114 0) = 48 then (some (a0.toList == ([48] : List UInt8))) else (some true)) else (none)) else (some false))))
set_option maxHeartbeats 8000000 in
set_option maxRecDepth 100000 in
theorem words_isDecimal.calls (a0 : ByteArray) (r : Bool) (w : World) (h : words_isDecimal.f a0 = some r) :
    Calls Tryz.prog 34 #[.string a0] w fun e w' => e = .returned (.bool r) ∧ Below w.heap.size w w' := by
  have HB := ak (Below.refl w.heap.size w)
  have H : ((strings_TrimPrefix.f a0 (⟨#[45]⟩ : ByteArray)).bind fun t114 => (if t114.toList = ([] : List UInt8) then (some false) else ((strings_Trim.f t114 (⟨#[48, 49, 50, 51, 52, 53, 54, 55, 56, 57]⟩ : ByteArray)).bind fun t115 => (if t115.toList = ([] : List UInt8) then (if 0 < (t114.size : Int) then (if (bt t114 0) = 48 then (some (a0.toList == ([48] : List UInt8))) else (some true)) else (none)) else (some false))))) = some r := h
  clear h
  replace H := Option.bind_eq_some_iff.mp H
  obtain ⟨t114, A20, H⟩ := H
  replace H : (if t114.toList = ([] : List UInt8) then (some false) else ((strings_Trim.f t114 (⟨#[48, 49, 50, 51, 52, 53, 54, 55, 56, 57]⟩ : ByteArray)).bind fun t115 => (if t115.toList = ([] : List UInt8) then (if 0 < (t114.size : Int) then (if (bt t114 0) = 48 then (some (a0.toList == ([48] : List UInt8))) else (some true)) else (none)) else (some false)))) = some r := H
  have A2 := ak A20
  clear A20
  by_cases c3 : t114.toList = ([] : List UInt8)
  · rw [if_pos c3] at H
    have c3b0 : (t114.toList == ([] : List UInt8)) = true := beq_iff_eq.mpr c3
    have c3b1 : (t114.toList != ([] : List UInt8)) = false := bne_eq_false_iff_eq.mpr c3
    clear c3
    obtain rfl := Option.some.inj H
    go_enter Tryz.func34, Tryz.ntmps34
    go_wp2_with (first | ((with_reducible refine gate_callee (f := 54) rfl ?_); refine goesL_ (some 5) rfl rfl Tryz.func54 (by kernel_rfl) rfl #[.string a0, .string (⟨#[45]⟩ : ByteArray)] rfl (by (try simp only [List.map_toArray, List.map_cons, List.map_nil]); first | done | rfl | (simp only [List.length_drop, List.length_take]; rfl)) ?_; (with_reducible refine (strings_TrimPrefix.calls a0 (⟨#[45]⟩ : ByteArray) t114 _ A2.out).mono ?_); rintro e w' ⟨rfl, ⟨nd, rfl⟩⟩; refine ⟨_, rfl, ?_⟩))
    go_ret
    exact ⟨by first | rfl | (simp [errW_none, errW_some] <;> rfl) | (simp [*, errW_none, errW_some] <;> rfl), by repeat (first | (with_reducible first | exact HB.out | apply wA | apply wN | apply wD) | exact HB.out)⟩
  · rw [if_neg c3] at H
    have c3b0 : (t114.toList == ([] : List UInt8)) = false := beq_eq_false_iff_ne.mpr c3
    have c3b1 : (t114.toList != ([] : List UInt8)) = true := bne_iff_ne.mpr c3
    replace H := Option.bind_eq_some_iff.mp H
    obtain ⟨t115, A40, H⟩ := H
    replace H : (if t115.toList = ([] : List UInt8) then (if 0 < (t114.size : Int) then (if (bt t114 0) = 48 then (some (a0.toList == ([48] : List UInt8))) else (some true)) else (none)) else (some false)) = some r := H
    have A4 := ak A40
    clear A40
    by_cases c5 : t115.toList = ([] : List UInt8)
    · rw [if_pos c5] at H
      have c5b0 : (t115.toList == ([] : List UInt8)) = true := beq_iff_eq.mpr c5
      have c5b1 : (t115.toList != ([] : List UInt8)) = false := bne_eq_false_iff_eq.mpr c5
      clear c5
      by_cases c6 : 0 < (t114.size : Int)
      · rw [if_pos c6] at H
        have c6b0 : decide (0 < (t114.size : Int)) = true := decide_eq_true c6
        have c6b1 : decide (0 < t114.size) = true := decide_eq_true (by omega)
        clear c6
        by_cases c8 : (bt t114 0) = 48
        · rw [if_pos c8] at H
          have c8b0 : ((bt t114 0) == 48) = true := beq_iff_eq.mpr c8
          have c8b1 : ((bt t114 0) != 48) = false := bne_eq_false_iff_eq.mpr c8
          clear c8
          obtain rfl := Option.some.inj H
          go_enter Tryz.func34, Tryz.ntmps34
          go_wp2_with (first | ((with_reducible refine gate_callee (f := 54) rfl ?_); refine goesL_ (some 5) rfl rfl Tryz.func54 (by kernel_rfl) rfl #[.string a0, .string (⟨#[45]⟩ : ByteArray)] rfl (by (try simp only [List.map_toArray, List.map_cons, List.map_nil]); first | done | rfl | (simp only [List.length_drop, List.length_take]; rfl)) ?_; (with_reducible refine (strings_TrimPrefix.calls a0 (⟨#[45]⟩ : ByteArray) t114 _ A2.out).mono ?_); rintro e w' ⟨rfl, ⟨nd, rfl⟩⟩; refine ⟨_, rfl, ?_⟩) | (go_at_call 46; (with_reducible refine (strings_Trim.calls t114 (⟨#[48, 49, 50, 51, 52, 53, 54, 55, 56, 57]⟩ : ByteArray) t115 _ A4.out).mono ?_); rintro e w9 ⟨rfl, hb⟩; have n0_ := ak (below_step (by repeat (first | (with_reducible first | exact HB.out | apply wA | apply wN | apply wD) | exact HB.out)) hb); clear HB; have HB := n0_; clear n0_; (try clear hb); (try clear hb2); (try clear hk); (try clear hi); have p7 : 0 ≤ (0 : Int) := (by omega); have q7 : 0 < t114.size := (by have : (0 : Int) < (t114.size : Int) := of_decide_eq_true (by first | (with_reducible assumption) | assumption); omega); have hx7 : ∀ h : 0 < t114.size, ((t114[0]'h).toNat : Int) = bt t114 0 := bt_at t114 0; clear p7; have qi7 : (0 < (t114.size : Int)) = True := eq_true (of_decide_eq_true (by first | (with_reducible assumption) | assumption)); replace q7 := eq_true q7))
          go_ret
          exact ⟨by first | rfl | (simp [errW_none, errW_some] <;> rfl) | (simp [*, errW_none, errW_some] <;> rfl), by repeat (first | (with_reducible first | exact HB.out | apply wA | apply wN | apply wD) | exact HB.out)⟩
        · rw [if_neg c8] at H
          have c8b0 : ((bt t114 0) == 48) = false := beq_eq_false_iff_ne.mpr c8
          have c8b1 : ((bt t114 0) != 48) = true := bne_iff_ne.mpr c8
          obtain rfl := Option.some.inj H
          go_enter Tryz.func34, Tryz.ntmps34
          go_wp2_with (first | ((with_reducible refine gate_callee (f := 54) rfl ?_); refine goesL_ (some 5) rfl rfl Tryz.func54 (by kernel_rfl) rfl #[.string a0, .string (⟨#[45]⟩ : ByteArray)] rfl (by (try simp only [List.map_toArray, List.map_cons, List.map_nil]); first | done | rfl | (simp only [List.length_drop, List.length_take]; rfl)) ?_; (with_reducible refine (strings_TrimPrefix.calls a0 (⟨#[45]⟩ : ByteArray) t114 _ A2.out).mono ?_); rintro e w' ⟨rfl, ⟨nd, rfl⟩⟩; refine ⟨_, rfl, ?_⟩) | (go_at_call 46; (with_reducible refine (strings_Trim.calls t114 (⟨#[48, 49, 50, 51, 52, 53, 54, 55, 56, 57]⟩ : ByteArray) t115 _ A4.out).mono ?_); rintro e w10 ⟨rfl, hb⟩; have n0_ := ak (below_step (by repeat (first | (with_reducible first | exact HB.out | apply wA | apply wN | apply wD) | exact HB.out)) hb); clear HB; have HB := n0_; clear n0_; (try clear hb); (try clear hb2); (try clear hk); (try clear hi); have p7 : 0 ≤ (0 : Int) := (by omega); have q7 : 0 < t114.size := (by have : (0 : Int) < (t114.size : Int) := of_decide_eq_true (by first | (with_reducible assumption) | assumption); omega); have hx7 : ∀ h : 0 < t114.size, ((t114[0]'h).toNat : Int) = bt t114 0 := bt_at t114 0; clear p7; have qi7 : (0 < (t114.size : Int)) = True := eq_true (of_decide_eq_true (by first | (with_reducible assumption) | assumption)); replace q7 := eq_true q7))
          go_ret
          exact ⟨by first | rfl | (simp [errW_none, errW_some] <;> rfl) | (simp [*, errW_none, errW_some] <;> rfl), by repeat (first | (with_reducible first | exact HB.out | apply wA | apply wN | apply wD) | exact HB.out)⟩
      · rw [if_neg c6] at H
        exact absurd H (by simp)
    · rw [if_neg c5] at H
      have c5b0 : (t115.toList == ([] : List UInt8)) = false := beq_eq_false_iff_ne.mpr c5
      have c5b1 : (t115.toList != ([] : List UInt8)) = true := bne_iff_ne.mpr c5
      obtain rfl := Option.some.inj H
      go_enter Tryz.func34, Tryz.ntmps34
      go_wp2_with (first | ((with_reducible refine gate_callee (f := 54) rfl ?_); refine goesL_ (some 5) rfl rfl Tryz.func54 (by kernel_rfl) rfl #[.string a0, .string (⟨#[45]⟩ : ByteArray)] rfl (by (try simp only [List.map_toArray, List.map_cons, List.map_nil]); first | done | rfl | (simp only [List.length_drop, List.length_take]; rfl)) ?_; (with_reducible refine (strings_TrimPrefix.calls a0 (⟨#[45]⟩ : ByteArray) t114 _ A2.out).mono ?_); rintro e w' ⟨rfl, ⟨nd, rfl⟩⟩; refine ⟨_, rfl, ?_⟩) | (go_at_call 46; (with_reducible refine (strings_Trim.calls t114 (⟨#[48, 49, 50, 51, 52, 53, 54, 55, 56, 57]⟩ : ByteArray) t115 _ A4.out).mono ?_); rintro e w11 ⟨rfl, hb⟩; have n0_ := ak (below_step (by repeat (first | (with_reducible first | exact HB.out | apply wA | apply wN | apply wD) | exact HB.out)) hb); clear HB; have HB := n0_; clear n0_; (try clear hb); (try clear hb2); (try clear hk); (try clear hi)))
      go_ret
      exact ⟨by first | rfl | (simp [errW_none, errW_some] <;> rfl) | (simp [*, errW_none, errW_some] <;> rfl), by repeat (first | (with_reducible first | exact HB.out | apply wA | apply wN | apply wD) | exact HB.out)⟩
end Go.Proofs.YtciaocdpojnmcaaGreatDoor.P
namespace Go.Proofs.YtciaocdpojnmcaaGreatDoor.P
open Go.RowKit Go.Proofs.YtciaocdpojnmcaaGreatDoorW.PrintWords Go.Proofs.YtciaocdpojnmcaaGreatDoorW.PrintLast Go.Proofs.YtciaocdpojnmcaaGreatDoorW.PrintMore
attribute [local go_sem] max2_int min2_int max_two min_two max_three min_three max_four min_four   -- for this text's walks alone
set_option linter.unusedVariables false
set_option linter.unusedSimpArgs false
/-- What words.Int answers at a decimal form. -/
def Wd.intP (s : ByteArray) (lo hi : Int) : Int × Int := match Lib.parseIntB 64 s.data.toList with
  | .ok v => if v < lo ∨ hi < v then (0, 7) else (v, 0)
  | _ => (0, 7)
def Wd.piOk (l : List UInt8) : Bool := match Lib.parseIntB 64 l with
  | .ok _ => true
  | .range => true
  | _ => false
def words_Int.f (a0 : ByteArray) (a1 a2 : Int) : Option (Int × Int) := (words_isDecimal.f a0).bind fun d => if d = false then some (0, 6) else if a0.size ≤ 281474976710656 ∧ Wd.piOk a0.data.toList = true then some (Wd.intP a0 a1 a2) else none
set_option maxHeartbeats 1000000 in
set_option maxRecDepth 100000 in
theorem words_Int.calls (a0 : ByteArray) (a1 a2 : Int) (r1 r2 : Int) (w : World) (h : words_Int.f a0 a1 a2 = some (r1, r2)) (HT : Aside0 (Wd.All w)) :
    Calls Tryz.prog 16 #[.string a0, .int .i64 a1, .int .i64 a2] w fun e w' => e = .returned (.tuple #[.int .i64 r1, .int .i64 r2]) ∧ Below w.heap.size w w' := by
  unfold words_Int.f at h
  obtain ⟨d, hd, h⟩ := Option.bind_eq_some_iff.mp h
  have HD := ak hd
  clear hd
  cases d with
  | false =>
    rw [if_pos rfl] at h
    cases h
    go_enter Tryz.func16, Tryz.ntmps16
    go_wp2_with (go_at_call 34; with_reducible refine Calls.mono (words_isDecimal.calls a0 false _ HD.out) ?_; rintro e w1 ⟨rfl, hb⟩)
    go_ret2
    exact ⟨rfl, hb⟩
  | true =>
    rw [if_neg (by decide)] at h
    by_cases hs : a0.size ≤ 281474976710656 ∧ Wd.piOk a0.data.toList = true
    rotate_left
    · rw [if_neg hs] at h; cases h
    rw [if_pos hs] at h
    obtain ⟨hs1, hs2⟩ := hs
    have HS1 := ak hs1
    have HS2 := ak hs2
    clear hs1 hs2
    unfold Wd.intP at h
    cases hp : Lib.parseIntB 64 a0.data.toList with
    | range =>
      rw [hp] at h
      cases h
      have HP := ak hp
      clear hp
      go_enter Tryz.func16, Tryz.ntmps16
      go_wp2_with (first
        | (go_at_call 34; with_reducible refine Calls.mono (words_isDecimal.calls a0 true _ HD.out) ?_; rintro e w1 ⟨rfl, hb⟩; have HB := ak hb; clear hb)
        | (go_at_call 38; with_reducible refine Calls.mono (Wd.pi_range a0 HS1.out HP.out _ (HT.out.stay HB.out)) ?_; rintro e w2 ⟨pv, rfl, h3⟩; have HB2 := ak (below_step HB.out h3); clear h3))
      go_ret2
      exact ⟨rfl, HB2.out⟩
    | ok v =>
      rw [hp] at h
      have HP := ak hp
      clear hp
      dsimp only at h
      have HH := ak (Option.some.inj h)
      clear h
      by_cases c1 : v < a1
      · have hr : (r1, r2) = ((0 : Int), (7 : Int)) := by rw [← HH.out, if_pos (.inl c1)]
        cases hr
        have b1 : decide (v < a1) = true := decide_eq_true c1
        clear c1 HH
        go_enter Tryz.func16, Tryz.ntmps16
        go_wp2_with (first
          | (go_at_call 34; with_reducible refine Calls.mono (words_isDecimal.calls a0 true _ HD.out) ?_; rintro e w1 ⟨rfl, hb⟩; have HB := ak hb; clear hb)
          | (go_at_call 38; with_reducible refine Calls.mono (Wd.pi_ok a0 HS1.out _ HP.out _) ?_; rintro e w2 ⟨rfl, h3⟩; have HB2 := ak (below_step HB.out h3); clear h3))
        go_ret2
        exact ⟨rfl, HB2.out⟩
      · have b1 : decide (v < a1) = false := decide_eq_false c1
        by_cases c2 : a2 < v
        · have hr : (r1, r2) = ((0 : Int), (7 : Int)) := by rw [← HH.out, if_pos (.inr c2)]
          cases hr
          have b2 : decide (a2 < v) = true := decide_eq_true c2
          clear c1 c2 HH
          go_enter Tryz.func16, Tryz.ntmps16
          go_wp2_with (first
            | (go_at_call 34; with_reducible refine Calls.mono (words_isDecimal.calls a0 true _ HD.out) ?_; rintro e w1 ⟨rfl, hb⟩; have HB := ak hb; clear hb)
            | (go_at_call 38; with_reducible refine Calls.mono (Wd.pi_ok a0 HS1.out _ HP.out _) ?_; rintro e w2 ⟨rfl, h3⟩; have HB2 := ak (below_step HB.out h3); clear h3))
          go_ret2
          exact ⟨rfl, HB2.out⟩
        · have hr : (r1, r2) = (v, (0 : Int)) := by rw [← HH.out, if_neg (fun h => h.elim c1 c2)]
          obtain ⟨hr1, rfl⟩ := Prod.mk.inj hr
          subst hr1
          have b2 : decide (a2 < r1) = false := decide_eq_false c2
          clear c1 c2 HH
          go_enter Tryz.func16, Tryz.ntmps16
          go_wp2_with (first
            | (go_at_call 34; with_reducible refine Calls.mono (words_isDecimal.calls a0 true _ HD.out) ?_; rintro e w1 ⟨rfl, hb⟩; have HB := ak hb; clear hb)
            | (go_at_call 38; with_reducible refine Calls.mono (Wd.pi_ok a0 HS1.out _ HP.out _) ?_; rintro e w2 ⟨rfl, h3⟩; have HB2 := ak (below_step HB.out h3); clear h3))
          go_ret2
          exact ⟨rfl, HB2.out⟩
    | _ => exact absurd HS2.out (by unfold Wd.piOk; rw [hp]; decide)
end Go.Proofs.YtciaocdpojnmcaaGreatDoor.P
namespace Go.Proofs.YtciaocdpojnmcaaGreatDoor.P
open Go.RowKit Go.Proofs.YtciaocdpojnmcaaGreatDoorW.PrintWords Go.Proofs.YtciaocdpojnmcaaGreatDoorW.PrintLast Go.Proofs.YtciaocdpojnmcaaGreatDoorW.PrintMore
attribute [local go_sem] max2_int min2_int max_two min_two max_three min_three max_four min_four   -- for this text's walks alone
set_option linter.unusedVariables false
set_option linter.unusedSimpArgs false
def words_Name.f (a0 : ByteArray) : Option (Bool) := if a0.toList = ([] : List UInt8) then (some false) else (if (a0.size : Int) > 16 then (some false) else (if 0 < (a0.size : Int) then (if (bt a0 0) < 97 then (some false) else (if (bt a0 0) > 122 then (some false) else ((strings_Trim.f a0 (⟨#[97, 98, 99, 100, 101, 102, 103, 104, 105, 106, 107, 108, 109, 110, 111, 112, 113, 114, 115, 116, 117, 118, 119, 120, 121, 122, 48, 49, 50, 51, 52, 53, 54, 55, 56, 57, 45]⟩ : ByteArray)).bind fun t116 => (some (t116.toList == ([] : List UInt8)))))) else (none)))
set_option maxHeartbeats 8000000 in
set_option maxRecDepth 100000 in
theorem words_Name.calls (a0 : ByteArray) (r : Bool) (w : World) (h : words_Name.f a0 = some r) :
    Calls Tryz.prog 20 #[.string a0] w fun e w' => e = .returned (.bool r) ∧ Below w.heap.size w w' := by
  have HB := ak (Below.refl w.heap.size w)
  have H : (if a0.toList = ([] : List UInt8) then (some false) else (if (a0.size : Int) > 16 then (some false) else (if 0 < (a0.size : Int) then (if (bt a0 0) < 97 then (some false) else (if (bt a0 0) > 122 then (some false) else ((strings_Trim.f a0 (⟨#[97, 98, 99, 100, 101, 102, 103, 104, 105, 106, 107, 108, 109, 110, 111, 112, 113, 114, 115, 116, 117, 118, 119, 120, 121, 122, 48, 49, 50, 51, 52, 53, 54, 55, 56, 57, 45]⟩ : ByteArray)).bind fun t116 => (some (t116.toList == ([] : List UInt8)))))) else (none)))) = some r := h
  clear h
  by_cases c2 : a0.toList = ([] : List UInt8)
  · rw [if_pos c2] at H
    have c2b0 : (a0.toList == ([] : List UInt8)) = true := beq_iff_eq.mpr c2
    have c2b1 : (a0.toList != ([] : List UInt8)) = false := bne_eq_false_iff_eq.mpr c2
    clear c2
    obtain rfl := Option.some.inj H
    go_enter Tryz.func20, Tryz.ntmps20
    go_wp2
    go_ret
    exact ⟨by first | rfl | (simp [errW_none, errW_some] <;> rfl) | (simp [*, errW_none, errW_some] <;> rfl), by repeat (first | (with_reducible first | exact HB.out | apply wA | apply wN | apply wD) | exact HB.out)⟩
  · rw [if_neg c2] at H
    have c2b0 : (a0.toList == ([] : List UInt8)) = false := beq_eq_false_iff_ne.mpr c2
    have c2b1 : (a0.toList != ([] : List UInt8)) = true := bne_iff_ne.mpr c2
    by_cases c3 : (a0.size : Int) > 16
    · rw [if_pos c3] at H
      have c3b0 : decide (16 < (a0.size : Int)) = true := decide_eq_true c3
      have c3b1 : decide (16 < a0.size) = true := decide_eq_true (by omega)
      clear c3
      obtain rfl := Option.some.inj H
      go_enter Tryz.func20, Tryz.ntmps20
      go_wp2
      go_ret
      exact ⟨by first | rfl | (simp [errW_none, errW_some] <;> rfl) | (simp [*, errW_none, errW_some] <;> rfl), by repeat (first | (with_reducible first | exact HB.out | apply wA | apply wN | apply wD) | exact HB.out)⟩
    · rw [if_neg c3] at H
      have c3b0 : decide (16 < (a0.size : Int)) = false := decide_eq_false c3
      have c3b1 : decide (16 < a0.size) = false := decide_eq_false (by omega)
      clear c3
      by_cases c4 : 0 < (a0.size : Int)
      · rw [if_pos c4] at H
        have c4b0 : decide (0 < (a0.size : Int)) = true := decide_eq_true c4
        have c4b1 : decide (0 < a0.size) = true := decide_eq_true (by omega)
        clear c4
        by_cases c6 : (bt a0 0) < 97
        · rw [if_pos c6] at H
          have c6b0 : decide ((bt a0 0) < 97) = true := decide_eq_true c6
          clear c6
          obtain rfl := Option.some.inj H
          have p5 : 0 ≤ (0 : Int) := (by omega)
          have q5 : 0 < a0.size := (by have : (0 : Int) < (a0.size : Int) := of_decide_eq_true (by first | (with_reducible assumption) | assumption); omega)
          have hx5 : ∀ h : 0 < a0.size, ((a0[0]'h).toNat : Int) = bt a0 0 := bt_at a0 0
          clear p5
          have qi5 : (0 < (a0.size : Int)) = True := eq_true (of_decide_eq_true (by first | (with_reducible assumption) | assumption))
          replace q5 := eq_true q5
          go_enter Tryz.func20, Tryz.ntmps20
          go_wp2
          go_ret
          exact ⟨by first | rfl | (simp [errW_none, errW_some] <;> rfl) | (simp [*, errW_none, errW_some] <;> rfl), by repeat (first | (with_reducible first | exact HB.out | apply wA | apply wN | apply wD) | exact HB.out)⟩
        · rw [if_neg c6] at H
          have c6b0 : decide ((bt a0 0) < 97) = false := decide_eq_false c6
          clear c6
          by_cases c8 : (bt a0 0) > 122
          · rw [if_pos c8] at H
            have c8b0 : decide (122 < (bt a0 0)) = true := decide_eq_true c8
            clear c8
            obtain rfl := Option.some.inj H
            have p5 : 0 ≤ (0 : Int) := (by omega)
            have q5 : 0 < a0.size := (by have : (0 : Int) < (a0.size : Int) := of_decide_eq_true (by first | (with_reducible assumption) | assumption); omega)
            have hx5 : ∀ h : 0 < a0.size, ((a0[0]'h).toNat : Int) = bt a0 0 := bt_at a0 0
            clear p5
            have qi5 : (0 < (a0.size : Int)) = True := eq_true (of_decide_eq_true (by first | (with_reducible assumption) | assumption))
            replace q5 := eq_true q5
            have p7 : 0 ≤ (0 : Int) := (by omega)
            have q7 : 0 < a0.size := (by have : (0 : Int) < (a0.size : Int) := of_decide_eq_true (by first | (with_reducible assumption) | assumption); omega)
            have hx7 : ∀ h : 0 < a0.size, ((a0[0]'h).toNat : Int) = bt a0 0 := bt_at a0 0
            clear p7
            have qi7 : (0 < (a0.size : Int)) = True := eq_true (of_decide_eq_true (by first | (with_reducible assumption) | assumption))
            replace q7 := eq_true q7
            go_enter Tryz.func20, Tryz.ntmps20
            go_wp2
            go_ret
            exact ⟨by first | rfl | (simp [errW_none, errW_some] <;> rfl) | (simp [*, errW_none, errW_some] <;> rfl), by repeat (first | (with_reducible first | exact HB.out | apply wA | apply wN | apply wD) | exact HB.out)⟩
          · rw [if_neg c8] at H
            have c8b0 : decide (122 < (bt a0 0)) = false := decide_eq_false c8
            clear c8
            replace H := Option.bind_eq_some_iff.mp H
            obtain ⟨t116, A90, H⟩ := H
            replace H : (some (t116.toList == ([] : List UInt8))) = some r := H
            have A9 := ak A90
            clear A90
            obtain rfl := Option.some.inj H
            have p5 : 0 ≤ (0 : Int) := (by omega)
            have q5 : 0 < a0.size := (by have : (0 : Int) < (a0.size : Int) := of_decide_eq_true (by first | (with_reducible assumption) | assumption); omega)
            have hx5 : ∀ h : 0 < a0.size, ((a0[0]'h).toNat : Int) = bt a0 0 := bt_at a0 0
            clear p5
            have qi5 : (0 < (a0.size : Int)) = True := eq_true (of_decide_eq_true (by first | (with_reducible assumption) | assumption))
            replace q5 := eq_true q5
            have p7 : 0 ≤ (0 : Int) := (by omega)
            have q7 : 0 < a0.size := (by have : (0 : Int) < (a0.size : Int) := of_decide_eq_true (by first | (with_reducible assumption) | assumption); omega)
            have hx7 : ∀ h : 0 < a0.size, ((a0[0]'h).toNat : Int) = bt a0 0 := bt_at a0 0
            clear p7
            have qi7 : (0 < (a0.size : Int)) = True := eq_true (of_decide_eq_true (by first | (with_reducible assumption) | assumption))
            replace q7 := eq_true q7
            go_enter Tryz.func20, Tryz.ntmps20
            go_wp2_with (first | ((with_reducible refine gate_callee (f := 46) rfl ?_); refine goesL_ (some 21) rfl rfl Tryz.func46 (by kernel_rfl) rfl #[.string a0, .string (⟨#[97, 98, 99, 100, 101, 102, 103, 104, 105, 106, 107, 108, 109, 110, 111, 112, 113, 114, 115, 116, 117, 118, 119, 120, 121, 122, 48, 49, 50, 51, 52, 53, 54, 55, 56, 57, 45]⟩ : ByteArray)] rfl (by (try simp only [List.map_toArray, List.map_cons, List.map_nil]); first | done | rfl | (simp only [List.length_drop, List.length_take]; rfl)) ?_; (with_reducible refine (strings_Trim.calls a0 (⟨#[97, 98, 99, 100, 101, 102, 103, 104, 105, 106, 107, 108, 109, 110, 111, 112, 113, 114, 115, 116, 117, 118, 119, 120, 121, 122, 48, 49, 50, 51, 52, 53, 54, 55, 56, 57, 45]⟩ : ByteArray) t116 _ A9.out).mono ?_); rintro e w10 ⟨rfl, hb⟩; refine ⟨_, rfl, ?_⟩; have n0_ := ak (below_step (by repeat (first | (with_reducible first | exact HB.out | apply wA | apply wN | apply wD) | exact HB.out)) hb); clear HB; have HB := n0_; clear n0_; (try clear hb); (try clear hb2); (try clear hk); (try clear hi)))
            go_ret
            exact ⟨by first | rfl | (simp [errW_none, errW_some] <;> rfl) | (simp [*, errW_none, errW_some] <;> rfl), by repeat (first | (with_reducible first | exact HB.out | apply wA | apply wN | apply wD) | exact HB.out)⟩
      · rw [if_neg c4] at H
        exact absurd H (by simp)
end Go.Proofs.YtciaocdpojnmcaaGreatDoor.P
namespace Go.Proofs.YtciaocdpojnmcaaGreatDoor.P
open Go.RowKit Go.Proofs.YtciaocdpojnmcaaGreatDoorW.PrintWords Go.Proofs.YtciaocdpojnmcaaGreatDoorW.PrintLast Go.Proofs.YtciaocdpojnmcaaGreatDoorW.PrintMore
attribute [local go_sem] max2_int min2_int max_two min_two max_three min_three max_four min_four   -- for this text's walks alone
set_option linter.unusedVariables false
set_option linter.unusedSimpArgs false
theorem eqA47 (d : Nat) (w : World) (x0 y0 : ByteArray) (x1 y1 : Bool) :
    (Op.equalIn (d + 2) 47 (.agg #[.string x0, .bool x1]) (.agg #[.string y0, .bool y1])).run Tryz.prog w = .ok (x0.toList == y0.toList && (x1 == y1)) w := by
  refine eqA_of Tryz.underlying47 (by kernel_rfl) ?_
  refine eqf_cons (by rfl) (by go_simp; rfl) (by go_simp; rfl) (by go_simp) ?_
  exact eqf_last (by rfl) (by go_simp; rfl) (by go_simp; rfl) (by go_simp)
end Go.Proofs.YtciaocdpojnmcaaGreatDoor.P
namespace Go.Proofs.YtciaocdpojnmcaaGreatDoor.P
open Go.RowKit Go.Proofs.YtciaocdpojnmcaaGreatDoorW.PrintWords Go.Proofs.YtciaocdpojnmcaaGreatDoorW.PrintLast Go.Proofs.YtciaocdpojnmcaaGreatDoorW.PrintMore
attribute [local go_sem] max2_int min2_int max_two min_two max_three min_three max_four min_four   -- for this text's walks alone
set_option linter.unusedVariables false
set_option linter.unusedSimpArgs false
attribute [local go_sem high] eqA47
def mummerref01_Same.l0 : Nat → List (S47) → List (S47) → Int → Option (Bool)
  | 0, _, _, _ => none
  | k + 1, x0, x1, x5 => if x5 < (x0.length : Int) then (if 0 ≤ x5 then (if x5 < (x1.length : Int) then (if (!((((rd_T47 x0 x5).f0).toList) == (((rd_T47 x1 x5).f0).toList)) || (!(((rd_T47 x0 x5).f1) == ((rd_T47 x1 x5).f1)))) = true then (some false) else (mummerref01_Same.l0 k x0 x1 (wrap64 (x5 + 1)))) else (none)) else (none)) else (some true)
def mummerref01_Same.f (k : Nat) (l0 : List (S47)) (l1 : List (S47)) : Option (Bool) := if (l0.length : Int) = (l1.length : Int) then (mummerref01_Same.l0 k l0 l1 0) else (some false)
set_option maxHeartbeats 8000000 in
set_option maxRecDepth 100000 in
theorem mummerref01_Same.calls (k : Nat) (A0 : Option Addr) (c0 : Nat) (l0 : List (S47)) (A1 : Option Addr) (c1 : Nat) (l1 : List (S47)) (r : Bool) (w : World) (hr0 : Kd.C k47 w A0 l0.length l0) (hc0 : l0.length ≤ c0) (hr1 : Kd.C k47 w A1 l1.length l1) (hc1 : l1.length ≤ c1) (h : mummerref01_Same.f k l0 l1 = some r) :
    Calls Tryz.prog 10 #[.slice A0 l0.length c0, .slice A1 l1.length c1] w fun e w' => e = .returned (.bool r) ∧ Drawn0 w w' := by
  have hu47 := Tryz.underlying47
  have HR0 := ak hr0
  have HC0 := ak hc0
  clear hr0 hc0
  have HR1 := ak hr1
  have HC1 := ak hc1
  clear hr1 hc1
  have H : (if (l0.length : Int) = (l1.length : Int) then (mummerref01_Same.l0 k l0 l1 0) else (some false)) = some r := h
  clear h
  by_cases c3 : (l0.length : Int) = (l1.length : Int)
  · rw [if_pos c3] at H
    have c3b0 : ((l0.length : Int) == (l1.length : Int)) = true := beq_iff_eq.mpr c3
    have c3b1 : ((l0.length : Int) != (l1.length : Int)) = false := bne_eq_false_iff_eq.mpr c3
    have c3b2 : (l0.length == l1.length) = true := by first | simpa using c3 | (simp at c3 ⊢; omega)
    clear c3
    have H' := ak H
    clear H
    go_enter Tryz.func10, Tryz.ntmps10
    go_wp2
    repeat (go_quiet (fail); try go_wp2)
    go_loopg [5] k (fun kq v5 w' => ∃ (x5_1 : Int), v5 = .int .i64 x5_1 ∧ Aside0 (mummerref01_Same.l0 kq l0 l1 x5_1 = some r) ∧ Aside0 (kq ≤ k) ∧ Drawn0 w w')
    case atStart => exact ⟨(0), (by first | rfl | (simp; done) | (simp [*]; done)), H', ⟨Nat.le_refl _⟩, by repeat (first | exact Drawn0.refl _ | apply Drawn0.step)⟩
    case round =>
      clear H'
      try clear c1
      try clear p2
      try clear c3
      try clear c3b0
      try clear c3b1
      try clear c3b2
      obtain ⟨x5_1, rfl, HA, HK1, ⟨m1, rfl⟩⟩ := hrel
      cases gk with
      | zero => exact absurd HA.out (by simp [mummerref01_Same.l0])
      | succ k1 =>
        have H := HA.out
        clear HA
        simp only [mummerref01_Same.l0] at H
        by_cases c4 : x5_1 < (l0.length : Int)
        · rw [if_pos c4] at H
          have c4b0 : decide (x5_1 < (l0.length : Int)) = true := decide_eq_true c4
          clear c4
          by_cases c5 : 0 ≤ x5_1
          · rw [if_pos c5] at H
            have c5b0 : decide (0 ≤ x5_1) = true := decide_eq_true c5
            clear c5
            by_cases c6 : x5_1 < (l1.length : Int)
            · rw [if_pos c6] at H
              have c6b0 : decide (x5_1 < (l1.length : Int)) = true := decide_eq_true c6
              clear c6
              by_cases c7 : (!((((rd_T47 l0 x5_1).f0).toList) == (((rd_T47 l1 x5_1).f0).toList)) || (!(((rd_T47 l0 x5_1).f1) == ((rd_T47 l1 x5_1).f1)))) = true
              · rw [if_pos c7] at H
                have c7b0 : (!((((rd_T47 l0 x5_1).f0).toList) == (((rd_T47 l1 x5_1).f0).toList)) || (!(((rd_T47 l0 x5_1).f1) == ((rd_T47 l1 x5_1).f1)))) = true := c7
                clear c7
                obtain rfl := Option.some.inj H
                have p101 : 0 ≤ (x5_1 : Int) := of_decide_eq_true (by first | (with_reducible assumption) | assumption)
                have q101 : x5_1 < (l0.length : Int) := of_decide_eq_true (by first | (with_reducible assumption) | assumption)
                obtain ⟨ad101, e101, hx101_0, hx101_1⟩ := at_T47 HR0.out x5_1 p101 q101
                cases e101
                replace p101 := eq_true p101
                replace q101 := eq_true q101
                have p102 : 0 ≤ (x5_1 : Int) := of_decide_eq_true (by first | (with_reducible assumption) | assumption)
                have q102 : x5_1 < (l1.length : Int) := of_decide_eq_true (by first | (with_reducible assumption) | assumption)
                obtain ⟨ad102, e102, hx102_0, hx102_1⟩ := at_T47 HR1.out x5_1 p102 q102
                cases e102
                replace p102 := eq_true p102
                replace q102 := eq_true q102
                go_wp2
                repeat (go_quiet (fail); try go_wp2)
                go_ret
                exact ⟨by first | rfl | (simp; done) | (simp [*]; done), by repeat (first | exact Drawn0.refl _ | apply Drawn0.step)⟩
              · rw [if_neg c7] at H
                have c7b0 : (!((((rd_T47 l0 x5_1).f0).toList) == (((rd_T47 l1 x5_1).f0).toList)) || (!(((rd_T47 l0 x5_1).f1) == ((rd_T47 l1 x5_1).f1)))) = false := by simpa using c7
                clear c7
                have H' := ak H
                clear H
                have p101 : 0 ≤ (x5_1 : Int) := of_decide_eq_true (by first | (with_reducible assumption) | assumption)
                have q101 : x5_1 < (l0.length : Int) := of_decide_eq_true (by first | (with_reducible assumption) | assumption)
                obtain ⟨ad101, e101, hx101_0, hx101_1⟩ := at_T47 HR0.out x5_1 p101 q101
                cases e101
                replace p101 := eq_true p101
                replace q101 := eq_true q101
                have p102 : 0 ≤ (x5_1 : Int) := of_decide_eq_true (by first | (with_reducible assumption) | assumption)
                have q102 : x5_1 < (l1.length : Int) := of_decide_eq_true (by first | (with_reducible assumption) | assumption)
                obtain ⟨ad102, e102, hx102_0, hx102_1⟩ := at_T47 HR1.out x5_1 p102 q102
                cases e102
                replace p102 := eq_true p102
                replace q102 := eq_true q102
                go_wp2
                repeat (go_quiet (fail); try go_wp2)
                go_roundg k1
                case measure => have := HK1.out; omega
                case rel => exact ⟨(wrap64 (x5_1 + 1)), (by first | rfl | (simp; done) | (simp [*]; done)), H', ⟨by have := HK1.out; omega⟩, by repeat (first | exact Drawn0.refl _ | apply Drawn0.step)⟩
            · rw [if_neg c6] at H
              exact absurd H (by simp)
          · rw [if_neg c5] at H
            exact absurd H (by simp)
        · rw [if_neg c4] at H
          have c4b0 : decide (x5_1 < (l0.length : Int)) = false := decide_eq_false c4
          clear c4
          obtain rfl := Option.some.inj H
          go_wp2
          repeat (go_quiet (fail); try go_wp2)
          go_ret
          exact ⟨by first | rfl | (simp; done) | (simp [*]; done), by repeat (first | exact Drawn0.refl _ | apply Drawn0.step)⟩
  · rw [if_neg c3] at H
    have c3b0 : ((l0.length : Int) == (l1.length : Int)) = false := beq_eq_false_iff_ne.mpr c3
    have c3b1 : ((l0.length : Int) != (l1.length : Int)) = true := bne_iff_ne.mpr c3
    have c3b2 : (l0.length == l1.length) = false := by first | simpa using c3 | (simp at c3 ⊢; omega)
    obtain rfl := Option.some.inj H
    go_enter Tryz.func10, Tryz.ntmps10
    go_wp2
    repeat (go_quiet (fail); try go_wp2)
    go_ret
    exact ⟨by first | rfl | (simp; done) | (simp [*]; done), by repeat (first | exact Drawn0.refl _ | apply Drawn0.step)⟩
end Go.Proofs.YtciaocdpojnmcaaGreatDoor.P
namespace Go.Proofs.YtciaocdpojnmcaaGreatDoor.P
open Go.RowKit Go.Proofs.YtciaocdpojnmcaaGreatDoorW.PrintWords Go.Proofs.YtciaocdpojnmcaaGreatDoorW.PrintLast Go.Proofs.YtciaocdpojnmcaaGreatDoorW.PrintMore
attribute [local go_sem] max2_int min2_int max_two min_two max_three min_three max_four min_four   -- for this text's walks alone
set_option linter.unusedVariables false
set_option linter.unusedSimpArgs false
def mummerlaw01_shown.f (k : Nat)  : Option (Bool) := (words_Split.f (⟨#[103, 101, 116, 32, 47, 32, 34, 97, 32, 98, 34]⟩ : ByteArray)).bind fun bt117 => ((words_Int.f (⟨#[45, 49, 50]⟩ : ByteArray) (-20) 20).bind fun bt121 => ((words_List.f (([1, 2, 3, 5, 8, 9] : List Int))).bind fun bt126 => ((words_Unquote.f k (⟨#[34, 97, 92, 110, 92, 120, 48, 48, 92, 34, 34]⟩ : ByteArray)).bind fun bt128 => ((mummerref01_Same.f k bt117.1 (([(⟨(⟨#[103, 101, 116]⟩ : ByteArray), false⟩ : S47), (⟨(⟨#[47]⟩ : ByteArray), false⟩ : S47), (⟨(⟨#[97, 32, 98]⟩ : ByteArray), true⟩ : S47)] : List (S47)))).bind fun t133 => (if t133 = true then (if bt121.1 = (-12) then (if bt126.1.toList = ([49, 45, 51, 44, 53, 44, 56, 45, 57] : List UInt8) then (if bt128.1.toList = ([97, 10, 0, 34] : List UInt8) then ((words_Name.f (⟨#[119, 101, 98, 45, 49]⟩ : ByteArray)).bind fun t134 => (if t134 = true then (if bt117.2 = 0 then (if bt121.2 = 0 then (if bt126.2 = 0 then (some (bt128.2 == 0)) else (some false)) else (some false)) else (some false)) else (some false))) else (some false)) else (some false)) else (some false)) else (some false))))))
set_option maxHeartbeats 8000000 in
set_option maxRecDepth 100000 in
theorem mummerlaw01_shown.calls (k : Nat)  (r : Bool) (w : World) (hrt : Aside0 (r = true)) (h : mummerlaw01_shown.f k  = some r) (HT : Aside0 (Wd.All w)) :
    Calls Tryz.prog 7 #[] w fun e w' => e = .returned (.bool r) ∧ Below w.heap.size w w' := by
  have hu47 := Tryz.underlying47
  have HB := ak (Below.refl w.heap.size w)
  have H : ((words_Split.f (⟨#[103, 101, 116, 32, 47, 32, 34, 97, 32, 98, 34]⟩ : ByteArray)).bind fun bt117 => ((words_Int.f (⟨#[45, 49, 50]⟩ : ByteArray) (-20) 20).bind fun bt121 => ((words_List.f (([1, 2, 3, 5, 8, 9] : List Int))).bind fun bt126 => ((words_Unquote.f k (⟨#[34, 97, 92, 110, 92, 120, 48, 48, 92, 34, 34]⟩ : ByteArray)).bind fun bt128 => ((mummerref01_Same.f k bt117.1 (([(⟨(⟨#[103, 101, 116]⟩ : ByteArray), false⟩ : S47), (⟨(⟨#[47]⟩ : ByteArray), false⟩ : S47), (⟨(⟨#[97, 32, 98]⟩ : ByteArray), true⟩ : S47)] : List (S47)))).bind fun t133 => (if t133 = true then (if bt121.1 = (-12) then (if bt126.1.toList = ([49, 45, 51, 44, 53, 44, 56, 45, 57] : List UInt8) then (if bt128.1.toList = ([97, 10, 0, 34] : List UInt8) then ((words_Name.f (⟨#[119, 101, 98, 45, 49]⟩ : ByteArray)).bind fun t134 => (if t134 = true then (if bt117.2 = 0 then (if bt121.2 = 0 then (if bt126.2 = 0 then (some (bt128.2 == 0)) else (some false)) else (some false)) else (some false)) else (some false))) else (some false)) else (some false)) else (some false)) else (some false))))))) = some r := h
  clear h
  replace H := Option.bind_eq_some_iff.mp H
  obtain ⟨⟨t117, t118⟩, A10, H⟩ := H
  replace H : ((words_Int.f (⟨#[45, 49, 50]⟩ : ByteArray) (-20) 20).bind fun bt121 => ((words_List.f (([1, 2, 3, 5, 8, 9] : List Int))).bind fun bt126 => ((words_Unquote.f k (⟨#[34, 97, 92, 110, 92, 120, 48, 48, 92, 34, 34]⟩ : ByteArray)).bind fun bt128 => ((mummerref01_Same.f k t117 (([(⟨(⟨#[103, 101, 116]⟩ : ByteArray), false⟩ : S47), (⟨(⟨#[47]⟩ : ByteArray), false⟩ : S47), (⟨(⟨#[97, 32, 98]⟩ : ByteArray), true⟩ : S47)] : List (S47)))).bind fun t133 => (if t133 = true then (if bt121.1 = (-12) then (if bt126.1.toList = ([49, 45, 51, 44, 53, 44, 56, 45, 57] : List UInt8) then (if bt128.1.toList = ([97, 10, 0, 34] : List UInt8) then ((words_Name.f (⟨#[119, 101, 98, 45, 49]⟩ : ByteArray)).bind fun t134 => (if t134 = true then (if t118 = 0 then (if bt121.2 = 0 then (if bt126.2 = 0 then (some (bt128.2 == 0)) else (some false)) else (some false)) else (some false)) else (some false))) else (some false)) else (some false)) else (some false)) else (some false)))))) = some r := H
  have A1 := ak A10
  clear A10
  replace H := Option.bind_eq_some_iff.mp H
  obtain ⟨⟨t121, t122⟩, A20, H⟩ := H
  replace H : ((words_List.f (([1, 2, 3, 5, 8, 9] : List Int))).bind fun bt126 => ((words_Unquote.f k (⟨#[34, 97, 92, 110, 92, 120, 48, 48, 92, 34, 34]⟩ : ByteArray)).bind fun bt128 => ((mummerref01_Same.f k t117 (([(⟨(⟨#[103, 101, 116]⟩ : ByteArray), false⟩ : S47), (⟨(⟨#[47]⟩ : ByteArray), false⟩ : S47), (⟨(⟨#[97, 32, 98]⟩ : ByteArray), true⟩ : S47)] : List (S47)))).bind fun t133 => (if t133 = true then (if t121 = (-12) then (if bt126.1.toList = ([49, 45, 51, 44, 53, 44, 56, 45, 57] : List UInt8) then (if bt128.1.toList = ([97, 10, 0, 34] : List UInt8) then ((words_Name.f (⟨#[119, 101, 98, 45, 49]⟩ : ByteArray)).bind fun t134 => (if t134 = true then (if t118 = 0 then (if t122 = 0 then (if bt126.2 = 0 then (some (bt128.2 == 0)) else (some false)) else (some false)) else (some false)) else (some false))) else (some false)) else (some false)) else (some false)) else (some false))))) = some r := H
  have A2 := ak A20
  clear A20
  obtain ⟨y123, hy123⟩ : ∃ y_ : List Int, y_ = (([1, 2, 3, 5, 8, 9] : List Int)) := ⟨_, rfl⟩
  replace H : ((words_List.f y123).bind fun bt126 => ((words_Unquote.f k (⟨#[34, 97, 92, 110, 92, 120, 48, 48, 92, 34, 34]⟩ : ByteArray)).bind fun bt128 => ((mummerref01_Same.f k t117 (([(⟨(⟨#[103, 101, 116]⟩ : ByteArray), false⟩ : S47), (⟨(⟨#[47]⟩ : ByteArray), false⟩ : S47), (⟨(⟨#[97, 32, 98]⟩ : ByteArray), true⟩ : S47)] : List (S47)))).bind fun t133 => (if t133 = true then (if t121 = (-12) then (if bt126.1.toList = ([49, 45, 51, 44, 53, 44, 56, 45, 57] : List UInt8) then (if bt128.1.toList = ([97, 10, 0, 34] : List UInt8) then ((words_Name.f (⟨#[119, 101, 98, 45, 49]⟩ : ByteArray)).bind fun t134 => (if t134 = true then (if t118 = 0 then (if t122 = 0 then (if bt126.2 = 0 then (some (bt128.2 == 0)) else (some false)) else (some false)) else (some false)) else (some false))) else (some false)) else (some false)) else (some false)) else (some false))))) = some r := by first | (rw [hy123]; with_reducible exact H) | (have H2_ := (Option.bind_some _ _).symm.trans H; rw [hy123]; with_reducible exact H2_) | (have H2_ := (Option.bind_some _ _).symm.trans H; with_reducible exact H2_) | with_reducible exact H | (rw [hy123]; exact H) | exact H
  have Ny123 := ak hy123
  clear hy123
  replace H := Option.bind_eq_some_iff.mp H
  obtain ⟨⟨t126, t127⟩, A30, H⟩ := H
  replace H : ((words_Unquote.f k (⟨#[34, 97, 92, 110, 92, 120, 48, 48, 92, 34, 34]⟩ : ByteArray)).bind fun bt128 => ((mummerref01_Same.f k t117 (([(⟨(⟨#[103, 101, 116]⟩ : ByteArray), false⟩ : S47), (⟨(⟨#[47]⟩ : ByteArray), false⟩ : S47), (⟨(⟨#[97, 32, 98]⟩ : ByteArray), true⟩ : S47)] : List (S47)))).bind fun t133 => (if t133 = true then (if t121 = (-12) then (if t126.toList = ([49, 45, 51, 44, 53, 44, 56, 45, 57] : List UInt8) then (if bt128.1.toList = ([97, 10, 0, 34] : List UInt8) then ((words_Name.f (⟨#[119, 101, 98, 45, 49]⟩ : ByteArray)).bind fun t134 => (if t134 = true then (if t118 = 0 then (if t122 = 0 then (if t127 = 0 then (some (bt128.2 == 0)) else (some false)) else (some false)) else (some false)) else (some false))) else (some false)) else (some false)) else (some false)) else (some false)))) = some r := H
  have A3 := ak A30
  clear A30
  replace H := Option.bind_eq_some_iff.mp H
  obtain ⟨⟨t128, t129⟩, A40, H⟩ := H
  replace H : ((mummerref01_Same.f k t117 (([(⟨(⟨#[103, 101, 116]⟩ : ByteArray), false⟩ : S47), (⟨(⟨#[47]⟩ : ByteArray), false⟩ : S47), (⟨(⟨#[97, 32, 98]⟩ : ByteArray), true⟩ : S47)] : List (S47)))).bind fun t133 => (if t133 = true then (if t121 = (-12) then (if t126.toList = ([49, 45, 51, 44, 53, 44, 56, 45, 57] : List UInt8) then (if t128.toList = ([97, 10, 0, 34] : List UInt8) then ((words_Name.f (⟨#[119, 101, 98, 45, 49]⟩ : ByteArray)).bind fun t134 => (if t134 = true then (if t118 = 0 then (if t122 = 0 then (if t127 = 0 then (some (t129 == 0)) else (some false)) else (some false)) else (some false)) else (some false))) else (some false)) else (some false)) else (some false)) else (some false))) = some r := H
  have A4 := ak A40
  clear A40
  obtain ⟨y130, hy130⟩ : ∃ y_ : List (S47), y_ = (([(⟨(⟨#[103, 101, 116]⟩ : ByteArray), false⟩ : S47), (⟨(⟨#[47]⟩ : ByteArray), false⟩ : S47), (⟨(⟨#[97, 32, 98]⟩ : ByteArray), true⟩ : S47)] : List (S47))) := ⟨_, rfl⟩
  replace H : ((mummerref01_Same.f k t117 y130).bind fun t133 => (if t133 = true then (if t121 = (-12) then (if t126.toList = ([49, 45, 51, 44, 53, 44, 56, 45, 57] : List UInt8) then (if t128.toList = ([97, 10, 0, 34] : List UInt8) then ((words_Name.f (⟨#[119, 101, 98, 45, 49]⟩ : ByteArray)).bind fun t134 => (if t134 = true then (if t118 = 0 then (if t122 = 0 then (if t127 = 0 then (some (t129 == 0)) else (some false)) else (some false)) else (some false)) else (some false))) else (some false)) else (some false)) else (some false)) else (some false))) = some r := by first | (rw [hy130]; with_reducible exact H) | (have H2_ := (Option.bind_some _ _).symm.trans H; rw [hy130]; with_reducible exact H2_) | (have H2_ := (Option.bind_some _ _).symm.trans H; with_reducible exact H2_) | with_reducible exact H | (rw [hy130]; exact H) | exact H
  have Ny130 := ak hy130
  clear hy130
  replace H := Option.bind_eq_some_iff.mp H
  obtain ⟨t133, A50, H⟩ := H
  replace H : (if t133 = true then (if t121 = (-12) then (if t126.toList = ([49, 45, 51, 44, 53, 44, 56, 45, 57] : List UInt8) then (if t128.toList = ([97, 10, 0, 34] : List UInt8) then ((words_Name.f (⟨#[119, 101, 98, 45, 49]⟩ : ByteArray)).bind fun t134 => (if t134 = true then (if t118 = 0 then (if t122 = 0 then (if t127 = 0 then (some (t129 == 0)) else (some false)) else (some false)) else (some false)) else (some false))) else (some false)) else (some false)) else (some false)) else (some false)) = some r := H
  have A5 := ak A50
  clear A50
  by_cases c6 : t133 = true
  · subst c6
    have H1 : (if t121 = (-12) then (if t126.toList = ([49, 45, 51, 44, 53, 44, 56, 45, 57] : List UInt8) then (if t128.toList = ([97, 10, 0, 34] : List UInt8) then ((words_Name.f (⟨#[119, 101, 98, 45, 49]⟩ : ByteArray)).bind fun t134 => (if t134 = true then (if t118 = 0 then (if t122 = 0 then (if t127 = 0 then (some (t129 == 0)) else (some false)) else (some false)) else (some false)) else (some false))) else (some false)) else (some false)) else (some false)) = some r := by rw [if_pos rfl] at H; exact H
    clear H
    have H := H1
    clear H1
    by_cases c7 : t121 = (-12)
    · rw [if_pos c7] at H
      have c7b0 : (t121 == (-12)) = true := beq_iff_eq.mpr c7
      have c7b1 : (t121 != (-12)) = false := bne_eq_false_iff_eq.mpr c7
      clear c7
      by_cases c8 : t126.toList = ([49, 45, 51, 44, 53, 44, 56, 45, 57] : List UInt8)
      · rw [if_pos c8] at H
        have c8b0 : (t126.toList == ([49, 45, 51, 44, 53, 44, 56, 45, 57] : List UInt8)) = true := beq_iff_eq.mpr c8
        have c8b1 : (t126.toList != ([49, 45, 51, 44, 53, 44, 56, 45, 57] : List UInt8)) = false := bne_eq_false_iff_eq.mpr c8
        clear c8
        by_cases c9 : t128.toList = ([97, 10, 0, 34] : List UInt8)
        · rw [if_pos c9] at H
          have c9b0 : (t128.toList == ([97, 10, 0, 34] : List UInt8)) = true := beq_iff_eq.mpr c9
          have c9b1 : (t128.toList != ([97, 10, 0, 34] : List UInt8)) = false := bne_eq_false_iff_eq.mpr c9
          clear c9
          replace H := Option.bind_eq_some_iff.mp H
          obtain ⟨t134, A100, H⟩ := H
          replace H : (if t134 = true then (if t118 = 0 then (if t122 = 0 then (if t127 = 0 then (some (t129 == 0)) else (some false)) else (some false)) else (some false)) else (some false)) = some r := H
          have A10 := ak A100
          clear A100
          by_cases c11 : t134 = true
          · subst c11
            have H1 : (if t118 = 0 then (if t122 = 0 then (if t127 = 0 then (some (t129 == 0)) else (some false)) else (some false)) else (some false)) = some r := by rw [if_pos rfl] at H; exact H
            clear H
            have H := H1
            clear H1
            by_cases c12 : t118 = 0
            · rw [if_pos c12] at H
              have c12b0 : (t118 == 0) = true := beq_iff_eq.mpr c12
              have c12b1 : (t118 != 0) = false := bne_eq_false_iff_eq.mpr c12
              clear c12
              by_cases c13 : t122 = 0
              · rw [if_pos c13] at H
                have c13b0 : (t122 == 0) = true := beq_iff_eq.mpr c13
                have c13b1 : (t122 != 0) = false := bne_eq_false_iff_eq.mpr c13
                clear c13
                by_cases c14 : t127 = 0
                · rw [if_pos c14] at H
                  have c14b0 : (t127 == 0) = true := beq_iff_eq.mpr c14
                  have c14b1 : (t127 != 0) = false := bne_eq_false_iff_eq.mpr c14
                  clear c14
                  obtain rfl := Option.some.inj H
                  go_enter Tryz.func7, Tryz.ntmps7
                  go_wp2_with (first | ((with_reducible refine gate_callee (f := 8) rfl ?_); refine goesL_ (some 10) rfl rfl Tryz.func8 (by kernel_rfl) rfl #[.string (⟨#[103, 101, 116, 32, 47, 32, 34, 97, 32, 98, 34]⟩ : ByteArray)] rfl (by (try simp only [List.map_toArray, List.map_cons, List.map_nil]); first | done | rfl | (simp only [List.length_drop, List.length_take]; rfl)) ?_; (with_reducible refine (words_Split.calls (⟨#[103, 101, 116, 32, 47, 32, 34, 97, 32, 98, 34]⟩ : ByteArray) t117 t118 _ A1.out ⟨Wd.All.stay HT.out (by repeat (first | (with_reducible first | exact HB.out | apply wA | apply wN | apply wD) | exact HB.out | (refine below_set ?_ (by assumption)) | (refine below_set ?_ (Aside0.out (by assumption)))))⟩).mono ?_); rintro e w15 ⟨v119, rfl, ho0, hb⟩; refine ⟨_, rfl, ?_⟩; have n0_ := ak (Kd.R_lower ho0 (below_size (by repeat (first | (with_reducible first | exact HB.out | apply wA | apply wN | apply wD) | exact HB.out)))); have n1_ := ak (below_step (by repeat (first | (with_reducible first | exact HB.out | apply wA | apply wN | apply wD) | exact HB.out)) hb); clear HB; have HO120 := n0_; have HB := n1_; clear n0_ n1_; (try clear hb); (try clear hb2); (try clear hk); (try clear hi); (try clear ho0)) | ((with_reducible refine gate_callee (f := 16) rfl ?_); refine goesL_ (some 14) rfl rfl Tryz.func16 (by kernel_rfl) rfl #[.string (⟨#[45, 49, 50]⟩ : ByteArray), .int .i64 (-20), .int .i64 20] rfl (by (try simp only [List.map_toArray, List.map_cons, List.map_nil]); first | done | rfl | (simp only [List.length_drop, List.length_take]; rfl)) ?_; (with_reducible refine (words_Int.calls (⟨#[45, 49, 50]⟩ : ByteArray) (-20) 20 t121 t122 _ A2.out ⟨Wd.All.stay HT.out (by repeat (first | (with_reducible first | exact HB.out | apply wA | apply wN | apply wD) | exact HB.out | (refine below_set ?_ (by assumption)) | (refine below_set ?_ (Aside0.out (by assumption)))))⟩).mono ?_); rintro e w16 ⟨rfl, hb⟩; refine ⟨_, rfl, ?_⟩; have n0_ := ak (Kd.R_below (by (with_reducible repeat (first | apply Kd.R_alloc | apply Kd.R_drewN | apply Kd.R_drew)); exact HO120.out) hb); have n1_ := ak (below_step (by repeat (first | (with_reducible first | exact HB.out | apply wA | apply wN | apply wD) | exact HB.out)) hb); clear HO120; clear HB; have HO120 := n0_; have HB := n1_; clear n0_ n1_; (try clear hb); (try clear hb2); (try clear hk); (try clear hi)) | ((with_reducible refine gate_dst (N := 18) rfl ?_); refine Kd.R_lit (Kd.int .i64) _ 3 ?hg (N := 18) ?hd (xs := ([1, 2, 3, 5, 8, 9] : List Int)) (inner := [.int .i64 1, .int .i64 2, .int .i64 3, .int .i64 5, .int .i64 8, .int .i64 9]) (ok := fun _ => True) (okp := fun _ => True) ?hr ?hp (fun _ hk => hk) trivial (Below.refl _ _) (Nat.le_refl _) (by simp) ?_; (case hd => rfl); (case hg => rfl); (case hr => first | (go_simp; done) | (go_simp; rfl)); (case hp => exact (Reps.one (show Kd.M (Kd.int .i64) _ _ _ 1 [.int .i64 1] from rfl) (Reps.one (show Kd.M (Kd.int .i64) _ _ _ 2 [.int .i64 2] from rfl) (Reps.one (show Kd.M (Kd.int .i64) _ _ _ 3 [.int .i64 3] from rfl) (Reps.one (show Kd.M (Kd.int .i64) _ _ _ 5 [.int .i64 5] from rfl) (Reps.one (show Kd.M (Kd.int .i64) _ _ _ 8 [.int .i64 8] from rfl) (Reps.one (show Kd.M (Kd.int .i64) _ _ _ 9 [.int .i64 9] from rfl) (Reps.none _ _)))))))); intro v124 w17 ho18 hb hg_ hnew_; clear hg_ hnew_; (first | rw [← Ny123.out] at ho18 | (simp only [Int.reduceToNat] at ho18; rw [← Ny123.out] at ho18)); have n0_ := ak (Kd.R_below (by (with_reducible repeat (first | apply Kd.R_alloc | apply Kd.R_drewN | apply Kd.R_drew)); exact HO120.out) hb); have n1_ := ak (Kd.R_lower ho18 (below_size (by repeat (first | (with_reducible first | exact HB.out | apply wA | apply wN | apply wD) | exact HB.out)))); have n2_ := ak (below_step (by repeat (first | (with_reducible first | exact HB.out | apply wA | apply wN | apply wD) | exact HB.out)) hb); clear HO120; clear HB; have HO120 := n0_; have HO125 := n1_; have HB := n2_; clear n0_ n1_ n2_; clear hb ho18; obtain ⟨Ao19, co19, eo19⟩ := Kd.R_slice HO125.out; subst eo19) | ((with_reducible refine gate_callee (f := 13) rfl ?_); refine goesL_ (some 19) rfl rfl Tryz.func13 (by kernel_rfl) rfl #[.slice Ao19 y123.length co19] rfl (by (try simp only [List.map_toArray, List.map_cons, List.map_nil]); first | done | rfl | (simp only [List.length_drop, List.length_take]; rfl)) ?_; (with_reducible refine (words_List.calls _ _ y123 t126 t127 _ ?side1 ?side2 A3.out ⟨Wd.All.stay HT.out (by repeat (first | (with_reducible first | exact HB.out | apply wA | apply wN | apply wD) | exact HB.out | (refine below_set ?_ (by assumption)) | (refine below_set ?_ (Aside0.out (by assumption)))))⟩).mono ?_); (case side1 => repeat (first | exact (Kd.R_reads' HO125.out).2.2 | (with_reducible refine Kd.C_alloc ?_ _) | (with_reducible refine Kd.C_drewN ?_ _) | (with_reducible refine Kd.C_drew ?_))); (case side2 => exact (Kd.R_reads' HO125.out).2.1); rintro e w20 ⟨rfl, hb⟩; refine ⟨_, rfl, ?_⟩; have n0_ := ak (Kd.R_below (by (with_reducible repeat (first | apply Kd.R_alloc | apply Kd.R_drewN | apply Kd.R_drew)); exact HO120.out) hb); have n1_ := ak (Kd.R_below (by (with_reducible repeat (first | apply Kd.R_alloc | apply Kd.R_drewN | apply Kd.R_drew)); exact HO125.out) hb); have n2_ := ak (below_step (by repeat (first | (with_reducible first | exact HB.out | apply wA | apply wN | apply wD) | exact HB.out)) hb); clear HO120; clear HO125; clear HB; have HO120 := n0_; have HO125 := n1_; have HB := n2_; clear n0_ n1_ n2_; (try clear hb); (try clear hb2); (try clear hk); (try clear hi)) | ((with_reducible refine gate_callee (f := 11) rfl ?_); refine goesL_ (some 23) rfl rfl Tryz.func11 (by kernel_rfl) rfl #[.string (⟨#[34, 97, 92, 110, 92, 120, 48, 48, 92, 34, 34]⟩ : ByteArray)] rfl (by (try simp only [List.map_toArray, List.map_cons, List.map_nil]); first | done | rfl | (simp only [List.length_drop, List.length_take]; rfl)) ?_; (with_reducible refine (words_Unquote.calls k (⟨#[34, 97, 92, 110, 92, 120, 48, 48, 92, 34, 34]⟩ : ByteArray) t128 t129 _ A4.out ⟨Wd.All.stay HT.out (by repeat (first | (with_reducible first | exact HB.out | apply wA | apply wN | apply wD) | exact HB.out | (refine below_set ?_ (by assumption)) | (refine below_set ?_ (Aside0.out (by assumption)))))⟩).mono ?_); rintro e w21 ⟨rfl, hb⟩; refine ⟨_, rfl, ?_⟩; have n0_ := ak (Kd.R_below (by (with_reducible repeat (first | apply Kd.R_alloc | apply Kd.R_drewN | apply Kd.R_drew)); exact HO120.out) hb); have n1_ := ak (Kd.R_below (by (with_reducible repeat (first | apply Kd.R_alloc | apply Kd.R_drewN | apply Kd.R_drew)); exact HO125.out) hb); have n2_ := ak (below_step (by repeat (first | (with_reducible first | exact HB.out | apply wA | apply wN | apply wD) | exact HB.out)) hb); clear HO120; clear HO125; clear HB; have HO120 := n0_; have HO125 := n1_; have HB := n2_; clear n0_ n1_ n2_; (try clear hb); (try clear hb2); (try clear hk); (try clear hi)) | ((with_reducible refine gate_dst (N := 30) rfl ?_); refine Kd.R_lit k47 _ 47 ?hg (N := 30) ?hd (xs := ([(⟨(⟨#[103, 101, 116]⟩ : ByteArray), false⟩ : S47), (⟨(⟨#[47]⟩ : ByteArray), false⟩ : S47), (⟨(⟨#[97, 32, 98]⟩ : ByteArray), true⟩ : S47)] : List (S47))) (inner := [.string (⟨#[103, 101, 116]⟩ : ByteArray), .bool false, .string (⟨#[47]⟩ : ByteArray), .bool false, .string (⟨#[97, 32, 98]⟩ : ByteArray), .bool true]) (ok := fun _ => True) (okp := fun _ => True) ?hr ?hp (fun _ hk => hk) trivial (Below.refl _ _) (Nat.le_refl _) (by simp) ?_; (case hd => rfl); (case hg => rfl); (case hr => first | (go_simp; done) | (go_simp; rfl)); (case hp => exact (Reps.c2 (show Kd.M k47 _ _ _ (⟨(⟨#[103, 101, 116]⟩ : ByteArray), false⟩ : S47) [.string (⟨#[103, 101, 116]⟩ : ByteArray), .bool false] from (k47_mkM _ _ _ (⟨(⟨#[103, 101, 116]⟩ : ByteArray), false⟩ : S47) )) (Reps.c2 (show Kd.M k47 _ _ _ (⟨(⟨#[47]⟩ : ByteArray), false⟩ : S47) [.string (⟨#[47]⟩ : ByteArray), .bool false] from (k47_mkM _ _ _ (⟨(⟨#[47]⟩ : ByteArray), false⟩ : S47) )) (Reps.c2 (show Kd.M k47 _ _ _ (⟨(⟨#[97, 32, 98]⟩ : ByteArray), true⟩ : S47) [.string (⟨#[97, 32, 98]⟩ : ByteArray), .bool true] from (k47_mkM _ _ _ (⟨(⟨#[97, 32, 98]⟩ : ByteArray), true⟩ : S47) )) (Reps.none _ _))))); intro v131 w22 ho23 hb hg_ hnew_; clear hg_ hnew_; (first | rw [← Ny130.out] at ho23 | (simp only [Int.reduceToNat] at ho23; rw [← Ny130.out] at ho23)); have n0_ := ak (Kd.R_elder' (by (with_reducible repeat (first | apply Kd.R_alloc | apply Kd.R_drewN | apply Kd.R_drew)); exact HO120.out) (Kd.R_base ho23) hb); have n1_ := ak (Kd.R_below (by (with_reducible repeat (first | apply Kd.R_alloc | apply Kd.R_drewN | apply Kd.R_drew)); exact HO125.out) hb); have n2_ := ak (Kd.R_lower (Kd.R_new' ho23 (Kd.R_lt (by (with_reducible repeat (first | apply Kd.R_alloc | apply Kd.R_drewN | apply Kd.R_drew)); exact HO120.out))) (below_size (by repeat (first | (with_reducible first | exact HB.out | apply wA | apply wN | apply wD) | exact HB.out)))); have n3_ := ak (below_step (by repeat (first | (with_reducible first | exact HB.out | apply wA | apply wN | apply wD) | exact HB.out)) hb); clear HO120; clear HO125; clear HB; have HO120 := n0_; have HO125 := n1_; have HO132 := n2_; have HB := n3_; clear n0_ n1_ n2_ n3_; clear hb ho23; obtain ⟨Ao24, co24, eo24⟩ := Kd.R_slice HO120.out; subst eo24; obtain ⟨Ao25, co25, eo25⟩ := Kd.R_slice HO132.out; subst eo25) | ((with_reducible refine gate_callee (f := 10) rfl ?_); refine goesL_ (some 31) rfl rfl Tryz.func10 (by kernel_rfl) rfl #[.slice Ao24 t117.length co24, .slice Ao25 y130.length co25] rfl (by (try simp only [List.map_toArray, List.map_cons, List.map_nil]); first | done | rfl | (simp only [List.length_drop, List.length_take]; rfl)) ?_; (with_reducible refine (mummerref01_Same.calls k _ _ t117 _ _ y130 true _ ?side1 ?side2 ?side3 ?side4 A5.out).mono ?_); (case side1 => repeat (first | exact (Kd.R_reads' HO120.out).2.2 | (with_reducible refine Kd.C_alloc ?_ _) | (with_reducible refine Kd.C_drewN ?_ _) | (with_reducible refine Kd.C_drew ?_))); (case side2 => exact (Kd.R_reads' HO120.out).2.1); (case side3 => repeat (first | exact (Kd.R_reads' HO132.out).2.2 | (with_reducible refine Kd.C_alloc ?_ _) | (with_reducible refine Kd.C_drewN ?_ _) | (with_reducible refine Kd.C_drew ?_))); (case side4 => exact (Kd.R_reads' HO132.out).2.1); rintro e w' ⟨rfl, ⟨nd, rfl⟩⟩; refine ⟨_, rfl, ?_⟩) | (go_at_call 20; (with_reducible refine (words_Name.calls (⟨#[119, 101, 98, 45, 49]⟩ : ByteArray) true _ A10.out).mono ?_); rintro e w26 ⟨rfl, hb⟩; have n0_ := ak (Kd.R_below (by (with_reducible repeat (first | apply Kd.R_alloc | apply Kd.R_drewN | apply Kd.R_drew)); exact HO120.out) hb); have n1_ := ak (Kd.R_below (by (with_reducible repeat (first | apply Kd.R_alloc | apply Kd.R_drewN | apply Kd.R_drew)); exact HO125.out) hb); have n2_ := ak (Kd.R_below (by (with_reducible repeat (first | apply Kd.R_alloc | apply Kd.R_drewN | apply Kd.R_drew)); exact HO132.out) hb); have n3_ := ak (below_step (by repeat (first | (with_reducible first | exact HB.out | apply wA | apply wN | apply wD) | exact HB.out)) hb); clear HO120; clear HO125; clear HO132; clear HB; have HO120 := n0_; have HO125 := n1_; have HO132 := n2_; have HB := n3_; clear n0_ n1_ n2_ n3_; (try clear hb); (try clear hb2); (try clear hk); (try clear hi)))
                  go_ret
                  exact ⟨by first | rfl | (simp [errW_none, errW_some] <;> rfl) | (simp [*, errW_none, errW_some] <;> rfl), by repeat (first | (with_reducible first | exact HB.out | apply wA | apply wN | apply wD) | exact HB.out)⟩
                · rw [if_neg c14] at H
                  have c14b0 : (t127 == 0) = false := beq_eq_false_iff_ne.mpr c14
                  have c14b1 : (t127 != 0) = true := bne_iff_ne.mpr c14
                  exact absurd ((Option.some.inj H).trans hrt.out) (by decide)
              · rw [if_neg c13] at H
                have c13b0 : (t122 == 0) = false := beq_eq_false_iff_ne.mpr c13
                have c13b1 : (t122 != 0) = true := bne_iff_ne.mpr c13
                exact absurd ((Option.some.inj H).trans hrt.out) (by decide)
            · rw [if_neg c12] at H
              have c12b0 : (t118 == 0) = false := beq_eq_false_iff_ne.mpr c12
              have c12b1 : (t118 != 0) = true := bne_iff_ne.mpr c12
              exact absurd ((Option.some.inj H).trans hrt.out) (by decide)
          · replace c11 := Bool.eq_false_iff.mpr c11
            subst c11
            have H1 : (some false) = some r := by rw [if_neg (show ¬ (false = true) by decide)] at H; exact H
            clear H
            have H := H1
            clear H1
            exact absurd ((Option.some.inj H).trans hrt.out) (by decide)
        · rw [if_neg c9] at H
          have c9b0 : (t128.toList == ([97, 10, 0, 34] : List UInt8)) = false := beq_eq_false_iff_ne.mpr c9
          have c9b1 : (t128.toList != ([97, 10, 0, 34] : List UInt8)) = true := bne_iff_ne.mpr c9
          exact absurd ((Option.some.inj H).trans hrt.out) (by decide)
      · rw [if_neg c8] at H
        have c8b0 : (t126.toList == ([49, 45, 51, 44, 53, 44, 56, 45, 57] : List UInt8)) = false := beq_eq_false_iff_ne.mpr c8
        have c8b1 : (t126.toList != ([49, 45, 51, 44, 53, 44, 56, 45, 57] : List UInt8)) = true := bne_iff_ne.mpr c8
        exact absurd ((Option.some.inj H).trans hrt.out) (by decide)
    · rw [if_neg c7] at H
      have c7b0 : (t121 == (-12)) = false := beq_eq_false_iff_ne.mpr c7
      have c7b1 : (t121 != (-12)) = true := bne_iff_ne.mpr c7
      exact absurd ((Option.some.inj H).trans hrt.out) (by decide)
  · replace c6 := Bool.eq_false_iff.mpr c6
    subst c6
    have H1 : (some false) = some r := by rw [if_neg (show ¬ (false = true) by decide)] at H; exact H
    clear H
    have H := H1
    clear H1
    exact absurd ((Option.some.inj H).trans hrt.out) (by decide)
end Go.Proofs.YtciaocdpojnmcaaGreatDoor.P
namespace Go.Proofs.YtciaocdpojnmcaaGreatDoor.P
open Go.RowKit Go.Proofs.YtciaocdpojnmcaaGreatDoorW.PrintWords Go.Proofs.YtciaocdpojnmcaaGreatDoorW.PrintLast Go.Proofs.YtciaocdpojnmcaaGreatDoorW.PrintMore
attribute [local go_sem] max2_int min2_int max_two min_two max_three min_three max_four min_four   -- for this text's walks alone
set_option linter.unusedVariables false
set_option linter.unusedSimpArgs false
def strings_Split.f (a0 a1 : ByteArray) : Option (List ByteArray) := if a0.size < 4294967281 ∧ 1 ≤ a1.size then some (Lib.splitB a1 0 (Lib.countB a0 a1) a0) else none
theorem strings_Split.calls (a0 a1 : ByteArray) (r : List ByteArray) (w : World) (h : strings_Split.f a0 a1 = some r) (HT : Aside0 (Wd.All w)) :
    Calls Tryz.prog 32 #[.string a0, .string a1] w fun e w' => ∃ v0_ : Value, e = .returned v0_ ∧ Kd.R Kd.string 9 w' w.heap.size (fun _ => True) v0_ r ∧ Below w.heap.size w w' := by
  unfold strings_Split.f at h
  by_cases hs : a0.size < 4294967281 ∧ 1 ≤ a1.size
  · rw [if_pos hs] at h
    obtain rfl := Option.some.inj h
    obtain ⟨m, hm⟩ := HT.out.mx
    exact Wd.splits_calls a0 a1 m w hs.1 hm hs.2
  · rw [if_neg hs] at h; cases h
def strings_Cut.f (a0 a1 : ByteArray) : Option (ByteArray × ByteArray × Bool) := if h : a1.size = 1 then (if a0.size ≤ 1000000 then some (Wd.ahead a0 a1[0], Wd.behind a0 a1[0], Wd.isThere a0 a1[0]) else none) else none
theorem strings_Cut.calls (a0 a1 : ByteArray) (r1 r2 : ByteArray) (r3 : Bool) (w : World) (h : strings_Cut.f a0 a1 = some (r1, r2, r3)) :
    Calls Tryz.prog 33 #[.string a0, .string a1] w fun e w' => e = .returned (.tuple #[.string r1, .string r2, .bool r3]) ∧ Below w.heap.size w w' := by
  unfold strings_Cut.f at h
  by_cases h1 : a1.size = 1
  · rw [dif_pos h1] at h
    by_cases hs : a0.size ≤ 1000000
    · rw [if_pos hs] at h
      cases h
      have hc := Wd.cut3_calls a0 (a1[0]'(by omega)) hs w
      rwa [Wd.one_byte a1 h1] at hc
    · rw [if_neg hs] at h; cases h
  · rw [dif_neg h1] at h; cases h
def strings_Compare.f (a0 a1 : ByteArray) : Option Int := some (Lib.compareBytes a0.data.toList a1.data.toList)
theorem strings_Compare.calls (a0 a1 : ByteArray) (r : Int) (w : World) (h : strings_Compare.f a0 a1 = some r) :
    Calls Tryz.prog 55 #[.string a0, .string a1] w fun e w' => e = .returned (.int .i64 r) ∧ Below w.heap.size w w' := by
  unfold strings_Compare.f at h
  obtain rfl := Option.some.inj h
  refine (Tryz.strings_Compare a0 a1 w).mono ?_
  rintro e w' ⟨rfl, rfl⟩
  exact ⟨rfl, Below.refl _ _⟩
def words_compare.f (a0 : ByteArray) (a1 : ByteArray) : Option (Int) := if (a0.size : Int) = (a1.size : Int) then ((strings_Compare.f a0 a1).bind fun t135 => (some t135)) else (some (wrap64 ((a0.size : Int) - (a1.size : Int))))
set_option maxHeartbeats 8000000 in
set_option maxRecDepth 100000 in
theorem words_compare.calls (a0 : ByteArray) (a1 : ByteArray) (r : Int) (w : World) (h : words_compare.f a0 a1 = some r) :
    Calls Tryz.prog 35 #[.string a0, .string a1] w fun e w' => e = .returned (.int .i64 r) ∧ Below w.heap.size w w' := by
  have HB := ak (Below.refl w.heap.size w)
  have H : (if (a0.size : Int) = (a1.size : Int) then ((strings_Compare.f a0 a1).bind fun t135 => (some t135)) else (some (wrap64 ((a0.size : Int) - (a1.size : Int))))) = some r := h
  clear h
  by_cases c3 : (a0.size : Int) = (a1.size : Int)
  · rw [if_pos c3] at H
    have c3b0 : ((a0.size : Int) == (a1.size : Int)) = true := beq_iff_eq.mpr c3
    have c3b1 : ((a0.size : Int) != (a1.size : Int)) = false := bne_eq_false_iff_eq.mpr c3
    have c3b2 : (a0.size == a1.size) = true := by first | simpa using c3 | (simp at c3 ⊢; omega)
    clear c3
    replace H := Option.bind_eq_some_iff.mp H
    obtain ⟨t135, A40, H⟩ := H
    replace H : (some t135) = some r := H
    have A4 := ak A40
    clear A40
    obtain rfl := Option.some.inj H
    go_enter Tryz.func35, Tryz.ntmps35
    go_wp2_with (first | ((with_reducible refine gate_callee (f := 55) rfl ?_); refine goesL_ (some 17) rfl rfl Tryz.func55 (by kernel_rfl) rfl #[.string a0, .string a1] rfl (by (try simp only [List.map_toArray, List.map_cons, List.map_nil]); first | done | rfl | (simp only [List.length_drop, List.length_take]; rfl)) ?_; (with_reducible refine (strings_Compare.calls a0 a1 t135 _ A4.out).mono ?_); rintro e w5 ⟨rfl, hb⟩; refine ⟨_, rfl, ?_⟩; have n0_ := ak (below_step (by repeat (first | (with_reducible first | exact HB.out | apply wA | apply wN | apply wD) | exact HB.out)) hb); clear HB; have HB := n0_; clear n0_; (try clear hb); (try clear hb2); (try clear hk); (try clear hi)))
    go_ret
    exact ⟨by first | rfl | (simp [errW_none, errW_some] <;> rfl) | (simp [*, errW_none, errW_some] <;> rfl), by repeat (first | (with_reducible first | exact HB.out | apply wA | apply wN | apply wD) | exact HB.out)⟩
  · rw [if_neg c3] at H
    have c3b0 : ((a0.size : Int) == (a1.size : Int)) = false := beq_eq_false_iff_ne.mpr c3
    have c3b1 : ((a0.size : Int) != (a1.size : Int)) = true := bne_iff_ne.mpr c3
    have c3b2 : (a0.size == a1.size) = false := by first | simpa using c3 | (simp at c3 ⊢; omega)
    obtain rfl := Option.some.inj H
    go_enter Tryz.func35, Tryz.ntmps35
    go_wp2
    go_ret
    exact ⟨by first | rfl | (simp [errW_none, errW_some] <;> rfl) | (simp [*, errW_none, errW_some] <;> rfl), by repeat (first | (with_reducible first | exact HB.out | apply wA | apply wN | apply wD) | exact HB.out)⟩
def strings_LastIndexFunc.f (a0 : ByteArray) : Option Int := if a0.size ≤ 1000000 ∧ a0.data.toList.all (fun b => decide (b.toNat < 128)) = true then some (Wd.lix a0 a0.size) else none
theorem strings_LastIndexFunc.calls (a0 : ByteArray) (r : Int) (w : World) (h : strings_LastIndexFunc.f a0 = some r) :
    Calls Tryz.prog 56 #[.string a0, .func (.func 57) #[] #[]] w fun e w' => e = .returned (.int .i64 r) ∧ Below w.heap.size w w' := by
  unfold strings_LastIndexFunc.f at h
  by_cases hs : a0.size ≤ 1000000 ∧ a0.data.toList.all (fun b => decide (b.toNat < 128)) = true
  · rw [if_pos hs] at h
    obtain rfl := Option.some.inj h
    refine (Wd.lastIx_calls a0 hs.1 (fun i hi => of_decide_eq_true (List.all_eq_true.1 hs.2 _ (List.mem_of_getElem? (Wd.at_list a0 i hi)))) w).mono ?_
    rintro e w' ⟨rfl, rfl⟩
    exact ⟨rfl, Below.refl _ _⟩
  · rw [if_neg hs] at h; cases h
def strings_Repeat.f (a0 : ByteArray) (a1 : Int) : Option ByteArray := if 0 ≤ a1 ∧ a1 ≤ 1000000 ∧ a0.size ≤ 100 then some ⟨(Lib.repeatL a0.data.toList a1.toNat).toArray⟩ else none
theorem strings_Repeat.calls (a0 : ByteArray) (a1 : Int) (r : ByteArray) (w : World) (h : strings_Repeat.f a0 a1 = some r) :
    Calls Tryz.prog 58 #[.string a0, .int .i64 a1] w fun e w' => e = .returned (.string r) ∧ Below w.heap.size w w' := by
  unfold strings_Repeat.f at h
  by_cases hs : 0 ≤ a1 ∧ a1 ≤ 1000000 ∧ a0.size ≤ 100
  · rw [if_pos hs] at h
    obtain rfl := Option.some.inj h
    have h1 : a0.size * a1.toNat ≤ 100 * 1000000 := Nat.mul_le_mul hs.2.2 (by omega)
    have := Tryz.strings_Repeat a0 a1.toNat w (by omega) (by omega)
    rwa [Int.toNat_of_nonneg hs.1] at this
  · rw [if_neg hs] at h; cases h
end Go.Proofs.YtciaocdpojnmcaaGreatDoor.P
namespace Go.Proofs.YtciaocdpojnmcaaGreatDoor.P
open Go.RowKit Go.Proofs.YtciaocdpojnmcaaGreatDoorW.PrintWords Go.Proofs.YtciaocdpojnmcaaGreatDoorW.PrintLast Go.Proofs.YtciaocdpojnmcaaGreatDoorW.PrintMore
attribute [local go_sem] max2_int min2_int max_two min_two max_three min_three max_four min_four   -- for this text's walks alone
set_option linter.unusedVariables false
set_option linter.unusedSimpArgs false
def words_follows.f (a0 : ByteArray) (a1 : ByteArray) : Option (Bool) := (strings_LastIndexFunc.f a0).bind fun t136 => ((strings_Repeat.f (⟨#[48]⟩ : ByteArray) (wrap64 ((wrap64 ((a0.size : Int) - 1)) - t136))).bind fun t137 => (if t136 < 0 then (if 1 + t137.size ≤ 9223372036854775807 then ((words_compare.f ((⟨#[49]⟩ : ByteArray) ++ t137) a1).bind fun t138 => (some (decide (t138 < 0)))) else (none)) else (if 0 ≤ t136 then (if t136 ≤ (a0.size : Int) then (if t136 < (a0.size : Int) then ((some (([((bt a0 t136) + 1) % 256] : List Int) : List Int)).bind fun y139 => (if (a0.extract 0 (t136 : Int).toNat).size + (strOfNums y139).size ≤ 9223372036854775807 then (if ((a0.extract 0 (t136 : Int).toNat) ++ (strOfNums y139)).size + t137.size ≤ 9223372036854775807 then ((words_compare.f (((a0.extract 0 (t136 : Int).toNat) ++ (strOfNums y139)) ++ t137) a1).bind fun t142 => (some (decide (t142 < 0)))) else (none)) else (none))) else (none)) else (none)) else (none))))
def words_follows.T5 : Bool × List (List Nat × List Nat) := (true, [([], []), ([], []), ([0, 1], [0, 1]), ([], []), ([], []), ([3, 4], [3, 4]), ([5], [5]), ([6], [6]), ([7], [7]), ([2, 8], [2, 8]), ([], []), ([9, 10], [9, 10]), ([], []), ([11, 12], [11, 12]), ([13], [13]), ([14, 13, 0, 1, 2, 3, 4, 5, 6, 7, 8, 9, 10, 11, 12, 13, 14], [14])])
def words_follows.B5 : List Nat := [0, 0, 3, 0, 0, 24, 56, 120, 248, 511, 0, 2047, 0, 8191, 16383, 32767]
theorem words_follows.tab5 : rtab .any (opsOf Tryz.f36 5) = words_follows.T5 := by kernel_rfl
theorem words_follows.bits5 : waitsOk words_follows.T5.2 words_follows.B5 = true := by kernel_rfl
set_option maxHeartbeats 8000000 in
set_option maxRecDepth 100000 in
theorem words_follows.calls (a0 : ByteArray) (a1 : ByteArray) (r : Bool) (w : World) (h : words_follows.f a0 a1 = some r) :
    Calls Tryz.prog 36 #[.string a0, .string a1] w fun e w' => e = .returned (.bool r) ∧ Below w.heap.size w w' := by
  have HB := ak (Below.refl w.heap.size w)
  have H : ((strings_LastIndexFunc.f a0).bind fun t136 => ((strings_Repeat.f (⟨#[48]⟩ : ByteArray) (wrap64 ((wrap64 ((a0.size : Int) - 1)) - t136))).bind fun t137 => (if t136 < 0 then (if 1 + t137.size ≤ 9223372036854775807 then ((words_compare.f ((⟨#[49]⟩ : ByteArray) ++ t137) a1).bind fun t138 => (some (decide (t138 < 0)))) else (none)) else (if 0 ≤ t136 then (if t136 ≤ (a0.size : Int) then (if t136 < (a0.size : Int) then ((some (([((bt a0 t136) + 1) % 256] : List Int) : List Int)).bind fun y139 => (if (a0.extract 0 (t136 : Int).toNat).size + (strOfNums y139).size ≤ 9223372036854775807 then (if ((a0.extract 0 (t136 : Int).toNat) ++ (strOfNums y139)).size + t137.size ≤ 9223372036854775807 then ((words_compare.f (((a0.extract 0 (t136 : Int).toNat) ++ (strOfNums y139)) ++ t137) a1).bind fun t142 => (some (decide (t142 < 0)))) else (none)) else (none))) else (none)) else (none)) else (none))))) = some r := h
  clear h
  replace H := Option.bind_eq_some_iff.mp H
  obtain ⟨t136, A30, H⟩ := H
  replace H : ((strings_Repeat.f (⟨#[48]⟩ : ByteArray) (wrap64 ((wrap64 ((a0.size : Int) - 1)) - t136))).bind fun t137 => (if t136 < 0 then (if 1 + t137.size ≤ 9223372036854775807 then ((words_compare.f ((⟨#[49]⟩ : ByteArray) ++ t137) a1).bind fun t138 => (some (decide (t138 < 0)))) else (none)) else (if 0 ≤ t136 then (if t136 ≤ (a0.size : Int) then (if t136 < (a0.size : Int) then ((some (([((bt a0 t136) + 1) % 256] : List Int) : List Int)).bind fun y139 => (if (a0.extract 0 (t136 : Int).toNat).size + (strOfNums y139).size ≤ 9223372036854775807 then (if ((a0.extract 0 (t136 : Int).toNat) ++ (strOfNums y139)).size + t137.size ≤ 9223372036854775807 then ((words_compare.f (((a0.extract 0 (t136 : Int).toNat) ++ (strOfNums y139)) ++ t137) a1).bind fun t142 => (some (decide (t142 < 0)))) else (none)) else (none))) else (none)) else (none)) else (none)))) = some r := H
  have A3 := ak A30
  clear A30
  replace H := Option.bind_eq_some_iff.mp H
  obtain ⟨t137, A40, H⟩ := H
  replace H : (if t136 < 0 then (if 1 + t137.size ≤ 9223372036854775807 then ((words_compare.f ((⟨#[49]⟩ : ByteArray) ++ t137) a1).bind fun t138 => (some (decide (t138 < 0)))) else (none)) else (if 0 ≤ t136 then (if t136 ≤ (a0.size : Int) then (if t136 < (a0.size : Int) then ((some (([((bt a0 t136) + 1) % 256] : List Int) : List Int)).bind fun y139 => (if (a0.extract 0 (t136 : Int).toNat).size + (strOfNums y139).size ≤ 9223372036854775807 then (if ((a0.extract 0 (t136 : Int).toNat) ++ (strOfNums y139)).size + t137.size ≤ 9223372036854775807 then ((words_compare.f (((a0.extract 0 (t136 : Int).toNat) ++ (strOfNums y139)) ++ t137) a1).bind fun t142 => (some (decide (t142 < 0)))) else (none)) else (none))) else (none)) else (none)) else (none))) = some r := H
  have A4 := ak A40
  clear A40
  by_cases c5 : t136 < 0
  · rw [if_pos c5] at H
    have c5b0 : decide (t136 < 0) = true := decide_eq_true c5
    clear c5
    by_cases c6 : 1 + t137.size ≤ 9223372036854775807
    · rw [if_pos c6] at H
      have c6b0 := eq_true c6
      have c6b1 : decide (1 + t137.size ≤ 9223372036854775807) = true := decide_eq_true c6
      try have c6b2 : (9223372036854775807 < 1 + t137.size) = False := eq_false (Nat.not_lt.2 c6)
      replace H := Option.bind_eq_some_iff.mp H
      obtain ⟨t138, A70, H⟩ := H
      replace H : (some (decide (t138 < 0))) = some r := H
      have A7 := ak A70
      clear A70
      obtain rfl := Option.some.inj H
      go_enter Tryz.func36, Tryz.ntmps36
      go_wp2_with (first | ((with_reducible refine gate_callee (f := 56) rfl ?_); refine goesL_ (some 8) rfl rfl Tryz.func56 (by kernel_rfl) rfl #[.string a0, .func (.func 57) #[] #[]] rfl (by (try simp only [List.map_toArray, List.map_cons, List.map_nil]); first | done | rfl | (simp only [List.length_drop, List.length_take]; rfl)) ?_; (with_reducible refine (strings_LastIndexFunc.calls a0 t136 _ A3.out).mono ?_); rintro e w8 ⟨rfl, hb⟩; refine ⟨_, rfl, ?_⟩; have n0_ := ak (below_step (by repeat (first | (with_reducible first | exact HB.out | apply wA | apply wN | apply wD) | exact HB.out)) hb); clear HB; have HB := n0_; clear n0_; (try clear hb); (try clear hb2); (try clear hk); (try clear hi)) | ((with_reducible refine gate_callee (f := 58) rfl ?_); refine goesL_ (some 14) rfl rfl Tryz.func58 (by kernel_rfl) rfl #[.string (⟨#[48]⟩ : ByteArray), .int .i64 (wrap64 ((wrap64 ((a0.size : Int) - 1)) - t136))] rfl (by (try simp only [List.map_toArray, List.map_cons, List.map_nil]); first | done | rfl | (simp only [List.length_drop, List.length_take]; rfl)) ?_; (with_reducible refine (strings_Repeat.calls (⟨#[48]⟩ : ByteArray) (wrap64 ((wrap64 ((a0.size : Int) - 1)) - t136)) t137 _ A4.out).mono ?_); rintro e w9 ⟨rfl, hb⟩; refine ⟨_, rfl, ?_⟩; have n0_ := ak (below_step (by repeat (first | (with_reducible first | exact HB.out | apply wA | apply wN | apply wD) | exact HB.out)) hb); clear HB; have HB := n0_; clear n0_; (try clear hb); (try clear hb2); (try clear hk); (try clear hi)) | ((with_reducible refine gate_callee (f := 35) rfl ?_); refine goesL_ (some 20) rfl rfl Tryz.func35 (by kernel_rfl) rfl #[.string ((⟨#[49]⟩ : ByteArray) ++ t137), .string a1] rfl (by (try simp only [List.map_toArray, List.map_cons, List.map_nil]); first | done | rfl | (simp only [List.length_drop, List.length_take]; rfl)) ?_; (with_reducible refine (words_compare.calls ((⟨#[49]⟩ : ByteArray) ++ t137) a1 t138 _ A7.out).mono ?_); rintro e w10 ⟨rfl, hb⟩; refine ⟨_, rfl, ?_⟩; have n0_ := ak (below_step (by repeat (first | (with_reducible first | exact HB.out | apply wA | apply wN | apply wD) | exact HB.out)) hb); clear HB; have HB := n0_; clear n0_; (try clear hb); (try clear hb2); (try clear hk); (try clear hi)))
      go_ret
      exact ⟨by first | rfl | (simp [errW_none, errW_some] <;> rfl) | (simp [*, errW_none, errW_some] <;> rfl), by repeat (first | (with_reducible first | exact HB.out | apply wA | apply wN | apply wD) | exact HB.out)⟩
    · rw [if_neg c6] at H
      exact absurd H (by simp)
  · rw [if_neg c5] at H
    have c5b0 : decide (t136 < 0) = false := decide_eq_false c5
    clear c5
    by_cases c11 : 0 ≤ t136
    · rw [if_pos c11] at H
      have c11b0 := eq_true c11
      have c11b1 : decide (0 ≤ t136) = true := decide_eq_true c11
      clear c11
      by_cases c12 : t136 ≤ (a0.size : Int)
      · rw [if_pos c12] at H
        have c12b0 := eq_true c12
        have c12b1 : decide (t136 ≤ (a0.size : Int)) = true := decide_eq_true c12
        clear c12
        by_cases c13 : t136 < (a0.size : Int)
        · rw [if_pos c13] at H
          have c13b0 : decide (t136 < (a0.size : Int)) = true := decide_eq_true c13
          clear c13
          obtain ⟨y139, hy139⟩ : ∃ y_ : List Int, y_ = (([((bt a0 t136) + 1) % 256] : List Int)) := ⟨_, rfl⟩
          replace H : (if (a0.extract 0 (t136 : Int).toNat).size + (strOfNums y139).size ≤ 9223372036854775807 then (if ((a0.extract 0 (t136 : Int).toNat) ++ (strOfNums y139)).size + t137.size ≤ 9223372036854775807 then ((words_compare.f (((a0.extract 0 (t136 : Int).toNat) ++ (strOfNums y139)) ++ t137) a1).bind fun t142 => (some (decide (t142 < 0)))) else (none)) else (none)) = some r := by first | (rw [hy139]; with_reducible exact H) | (have H2_ := (Option.bind_some _ _).symm.trans H; rw [hy139]; with_reducible exact H2_) | (have H2_ := (Option.bind_some _ _).symm.trans H; with_reducible exact H2_) | with_reducible exact H | (rw [hy139]; exact H) | exact H
          have Ny139 := ak hy139
          clear hy139
          by_cases c15 : (a0.extract 0 (t136 : Int).toNat).size + (strOfNums y139).size ≤ 9223372036854775807
          · rw [if_pos c15] at H
            have c15b0 := eq_true c15
            have c15b1 : decide ((a0.extract 0 (t136 : Int).toNat).size + (strOfNums y139).size ≤ 9223372036854775807) = true := decide_eq_true c15
            try have c15b2 : (9223372036854775807 < (a0.extract 0 (t136 : Int).toNat).size + (strOfNums y139).size) = False := eq_false (Nat.not_lt.2 c15)
            have c15b6 : (a0.extract 0 (t136 : Int).toNat).size = (t136 : Int).toNat := by rw [ByteArray.size_extract]; (have hle_ := of_eq_true c12b0; omega)
            have c15b7 : (9223372036854775807 < (t136 : Int).toNat + (strOfNums y139).size) = False := by rw [← c15b6]; exact c15b2
            by_cases c16 : ((a0.extract 0 (t136 : Int).toNat) ++ (strOfNums y139)).size + t137.size ≤ 9223372036854775807
            · rw [if_pos c16] at H
              have c16b0 := eq_true c16
              have c16b1 : decide (((a0.extract 0 (t136 : Int).toNat) ++ (strOfNums y139)).size + t137.size ≤ 9223372036854775807) = true := decide_eq_true c16
              try have c16b2 : (9223372036854775807 < ((a0.extract 0 (t136 : Int).toNat) ++ (strOfNums y139)).size + t137.size) = False := eq_false (Nat.not_lt.2 c16)
              have c16b7 : (9223372036854775807 < (t136 : Int).toNat + (strOfNums y139).size + t137.size) = False := by rw [ByteArray.size_append, ByteArray.size_extract] at c16b2; rw [show min (t136 : Int).toNat a0.size - 0 = (t136 : Int).toNat by (have hle_ := of_eq_true c12b0; omega)] at c16b2; exact c16b2
              replace H := Option.bind_eq_some_iff.mp H
              obtain ⟨t142, A170, H⟩ := H
              replace H : (some (decide (t142 < 0))) = some r := H
              have A17 := ak A170
              clear A170
              obtain rfl := Option.some.inj H
              go_enter Tryz.func36, Tryz.ntmps36
              try go_wp2_with (first | ((with_reducible refine gate_callee (f := 56) rfl ?_); refine goesL_ (some 8) rfl rfl Tryz.func56 (by kernel_rfl) rfl #[.string a0, .func (.func 57) #[] #[]] rfl (by (try simp only [List.map_toArray, List.map_cons, List.map_nil]); first | done | rfl | (simp only [List.length_drop, List.length_take]; rfl)) ?_; (with_reducible refine (strings_LastIndexFunc.calls a0 t136 _ A3.out).mono ?_); rintro e w18 ⟨rfl, hb⟩; refine ⟨_, rfl, ?_⟩; have n0_ := ak (below_step (by repeat (first | (with_reducible first | exact HB.out | apply wA | apply wN | apply wD) | exact HB.out)) hb); clear HB; have HB := n0_; clear n0_; (try clear hb); (try clear hb2); (try clear hk); (try clear hi)) | ((with_reducible refine gate_callee (f := 58) rfl ?_); refine goesL_ (some 14) rfl rfl Tryz.func58 (by kernel_rfl) rfl #[.string (⟨#[48]⟩ : ByteArray), .int .i64 (wrap64 ((wrap64 ((a0.size : Int) - 1)) - t136))] rfl (by (try simp only [List.map_toArray, List.map_cons, List.map_nil]); first | done | rfl | (simp only [List.length_drop, List.length_take]; rfl)) ?_; (with_reducible refine (strings_Repeat.calls (⟨#[48]⟩ : ByteArray) (wrap64 ((wrap64 ((a0.size : Int) - 1)) - t136)) t137 _ A4.out).mono ?_); rintro e w19 ⟨rfl, hb⟩; refine ⟨_, rfl, ?_⟩; have n0_ := ak (below_step (by repeat (first | (with_reducible first | exact HB.out | apply wA | apply wN | apply wD) | exact HB.out)) hb); clear HB; have HB := n0_; clear n0_; (try clear hb); (try clear hb2); (try clear hk); (try clear hi)))
              have n0_ := ak (wD HB.out)
              clear HB
              have HB := n0_
              clear n0_
              have p14 : 0 ≤ (t136 : Int) := of_decide_eq_true (by first | (with_reducible assumption) | assumption)
              have q14 : t136 < (a0.size : Int) := of_decide_eq_true (by first | (with_reducible assumption) | assumption)
              have hx14 := bt_at a0 t136
              replace p14 := eq_true p14
              replace q14 := eq_true q14
              refine start_ (n := 16) (S := fun w' => True) (ds := []) #[false, false, false, false, false, false, false, false, false, false, false, false, false, false, false, false] (by kernel_rfl) rfl rfl trivial (fun hHeld => ?_); refine with_tabW words_follows.tab5 words_follows.bits5 (fun HT_ HW_ => ?_)
              generalize w19.drew = w20 at HB hHeld ⊢
              refine pure_ (i := 0) (N := some 22) (v := ?_) (a' := ?_) #[true, false, false, false, false, false, false, false, false, false, false, false, false, false, false, false] rfl rfl (any_of HT_.out (by kernel_rfl)) (fun _ _ _ h => h) (Or.inl ⟨by rfl, ?_⟩) ?_ ?_
              rotate_left
              · intro w'
                go_simp
                with_reducible rfl
              rotate_left
              · simp only [Act.put, List.setIfInBounds_toArray, List.set_cons_zero, List.set_cons_succ, i64_w, i32_w]
                rfl
              refine pure_ (i := 1) (N := some 23) (v := ?_) (a' := ?_) #[true, true, false, false, false, false, false, false, false, false, false, false, false, false, false, false] rfl rfl (any_of HT_.out (by kernel_rfl)) (fun _ _ _ h => h) (Or.inl ⟨by rfl, ?_⟩) ?_ ?_
              rotate_left
              · intro w'
                go_simp
                with_reducible rfl
              rotate_left
              · simp only [Act.put, List.setIfInBounds_toArray, List.set_cons_zero, List.set_cons_succ, i64_w, i32_w]
                rfl
              refine pure_ (i := 2) (N := some 24) (v := ?_) (a' := ?_) #[true, true, true, false, false, false, false, false, false, false, false, false, false, false, false, false] rfl rfl (any_of HT_.out (by kernel_rfl)) (fun _ _ _ h => h) (Or.inl ⟨by rfl, ?_⟩) ?_ ?_
              rotate_left
              · intro w'
                go_simp
                with_reducible rfl
              rotate_left
              · simp only [Act.put, List.setIfInBounds_toArray, List.set_cons_zero, List.set_cons_succ, i64_w, i32_w]
                rfl
              refine pure_ (i := 3) (N := some 25) (v := ?_) (a' := ?_) #[true, true, true, true, false, false, false, false, false, false, false, false, false, false, false, false] rfl rfl (any_of HT_.out (by kernel_rfl)) (fun _ _ _ h => h) (Or.inl ⟨by rfl, ?_⟩) ?_ ?_
              rotate_left
              · intro w'
                go_simp
                with_reducible rfl
              rotate_left
              · simp only [Act.put, List.setIfInBounds_toArray, List.set_cons_zero, List.set_cons_succ, i64_w, i32_w]
                rfl
              refine pure_ (i := 4) (N := some 26) (v := ?_) (a' := ?_) #[true, true, true, true, true, false, false, false, false, false, false, false, false, false, false, false] rfl rfl (any_of HT_.out (by kernel_rfl)) (fun _ _ _ h => h) (Or.inl ⟨by rfl, ?_⟩) ?_ ?_
              rotate_left
              · intro w'
                go_simp
                with_reducible rfl
              rotate_left
              · simp only [Act.put, List.setIfInBounds_toArray, List.set_cons_zero, List.set_cons_succ, i64_w, i32_w]
                rfl
              refine pure_ (i := 10) (N := some 32) (v := ?_) (a' := ?_) #[true, true, true, true, true, false, false, false, false, false, true, false, false, false, false, false] rfl rfl (any_of HT_.out (by kernel_rfl)) (fun _ _ _ h => h) (Or.inl ⟨by rfl, ?_⟩) ?_ ?_
              rotate_left
              · intro w'
                go_simp
                with_reducible rfl
              rotate_left
              · simp only [Act.put, List.setIfInBounds_toArray, List.set_cons_zero, List.set_cons_succ, i64_w, i32_w]
                rfl
              refine pure_ (i := 12) (N := some 34) (v := ?_) (a' := ?_) #[true, true, true, true, true, false, false, false, false, false, true, false, true, false, false, false] rfl rfl (any_of HT_.out (by kernel_rfl)) (fun _ _ _ h => h) (Or.inl ⟨by rfl, ?_⟩) ?_ ?_
              rotate_left
              · intro w'
                go_simp
                with_reducible rfl
              rotate_left
              · simp only [Act.put, List.setIfInBounds_toArray, List.set_cons_zero, List.set_cons_succ, i64_w, i32_w]
                rfl
              refine take_ (i := 5) (N := some 27) (v := ?_) (a' := ?_) #[true, true, true, true, true, true, false, false, false, false, true, false, true, false, false, false] rfl rfl (take_ofW HT_.out HW_.out (by kernel_rfl)) (fun _ _ _ h => h) (Or.inl ⟨by rfl, ?_⟩) hHeld ?_ ?_
              rotate_left
              · intro w' _
                go_simp
                with_reducible rfl
              rotate_left
              · simp only [Act.put, List.setIfInBounds_toArray, List.set_cons_zero, List.set_cons_succ, i64_w, i32_w]
                rfl
              refine pure_ (i := 6) (N := some 28) (v := ?_) (a' := ?_) #[true, true, true, true, true, true, true, false, false, false, true, false, true, false, false, false] rfl rfl (any_of HT_.out (by kernel_rfl)) (fun _ _ _ h => h) (Or.inl ⟨by rfl, ?_⟩) ?_ ?_
              rotate_left
              · intro w'
                go_simp
                with_reducible rfl
              rotate_left
              · simp only [Act.put, List.setIfInBounds_toArray, List.set_cons_zero, List.set_cons_succ, i64_w, i32_w]
                rfl
              refine one_ (i := 7) (N := some 29) #[true, true, true, true, true, true, true, true, false, false, true, false, true, false, false, false] rfl rfl (one_of HT_.out (by kernel_rfl)) (by decide) (fun K hK => ?_)
              refine Kd.R_lit_step (Kd.int .u8) _ 5 ?hg (N := 29) ?hd (xs := ([((bt a0 t136) + 1) % 256] : List Int)) (inner := [.int .u8 (((bt a0 t136) + 1) % 256)]) (ok := fun _ => True) (okp := fun _ => True) ?hr ?hp (fun _ hk => hk) trivial (Below.refl _ _) (Nat.le_refl _) (by simp) ?_; (case hd => rfl); (case hg => rfl); (case hr => first | (go_simp; done) | (go_simp; rfl)); (case hp => exact (Reps.one (show Kd.M (Kd.int .u8) _ _ _ (((bt a0 t136) + 1) % 256) [.int .u8 (((bt a0 t136) + 1) % 256)] from rfl) (Reps.none _ _)))
              intro v140 w21 ho22 hb hg_ hnew_
              clear hg_ hnew_
              (first | rw [← Ny139.out] at ho22 | (simp only [Int.reduceToNat] at ho22; rw [← Ny139.out] at ho22))
              have n0_ := ak (Kd.R_lower ho22 (below_size (by repeat (first | (with_reducible first | exact HB.out | apply wA | apply wN | apply wD) | exact HB.out))))
              have n1_ := ak (below_step (by repeat (first | (with_reducible first | exact HB.out | apply wA | apply wN | apply wD) | exact HB.out)) hb)
              clear HB
              have HO141 := n0_
              have HB := n1_
              clear n0_ n1_ hb ho22
              refine hK.out _ _ trivial (fun hHeld => ?_)
              clear hK K
              refine norm_ (a' := ?_) ?_ ?_
              rotate_left
              · show Act.put _ (some 29) _ = _
                simp only [Act.put, List.setIfInBounds_toArray, List.set_cons_zero, List.set_cons_succ, i64_w, i32_w]
                rfl
              refine one_ (i := 8) (N := some 30) #[true, true, true, true, true, true, true, true, true, false, true, false, true, false, false, false] rfl rfl (one_of HT_.out (by kernel_rfl)) (by decide) (fun K hK => ?_)
              have hcv23 := own_string (P := Tryz.prog) Tryz.underlying55 Tryz.underlying5 Tryz.underlying9 (Kd.own_of_R HO141.out)
              refine value_ (w1 := ?_) (v := ?_) (by rfl) rfl ?_ ?_
              rotate_left 2
              · go_simp
                constructor
                · rfl
                · rfl
              clear hcv23
              refine hK.out _ _ trivial (fun hHeld => ?_)
              clear hK K
              refine norm_ (a' := ?_) ?_ ?_
              rotate_left
              · show Act.put _ (some 30) _ = _
                simp only [Act.put, List.setIfInBounds_toArray, List.set_cons_zero, List.set_cons_succ, i64_w, i32_w]
                rfl
              refine pure_ (i := 9) (N := some 31) (v := ?_) (a' := ?_) #[true, true, true, true, true, true, true, true, true, true, true, false, true, false, false, false] rfl rfl (any_of HT_.out (by kernel_rfl)) (fun _ _ _ h => h) (Or.inl ⟨by rfl, ?_⟩) ?_ ?_
              rotate_left
              · intro w'
                go_simp
                with_reducible rfl
              rotate_left
              · simp only [Act.put, List.setIfInBounds_toArray, List.set_cons_zero, List.set_cons_succ, i64_w, i32_w]
                rfl
              refine pure_ (i := 11) (N := some 33) (v := ?_) (a' := ?_) #[true, true, true, true, true, true, true, true, true, true, true, true, true, false, false, false] rfl rfl (any_of HT_.out (by kernel_rfl)) (fun _ _ _ h => h) (Or.inl ⟨by rfl, ?_⟩) ?_ ?_
              rotate_left
              · intro w'
                go_simp
                with_reducible rfl
              rotate_left
              · simp only [Act.put, List.setIfInBounds_toArray, List.set_cons_zero, List.set_cons_succ, i64_w, i32_w]
                rfl
              refine one_ (i := 13) (N := some 35) #[true, true, true, true, true, true, true, true, true, true, true, true, true, true, false, false] rfl rfl (one_of HT_.out (by kernel_rfl)) (by decide) (fun K hK => ?_)
              refine goes_ Tryz.func35 (by kernel_rfl) rfl #[.string (((a0.extract 0 (t136 : Int).toNat) ++ (strOfNums y139)) ++ t137), .string a1] (by rfl) rfl rfl (by (try simp only [List.map_toArray, List.map_cons, List.map_nil]); first | done | rfl | (simp only [List.length_drop, List.length_take]; rfl)) ?_
              with_reducible refine (words_compare.calls (((a0.extract 0 (t136 : Int).toNat) ++ (strOfNums y139)) ++ t137) a1 t142 _ A17.out).mono ?_
              rintro e w24 ⟨rfl, hb⟩
              refine ⟨_, rfl, ?_⟩
              have n0_ := ak (Kd.R_below (by (with_reducible repeat (first | apply Kd.R_alloc | apply Kd.R_drewN | apply Kd.R_drew)); exact HO141.out) hb)
              have n1_ := ak (below_step (by repeat (first | (with_reducible first | exact HB.out | apply wA | apply wN | apply wD) | exact HB.out)) hb)
              clear HO141 HB
              have HO141 := n0_
              have HB := n1_
              clear n0_ n1_
              (try clear hb)
              (try clear hb2)
              (try clear hk)
              (try clear hi)
              refine hK.out _ _ trivial (fun hHeld => ?_)
              clear hK K
              refine norm_ (a' := ?_) ?_ ?_
              rotate_left
              · show Act.put _ (some 35) _ = _
                simp only [Act.put, List.setIfInBounds_toArray, List.set_cons_zero, List.set_cons_succ, i64_w, i32_w]
                rfl
              refine pure_ (i := 14) (N := some 36) (v := ?_) (a' := ?_) #[true, true, true, true, true, true, true, true, true, true, true, true, true, true, true, false] rfl rfl (any_of HT_.out (by kernel_rfl)) (fun _ _ _ h => h) (Or.inl ⟨by rfl, ?_⟩) ?_ ?_
              rotate_left
              · intro w'
                go_simp
                with_reducible rfl
              rotate_left
              · simp only [Act.put, List.setIfInBounds_toArray, List.set_cons_zero, List.set_cons_succ, i64_w, i32_w]
                rfl
              refine pure_ (i := 15) (N := some 4) (v := ?_) (a' := ?_) #[true, true, true, true, true, true, true, true, true, true, true, true, true, true, true, true] rfl rfl (any_of HT_.out (by kernel_rfl)) (fun _ _ _ h => h) (Or.inl ⟨by rfl, ?_⟩) ?_ ?_
              rotate_left
              · intro w'
                go_simp
                with_reducible rfl
              rotate_left
              · simp only [Act.put, List.setIfInBounds_toArray, List.set_cons_zero, List.set_cons_succ, i64_w, i32_w]
                rfl
              refine done_ (done_of HT_.out (by kernel_rfl)) ?_
              try go_wp2
              go_ret
              exact ⟨by first | rfl | (simp [errW_none, errW_some] <;> rfl) | (simp [*, errW_none, errW_some] <;> rfl), by repeat (first | (with_reducible first | exact HB.out | apply wA | apply wN | apply wD) | exact HB.out)⟩
            · rw [if_neg c16] at H
              exact absurd H (by simp)
          · rw [if_neg c15] at H
            exact absurd H (by simp)
        · rw [if_neg c13] at H
          exact absurd H (by simp)
      · rw [if_neg c12] at H
        exact absurd H (by simp)
    · rw [if_neg c11] at H
      exact absurd H (by simp)
end Go.Proofs.YtciaocdpojnmcaaGreatDoor.P
namespace Go.Proofs.YtciaocdpojnmcaaGreatDoor.P
open Go.RowKit Go.Proofs.YtciaocdpojnmcaaGreatDoorW.PrintWords Go.Proofs.YtciaocdpojnmcaaGreatDoorW.PrintLast Go.Proofs.YtciaocdpojnmcaaGreatDoorW.PrintMore
attribute [local go_sem] max2_int min2_int max_two min_two max_three min_three max_four min_four   -- for this text's walks alone
set_option linter.unusedVariables false
set_option linter.unusedSimpArgs false
def Wd.atoiV (l : List UInt8) : Option Int := match Lib.atoiAll l with
  | .ok v => some v
  | _ => none
def strconv_Atoi_37.f (a0 : ByteArray) : Option (Int × Option Int) := if a0.size ≤ 1000000 then (Wd.atoiV a0.data.toList).map (fun v => (v, none)) else none
theorem strconv_Atoi_37.calls (a0 : ByteArray) (r1 : Int) (r2 : Option Int) (w : World) (h : strconv_Atoi_37.f a0 = some (r1, r2)) :
    Calls Tryz.prog 37 #[.string a0] w fun e w' => e = .returned (.tuple #[.int .i64 r1, errW r2]) ∧ Below w.heap.size w w' := by
  unfold strconv_Atoi_37.f at h
  by_cases hs : a0.size ≤ 1000000
  · rw [if_pos hs] at h
    obtain ⟨v, hv, hr⟩ := Option.map_eq_some_iff.1 h
    cases hr
    have ho : Lib.atoiAll a0.data.toList = .ok r1 := by
      unfold Wd.atoiV at hv
      split at hv
      · rename_i h2; rw [h2]; cases hv; rfl
      · cases hv
    refine (Tryz.strconv_Atoi_ok a0 (by omega) r1 ho w).mono ?_
    rintro e w' ⟨rfl, h3⟩
    refine ⟨rfl, ?_⟩
    rcases h3 with rfl | ⟨t, rfl⟩
    · exact Below.refl _ _
    · exact Lib.bytesWorld_below _ _ _
  · rw [if_neg hs] at h; cases h
end Go.Proofs.YtciaocdpojnmcaaGreatDoor.P
