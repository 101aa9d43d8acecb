import Derived.Test.YtpjcahjpjeiicaaProg
import Derived.Below
import Derived.Deep.Draws
import Derived.Deep.AppendLies
import Derived.Maps.AppendAt
import Derived.OwnWalk
import Derived.Laws.BytesArg
import Derived.Laws.MakeOwn
import Derived.Laws.OwnMore
import Derived.Deep.OwnRows
import Derived.Tactics
import Derived.Lib.ConvBytes
import Derived.Laws.Slices
import Derived.WalkKit
import Derived.KernelRfl
import Derived.RowKit3
import Derived.Deep.LoopGhost
import Derived.Deep.QuietTactic
import Derived.BigQuiet
import Derived.WideLaws
import Derived.Deep.DeepCutAuto
import Derived.Deep.CutBlock
import Derived.Deep.RegionHeld3
import Derived.Laws.Rows
import Derived.Lib.AppendStr
import Derived.ArgAppend
import Derived.Laws.IdiomCopy
import Derived.OrdersHeld
import Derived.Laws.BitsLemmas
import Derived.RowKit
import Derived.Lib.LazyBuf
import Derived.Test.YtpjcahjpjeiicaaKS15
import Derived.Test.YtpjcahjpjeiicaaKS16
import Derived.Test.YtpjcahjpjeiicaaKS17
import Derived.Carry
import Derived.Laws.Cover1
import Derived.Test.YtpjcahjpjeiicaaKS1
import Derived.Test.YtpjcahjpjeiicaaKS2
import Derived.Test.YtpjcahjpjeiicaaKS18
import Derived.Test.YtpjcahjpjeiicaaKS3
import Derived.Test.YtpjcahjpjeiicaaKS4
import Derived.Test.YtpjcahjpjeiicaaKS5
import Derived.Test.YtpjcahjpjeiicaaKS6
import Derived.Test.YtpjcahjpjeiicaaKS7
import Derived.Test.YtpjcahjpjeiicaaKS8
import Derived.Test.YtpjcahjpjeiicaaKS9
import Derived.Test.YtpjcahjpjeiicaaKS10
import Derived.Test.YtpjcahjpjeiicaaKS19
import Derived.Test.YtpjcahjpjeiicaaKS20
import Derived.Test.YtpjcahjpjeiicaaKS21
import Derived.Test.YtpjcahjpjeiicaaKS11
import Derived.Test.YtpjcahjpjeiicaaKS12
namespace Go.Proofs.Ytpjcahjpjeiicaa.P
open Go.RowKit Go.Proofs.YtpjcahjpjeiicaaW.PrintWords Go.Proofs.YtpjcahjpjeiicaaW.PrintLast Go.Proofs.YtpjcahjpjeiicaaW.PrintMore
attribute [local go_sem] max2_int min2_int max_two min_two max_three min_three max_four min_four   -- for this text's walks alone
set_option linter.unusedVariables false
set_option linter.unusedSimpArgs false
def errW : Option Int → Value
  | none => .nilIface
  | some c => .iface 0 (.int .i64 c)
theorem errW_none : errW none = .nilIface := rfl
theorem errW_some (c : Int) : errW (some c) = .iface 0 (.int .i64 c) := rfl
theorem info3 : (Try.prog.info? 3).map (fun i => (i.zero, i.size, i.bytes)) = some (some (.int .i64 0), 1, 8) := by kernel_rfl
theorem info4 : (Try.prog.info? 4).map (fun i => (i.zero, i.size, i.bytes)) = some (some (.bool false), 1, 1) := by kernel_rfl
theorem info5 : (Try.prog.info? 5).map (fun i => (i.zero, i.size, i.bytes)) = some (some (.int .u8 0), 1, 1) := by kernel_rfl
theorem info24 : (Try.prog.info? 24).map (fun i => (i.zero, i.size, i.bytes)) = some (some (.agg #[(.string ⟨#[]⟩), (.string ⟨#[]⟩), (.int .i64 0), (.int .i64 0)]), 4, 48) := by kernel_rfl
structure S24 where
  f0 : ByteArray
  f1 : ByteArray
  f2 : Int
  f3 : Int
def z24 : S24 := ⟨(⟨#[]⟩ : ByteArray), (⟨#[]⟩ : ByteArray), (0 : Int), (0 : Int)⟩
def k24 : Kd S24 := Kd.iso (Kd.pair Kd.string (Kd.pair Kd.string (Kd.pair (Kd.int .i64) (Kd.int .i64)))) (fun x : S24 => (x.f0, x.f1, x.f2, x.f3))
theorem k24_open {w : World} {x : S24} {cs : List Value} (h : k24.K w x cs) : cs = [.string x.f0, .string x.f1, .int .i64 x.f2, .int .i64 x.f3] := by
  obtain ⟨_, _, rfl, rfl, ⟨_, _, rfl, rfl, ⟨_, _, rfl, rfl, rfl⟩⟩⟩ := h
  exact rfl
theorem k24_mkM (w : World) (base : Nat) (ok : Nat → Prop) (x : S24)  : k24.M w base ok x [.string x.f0, .string x.f1, .int .i64 x.f2, .int .i64 x.f3] := ⟨[.string x.f0], [.string x.f1, .int .i64 x.f2, .int .i64 x.f3], rfl, rfl, ⟨[.string x.f1], [.int .i64 x.f2, .int .i64 x.f3], rfl, rfl, ⟨[.int .i64 x.f2], [.int .i64 x.f3], rfl, rfl, rfl⟩⟩⟩
def rd_T24 (xs : List S24) (i : Int) : S24 := xs.getD i.toNat z24
theorem at_T24 {w : World} {A : Option Addr} {n : Nat} {xs : List S24} (h : Kd.C k24 w A n xs) (i : Int) (h0 : 0 ≤ i) (h1 : i < n) : ∃ ad , A = some ad ∧ w.cell? (ad.add (i.toNat * 4)) = some (.string (rd_T24 xs i).f0) ∧ w.cell? ⟨(ad.add (i.toNat * 4)).block, (ad.add (i.toNat * 4)).off + 1, none⟩ = some (.string (rd_T24 xs i).f1) ∧ w.cell? ⟨(ad.add (i.toNat * 4)).block, (ad.add (i.toNat * 4)).off + 2, none⟩ = some (.int .i64 (rd_T24 xs i).f2) ∧ w.cell? ⟨(ad.add (i.toNat * 4)).block, (ad.add (i.toNat * 4)).off + 3, none⟩ = some (.int .i64 (rd_T24 xs i).f3) := by
  obtain ⟨ad, c, e, _, hK, hc0⟩ := Kd.C_get h z24 i h0 h1
  have hc : ∀ j u, c[j]? = some u → w.cell? (ad.add (i.toNat * 4 + j)) = some u := hc0
  obtain rfl := k24_open hK
  exact ⟨ad, e, hc 0 _ rfl, by rw [← add_field _ _ 1 (by omega)]; exact hc 1 _ rfl, by rw [← add_field _ _ 2 (by omega)]; exact hc 2 _ rfl, by rw [← add_field _ _ 3 (by omega)]; exact hc 3 _ rfl⟩
theorem ak {p : Prop} (h : p) : Aside0 p := ⟨h⟩
theorem bN {W : World} {g : Nat} {o : Obj} (h : W.heap[g]? = some o) (m : Nat) : (W.drewN m).heap[g]? = some o := blk_drewN h m
theorem bD {W : World} {g : Nat} {o : Obj} (h : W.heap[g]? = some o) : W.drew.heap[g]? = some o := blk_drew h
theorem bA {W : World} {g : Nat} {o : Obj} (h : W.heap[g]? = some o) (o' : Obj) : (W.alloc o').heap[g]? = some o := blk_alloc h o'
theorem wA {w W : World} (h : Below w.heap.size w W) (o : Obj) : Below w.heap.size w (W.alloc o) := below_alloc h o
theorem wN {B : Nat} {w W : World} (h : Below B w W) (n : Nat) : Below B w (W.drewN n) := pw_below_drewN h n
theorem wD {B : Nat} {w W : World} (h : Below B w W) : Below B w W.drew := below_drew1 h
end Go.Proofs.Ytpjcahjpjeiicaa.P
namespace Go.Proofs.Ytpjcahjpjeiicaa.P
open Go.RowKit Go.Proofs.YtpjcahjpjeiicaaW.PrintWords Go.Proofs.YtpjcahjpjeiicaaW.PrintLast Go.Proofs.YtpjcahjpjeiicaaW.PrintMore
attribute [local go_sem] max2_int min2_int max_two min_two max_three min_three max_four min_four   -- for this text's walks alone
set_option linter.unusedVariables false
set_option linter.unusedSimpArgs false
mutual
def mummerlaw11_far.j0 : Nat → List (S24) → List ByteArray → Bool → Option (Bool)
  | 0, _, _, _ => none
  | k + 1, x0, x1, x19 => if x19 = true then (some true) else (mummerlaw11_far.l0 k x0 x1 0)
def mummerlaw11_far.l0 : Nat → List (S24) → List ByteArray → Int → Option (Bool)
  | 0, _, _, _ => none
  | k + 1, x0, x1, x5 => if x5 < (x0.length : Int) then (if 0 ≤ x5 then (if (((rd_T24 x0 x5).f0).size : Int) > 150 then (some true) else (if (((rd_T24 x0 x5).f1).size : Int) > 150 then (some true) else (mummerlaw11_far.l0 k x0 x1 (wrap64 (x5 + 1))))) else (none)) else (mummerlaw11_far.l1 k x1 0)
def mummerlaw11_far.l1 : Nat → List ByteArray → Int → Option (Bool)
  | 0, _, _ => none
  | k + 1, x1, x6 => if x6 < (x1.length : Int) then (if 0 ≤ x6 then (if ((rdOf ByteArray.empty x1 x6).size : Int) > 150 then (some true) else (mummerlaw11_far.l1 k x1 (wrap64 (x6 + 1)))) else (none)) else (some false)
end
def mummerlaw11_far.f (k : Nat) (l0 : List (S24)) (l1 : List ByteArray) : Option (Bool) := if (l0.length : Int) > 60 then (if (l0.length : Int) ≤ 1000 then (mummerlaw11_far.j0 k l0 l1 true) else (mummerlaw11_far.j0 k l0 l1 (decide ((l0.length : Int) > 1005)))) else (mummerlaw11_far.j0 k l0 l1 (decide ((l0.length : Int) > 1005)))
set_option maxHeartbeats 8000000 in
set_option maxRecDepth 100000 in
theorem mummerlaw11_far.calls (k : Nat) (A0 : Option Addr) (c0 : Nat) (l0 : List (S24)) (A1 : Option Addr) (c1 : Nat) (l1 : List ByteArray) (r : Bool) (w : World) (hr0 : Kd.C k24 w A0 l0.length l0) (hc0 : l0.length ≤ c0) (hr1 : Kd.C Kd.string w A1 l1.length l1) (hc1 : l1.length ≤ c1) (h : mummerlaw11_far.f k l0 l1 = some r) :
    Calls Try.prog 10 #[.slice A0 l0.length c0, .slice A1 l1.length c1] w fun e w' => e = .returned (.bool r) ∧ Drawn0 w w' := by
  have HR0 := ak hr0
  have HC0 := ak hc0
  clear hr0 hc0
  have HR1 := ak hr1
  have HC1 := ak hc1
  clear hr1 hc1
  have H : (if (l0.length : Int) > 60 then (if (l0.length : Int) ≤ 1000 then (mummerlaw11_far.j0 k l0 l1 true) else (mummerlaw11_far.j0 k l0 l1 (decide ((l0.length : Int) > 1005)))) else (mummerlaw11_far.j0 k l0 l1 (decide ((l0.length : Int) > 1005)))) = some r := h
  clear h
  have HC3 := ak H
  clear H
  go_enter Try.func10, Try.ntmps10
  go_upto_region 1 with (fail)
  go_cut [19] (fun v19 wc => ∃ (kq : Nat) (x19_2 : Bool), v19 = .bool x19_2 ∧ Aside0 (mummerlaw11_far.j0 kq l0 l1 x19_2 = some r) ∧ Aside0 (kq ≤ k) ∧ Drawn0 w wc)
  case first =>
    have H := HC3.out
    clear HC3
    by_cases c4 : (l0.length : Int) > 60
    · rw [if_pos c4] at H
      have c4b0 : decide (60 < (l0.length : Int)) = true := decide_eq_true c4
      have c4b1 : decide (60 < l0.length) = true := decide_eq_true (by omega)
      clear c4
      (first | rw [c4b0] | (simp only [i64_w, i32_w]; rw [c4b0]) | skip)
      by_cases c5 : (l0.length : Int) ≤ 1000
      · rw [if_pos c5] at H
        have c5b0 : decide ((l0.length : Int) ≤ 1000) = true := decide_eq_true c5
        have c5b1 : decide (l0.length ≤ 1000) = true := decide_eq_true (by omega)
        clear c5
        have H' := ak H
        clear H
        go_wp2
        go_meet
        case rel => exact ⟨_, (true), (by first | rfl | (simp; done) | (simp [*]; done)), H', ⟨by first | omega | exact Nat.le_refl _⟩, by repeat (first | exact Drawn0.refl _ | apply Drawn0.step)⟩
      · rw [if_neg c5] at H
        have c5b0 : decide ((l0.length : Int) ≤ 1000) = false := decide_eq_false c5
        have c5b1 : decide (l0.length ≤ 1000) = false := decide_eq_false (by omega)
        clear c5
        have H' := ak H
        clear H
        go_wp2
        go_meet
        case rel => exact ⟨_, (decide ((l0.length : Int) > 1005)), (by first | rfl | (simp; done) | (simp [*]; done)), H', ⟨by first | omega | exact Nat.le_refl _⟩, by repeat (first | exact Drawn0.refl _ | apply Drawn0.step)⟩
    · rw [if_neg c4] at H
      have c4b0 : decide (60 < (l0.length : Int)) = false := decide_eq_false c4
      have c4b1 : decide (60 < l0.length) = false := decide_eq_false (by omega)
      clear c4
      (first | rw [c4b0] | (simp only [i64_w, i32_w]; rw [c4b0]) | skip)
      have H' := ak H
      clear H
      go_wp2
      go_meet
      case rel => exact ⟨_, (decide ((l0.length : Int) > 1005)), (by first | rfl | (simp; done) | (simp [*]; done)), H', ⟨by first | omega | exact Nat.le_refl _⟩, by repeat (first | exact Drawn0.refl _ | apply Drawn0.step)⟩
  case rest =>
    clear HC3
    try clear c1
    try clear p2
    try clear c4
    try clear c4b0
    try clear c4b1
    try clear c5
    try clear c5b0
    try clear c5b1
    obtain ⟨kq, x19_2, rfl, HA, HJ2, ⟨mc2, rfl⟩⟩ := hcut
    cases kq with
    | zero => exact absurd HA.out (by simp [mummerlaw11_far.j0])
    | succ kj2 =>
      have H := HA.out
      clear HA
      simp only [mummerlaw11_far.j0] at H
      by_cases c6 : x19_2 = true
      · subst c6
        have H1 : (some true) = some r := by rw [if_pos rfl] at H; exact H
        clear H
        have H := H1
        clear H1
        obtain rfl := Option.some.inj H
        go_wp2
        go_ret
        exact ⟨by first | rfl | (simp; done) | (simp [*]; done), by repeat (first | exact Drawn0.refl _ | apply Drawn0.step)⟩
      · replace c6 := Bool.eq_false_iff.mpr c6
        subst c6
        have H1 : (mummerlaw11_far.l0 kj2 l0 l1 0) = some r := by rw [if_neg (show ¬ (false = true) by decide)] at H; exact H
        clear H
        have H := H1
        clear H1
        have H' := ak H
        clear H
        go_wp2
        go_loopg [5] kj2 (fun kq v5 w' => ∃ (x5_2 : Int), v5 = .int .i64 x5_2 ∧ Aside0 (mummerlaw11_far.l0 kq l0 l1 x5_2 = some r) ∧ Aside0 (kq ≤ kj2) ∧ Drawn0 w w')
        case atStart => exact ⟨(0), (by first | rfl | (simp; done) | (simp [*]; done)), H', ⟨Nat.le_refl _⟩, by repeat (first | exact Drawn0.refl _ | apply Drawn0.step)⟩
        case round =>
          clear H'
          try clear c1
          try clear c2
          try clear p2
          try clear c4
          try clear c4b0
          try clear c4b1
          try clear c5
          try clear c5b0
          try clear c5b1
          try clear c6
          try clear p2
          obtain ⟨x5_2, rfl, HA, HK2, ⟨m2, rfl⟩⟩ := hrel
          cases gk with
          | zero => exact absurd HA.out (by simp [mummerlaw11_far.l0])
          | succ k2 =>
            have H := HA.out
            clear HA
            simp only [mummerlaw11_far.l0] at H
            by_cases c7 : x5_2 < (l0.length : Int)
            · rw [if_pos c7] at H
              have c7b0 : decide (x5_2 < (l0.length : Int)) = true := decide_eq_true c7
              clear c7
              by_cases c8 : 0 ≤ x5_2
              · rw [if_pos c8] at H
                have c8b0 : decide (0 ≤ x5_2) = true := decide_eq_true c8
                clear c8
                by_cases c9 : (((rd_T24 l0 x5_2).f0).size : Int) > 150
                · rw [if_pos c9] at H
                  have c9b0 : decide (150 < (((rd_T24 l0 x5_2).f0).size : Int)) = true := decide_eq_true c9
                  have c9b1 : decide (150 < ((rd_T24 l0 x5_2).f0).size) = true := decide_eq_true (by omega)
                  clear c9
                  obtain rfl := Option.some.inj H
                  have p101 : 0 ≤ (x5_2 : Int) := of_decide_eq_true (by first | (with_reducible assumption) | assumption)
                  have q101 : x5_2 < (l0.length : Int) := of_decide_eq_true (by first | (with_reducible assumption) | assumption)
                  obtain ⟨ad101, e101, hx101_0, hx101_1, hx101_2, hx101_3⟩ := at_T24 HR0.out x5_2 p101 q101
                  cases e101
                  replace p101 := eq_true p101
                  replace q101 := eq_true q101
                  go_wp2
                  go_ret
                  exact ⟨by first | rfl | (simp; done) | (simp [*]; done), by repeat (first | exact Drawn0.refl _ | apply Drawn0.step)⟩
                · rw [if_neg c9] at H
                  have c9b0 : decide (150 < (((rd_T24 l0 x5_2).f0).size : Int)) = false := decide_eq_false c9
                  have c9b1 : decide (150 < ((rd_T24 l0 x5_2).f0).size) = false := decide_eq_false (by omega)
                  clear c9
                  by_cases c10 : (((rd_T24 l0 x5_2).f1).size : Int) > 150
                  · rw [if_pos c10] at H
                    have c10b0 : decide (150 < (((rd_T24 l0 x5_2).f1).size : Int)) = true := decide_eq_true c10
                    have c10b1 : decide (150 < ((rd_T24 l0 x5_2).f1).size) = true := decide_eq_true (by omega)
                    clear c10
                    obtain rfl := Option.some.inj H
                    have p101 : 0 ≤ (x5_2 : Int) := of_decide_eq_true (by first | (with_reducible assumption) | assumption)
                    have q101 : x5_2 < (l0.length : Int) := of_decide_eq_true (by first | (with_reducible assumption) | assumption)
                    obtain ⟨ad101, e101, hx101_0, hx101_1, hx101_2, hx101_3⟩ := at_T24 HR0.out x5_2 p101 q101
                    cases e101
                    replace p101 := eq_true p101
                    replace q101 := eq_true q101
                    have p102 : 0 ≤ (x5_2 : Int) := of_decide_eq_true (by first | (with_reducible assumption) | assumption)
                    have q102 : x5_2 < (l0.length : Int) := of_decide_eq_true (by first | (with_reducible assumption) | assumption)
                    obtain ⟨ad102, e102, hx102_0, hx102_1, hx102_2, hx102_3⟩ := at_T24 HR0.out x5_2 p102 q102
                    obtain rfl : ad101 = ad102 := (by injection e102)
                    replace p102 := eq_true p102
                    replace q102 := eq_true q102
                    go_wp2
                    go_ret
                    exact ⟨by first | rfl | (simp; done) | (simp [*]; done), by repeat (first | exact Drawn0.refl _ | apply Drawn0.step)⟩
                  · rw [if_neg c10] at H
                    have c10b0 : decide (150 < (((rd_T24 l0 x5_2).f1).size : Int)) = false := decide_eq_false c10
                    have c10b1 : decide (150 < ((rd_T24 l0 x5_2).f1).size) = false := decide_eq_false (by omega)
                    clear c10
                    have H' := ak H
                    clear H
                    have p101 : 0 ≤ (x5_2 : Int) := of_decide_eq_true (by first | (with_reducible assumption) | assumption)
                    have q101 : x5_2 < (l0.length : Int) := of_decide_eq_true (by first | (with_reducible assumption) | assumption)
                    obtain ⟨ad101, e101, hx101_0, hx101_1, hx101_2, hx101_3⟩ := at_T24 HR0.out x5_2 p101 q101
                    cases e101
                    replace p101 := eq_true p101
                    replace q101 := eq_true q101
                    have p102 : 0 ≤ (x5_2 : Int) := of_decide_eq_true (by first | (with_reducible assumption) | assumption)
                    have q102 : x5_2 < (l0.length : Int) := of_decide_eq_true (by first | (with_reducible assumption) | assumption)
                    obtain ⟨ad102, e102, hx102_0, hx102_1, hx102_2, hx102_3⟩ := at_T24 HR0.out x5_2 p102 q102
                    obtain rfl : ad101 = ad102 := (by injection e102)
                    replace p102 := eq_true p102
                    replace q102 := eq_true q102
                    go_wp2
                    go_roundg k2
                    case measure => have := HJ2.out; have := HK2.out; omega
                    case rel => exact ⟨(wrap64 (x5_2 + 1)), (by first | rfl | (simp; done) | (simp [*]; done)), H', ⟨by have := HJ2.out; have := HK2.out; omega⟩, by repeat (first | exact Drawn0.refl _ | apply Drawn0.step)⟩
              · rw [if_neg c8] at H
                exact absurd H (by simp)
            · rw [if_neg c7] at H
              have c7b0 : decide (x5_2 < (l0.length : Int)) = false := decide_eq_false c7
              clear c7
              have H' := ak H
              clear H
              go_wp2
              go_loopg [6] k2 (fun kq v6 w' => ∃ (x6_3 : Int), v6 = .int .i64 x6_3 ∧ Aside0 (mummerlaw11_far.l1 kq l1 x6_3 = some r) ∧ Aside0 (kq ≤ k2) ∧ Drawn0 w w')
              case atStart => exact ⟨(0), (by first | rfl | (simp; done) | (simp [*]; done)), H', ⟨Nat.le_refl _⟩, by repeat (first | exact Drawn0.refl _ | apply Drawn0.step)⟩
              case round =>
                clear H'
                try clear c1
                try clear p1
                try clear q1
                try clear hx1
                try clear c2
                try clear p2
                try clear c4
                try clear c4b0
                try clear c4b1
                try clear c5
                try clear c5b0
                try clear c5b1
                try clear c6
                try clear p6
                try clear c7
                try clear c7b0
                try clear c8
                try clear c8b0
                try clear c9
                try clear c9b0
                try clear c9b1
                try clear c10
                try clear c10b0
                try clear c10b1
                try clear p10
                try clear q10
                try clear hx10
                try clear hx101_0
                try clear hx101_1
                try clear hx101_2
                try clear hx101_3
                try clear hx102_0
                try clear hx102_1
                try clear hx102_2
                try clear hx102_3
                try clear p101
                try clear p102
                try clear p2
                try clear q101
                try clear q102
                obtain ⟨x6_3, rfl, HA, HK3, ⟨m3, rfl⟩⟩ := hrel
                cases gk with
                | zero => exact absurd HA.out (by simp [mummerlaw11_far.l1])
                | succ k3 =>
                  have H := HA.out
                  clear HA
                  simp only [mummerlaw11_far.l1] at H
                  by_cases c11 : x6_3 < (l1.length : Int)
                  · rw [if_pos c11] at H
                    have c11b0 : decide (x6_3 < (l1.length : Int)) = true := decide_eq_true c11
                    clear c11
                    by_cases c12 : 0 ≤ x6_3
                    · rw [if_pos c12] at H
                      have c12b0 : decide (0 ≤ x6_3) = true := decide_eq_true c12
                      clear c12
                      by_cases c13 : ((rdOf ByteArray.empty l1 x6_3).size : Int) > 150
                      · rw [if_pos c13] at H
                        have c13b0 : decide (150 < ((rdOf ByteArray.empty l1 x6_3).size : Int)) = true := decide_eq_true c13
                        have c13b1 : decide (150 < (rdOf ByteArray.empty l1 x6_3).size) = true := decide_eq_true (by omega)
                        clear c13
                        obtain rfl := Option.some.inj H
                        have p103 : 0 ≤ (x6_3 : Int) := of_decide_eq_true (by first | (with_reducible assumption) | assumption)
                        have q103 : x6_3 < (l1.length : Int) := of_decide_eq_true (by first | (with_reducible assumption) | assumption)
                        obtain ⟨ad103, e103, hx103_0⟩ := Kd.at_string HR1.out x6_3 p103 q103
                        cases e103
                        replace p103 := eq_true p103
                        replace q103 := eq_true q103
                        go_wp2
                        go_ret
                        exact ⟨by first | rfl | (simp; done) | (simp [*]; done), by repeat (first | exact Drawn0.refl _ | apply Drawn0.step)⟩
                      · rw [if_neg c13] at H
                        have c13b0 : decide (150 < ((rdOf ByteArray.empty l1 x6_3).size : Int)) = false := decide_eq_false c13
                        have c13b1 : decide (150 < (rdOf ByteArray.empty l1 x6_3).size) = false := decide_eq_false (by omega)
                        clear c13
                        have H' := ak H
                        clear H
                        have p103 : 0 ≤ (x6_3 : Int) := of_decide_eq_true (by first | (with_reducible assumption) | assumption)
                        have q103 : x6_3 < (l1.length : Int) := of_decide_eq_true (by first | (with_reducible assumption) | assumption)
                        obtain ⟨ad103, e103, hx103_0⟩ := Kd.at_string HR1.out x6_3 p103 q103
                        cases e103
                        replace p103 := eq_true p103
                        replace q103 := eq_true q103
                        go_wp2
                        go_roundg k3
                        case measure => have := HJ2.out; have := HK2.out; have := HK3.out; omega
                        case rel => exact ⟨(wrap64 (x6_3 + 1)), (by first | rfl | (simp; done) | (simp [*]; done)), H', ⟨by have := HJ2.out; have := HK2.out; have := HK3.out; omega⟩, by repeat (first | exact Drawn0.refl _ | apply Drawn0.step)⟩
                    · rw [if_neg c12] at H
                      exact absurd H (by simp)
                  · rw [if_neg c11] at H
                    have c11b0 : decide (x6_3 < (l1.length : Int)) = false := decide_eq_false c11
                    clear c11
                    obtain rfl := Option.some.inj H
                    go_wp2
                    go_ret
                    exact ⟨by first | rfl | (simp; done) | (simp [*]; done), by repeat (first | exact Drawn0.refl _ | apply Drawn0.step)⟩
end Go.Proofs.Ytpjcahjpjeiicaa.P
namespace Go.Proofs.Ytpjcahjpjeiicaa.P
open Go.RowKit Go.Proofs.YtpjcahjpjeiicaaW.PrintWords Go.Proofs.YtpjcahjpjeiicaaW.PrintLast Go.Proofs.YtpjcahjpjeiicaaW.PrintMore
attribute [local go_sem] max2_int min2_int max_two min_two max_three min_three max_four min_four   -- for this text's walks alone
set_option linter.unusedVariables false
set_option linter.unusedSimpArgs false
def mummerref11_Ints.l0 : Nat → List Int → List Int → Int → Option (Bool)
  | 0, _, _, _ => none
  | k + 1, x0, x1, x5 => if x5 < (x0.length : Int) then (if 0 ≤ x5 then (if x5 < (x1.length : Int) then (if (rd x0 x5) = (rd x1 x5) then (mummerref11_Ints.l0 k x0 x1 (wrap64 (x5 + 1))) else (some false)) else (none)) else (none)) else (some true)
def mummerref11_Ints.f (k : Nat) (l0 : List Int) (l1 : List Int) : Option (Bool) := if (l0.length : Int) = (l1.length : Int) then (mummerref11_Ints.l0 k l0 l1 0) else (some false)
set_option maxHeartbeats 8000000 in
set_option maxRecDepth 100000 in
theorem mummerref11_Ints.calls (k : Nat) (A0 : Option Addr) (c0 : Nat) (l0 : List Int) (A1 : Option Addr) (c1 : Nat) (l1 : List Int) (r : Bool) (w : World) (hr0 : Kd.C (Kd.int .i64) w A0 l0.length l0) (hc0 : l0.length ≤ c0) (hr1 : Kd.C (Kd.int .i64) w A1 l1.length l1) (hc1 : l1.length ≤ c1) (h : mummerref11_Ints.f k l0 l1 = some r) :
    Calls Try.prog 21 #[.slice A0 l0.length c0, .slice A1 l1.length c1] w fun e w' => e = .returned (.bool r) ∧ Drawn0 w w' := by
  have HR0 := ak hr0
  have HC0 := ak hc0
  clear hr0 hc0
  have HR1 := ak hr1
  have HC1 := ak hc1
  clear hr1 hc1
  have H : (if (l0.length : Int) = (l1.length : Int) then (mummerref11_Ints.l0 k l0 l1 0) else (some false)) = some r := h
  clear h
  by_cases c3 : (l0.length : Int) = (l1.length : Int)
  · rw [if_pos c3] at H
    have c3b0 : ((l0.length : Int) == (l1.length : Int)) = true := beq_iff_eq.mpr c3
    have c3b1 : ((l0.length : Int) != (l1.length : Int)) = false := bne_eq_false_iff_eq.mpr c3
    have c3b2 : (l0.length == l1.length) = true := by first | simpa using c3 | (simp at c3 ⊢; omega)
    clear c3
    have H' := ak H
    clear H
    go_enter Try.func21, Try.ntmps21
    go_wp2
    repeat (go_quiet (fail); try go_wp2)
    go_loopg [5] k (fun kq v5 w' => ∃ (x5_1 : Int), v5 = .int .i64 x5_1 ∧ Aside0 (mummerref11_Ints.l0 kq l0 l1 x5_1 = some r) ∧ Aside0 (kq ≤ k) ∧ Drawn0 w w')
    case atStart => exact ⟨(0), (by first | rfl | (simp; done) | (simp [*]; done)), H', ⟨Nat.le_refl _⟩, by repeat (first | exact Drawn0.refl _ | apply Drawn0.step)⟩
    case round =>
      clear H'
      try clear c1
      try clear c2
      try clear p2
      try clear c3
      try clear c3b0
      try clear c3b1
      try clear c3b2
      obtain ⟨x5_1, rfl, HA, HK1, ⟨m1, rfl⟩⟩ := hrel
      cases gk with
      | zero => exact absurd HA.out (by simp [mummerref11_Ints.l0])
      | succ k1 =>
        have H := HA.out
        clear HA
        simp only [mummerref11_Ints.l0] at H
        by_cases c4 : x5_1 < (l0.length : Int)
        · rw [if_pos c4] at H
          have c4b0 : decide (x5_1 < (l0.length : Int)) = true := decide_eq_true c4
          clear c4
          by_cases c5 : 0 ≤ x5_1
          · rw [if_pos c5] at H
            have c5b0 : decide (0 ≤ x5_1) = true := decide_eq_true c5
            clear c5
            by_cases c6 : x5_1 < (l1.length : Int)
            · rw [if_pos c6] at H
              have c6b0 : decide (x5_1 < (l1.length : Int)) = true := decide_eq_true c6
              clear c6
              by_cases c7 : (rd l0 x5_1) = (rd l1 x5_1)
              · rw [if_pos c7] at H
                have c7b0 : ((rd l0 x5_1) == (rd l1 x5_1)) = true := beq_iff_eq.mpr c7
                have c7b1 : ((rd l0 x5_1) != (rd l1 x5_1)) = false := bne_eq_false_iff_eq.mpr c7
                clear c7
                have H' := ak H
                clear H
                have p184 : 0 ≤ (x5_1 : Int) := of_decide_eq_true (by first | (with_reducible assumption) | assumption)
                have q184 : x5_1 < (l0.length : Int) := of_decide_eq_true (by first | (with_reducible assumption) | assumption)
                obtain ⟨ad184, e184, hx184_0⟩ := Kd.at_int HR0.out x5_1 p184 q184
                cases e184
                replace p184 := eq_true p184
                replace q184 := eq_true q184
                have p185 : 0 ≤ (x5_1 : Int) := of_decide_eq_true (by first | (with_reducible assumption) | assumption)
                have q185 : x5_1 < (l1.length : Int) := of_decide_eq_true (by first | (with_reducible assumption) | assumption)
                obtain ⟨ad185, e185, hx185_0⟩ := Kd.at_int HR1.out x5_1 p185 q185
                cases e185
                replace p185 := eq_true p185
                replace q185 := eq_true q185
                go_wp2
                repeat (go_quiet (fail); try go_wp2)
                go_roundg k1
                case measure => have := HK1.out; omega
                case rel => exact ⟨(wrap64 (x5_1 + 1)), (by first | rfl | (simp; done) | (simp [*]; done)), H', ⟨by have := HK1.out; omega⟩, by repeat (first | exact Drawn0.refl _ | apply Drawn0.step)⟩
              · rw [if_neg c7] at H
                have c7b0 : ((rd l0 x5_1) == (rd l1 x5_1)) = false := beq_eq_false_iff_ne.mpr c7
                have c7b1 : ((rd l0 x5_1) != (rd l1 x5_1)) = true := bne_iff_ne.mpr c7
                obtain rfl := Option.some.inj H
                have p184 : 0 ≤ (x5_1 : Int) := of_decide_eq_true (by first | (with_reducible assumption) | assumption)
                have q184 : x5_1 < (l0.length : Int) := of_decide_eq_true (by first | (with_reducible assumption) | assumption)
                obtain ⟨ad184, e184, hx184_0⟩ := Kd.at_int HR0.out x5_1 p184 q184
                cases e184
                replace p184 := eq_true p184
                replace q184 := eq_true q184
                have p185 : 0 ≤ (x5_1 : Int) := of_decide_eq_true (by first | (with_reducible assumption) | assumption)
                have q185 : x5_1 < (l1.length : Int) := of_decide_eq_true (by first | (with_reducible assumption) | assumption)
                obtain ⟨ad185, e185, hx185_0⟩ := Kd.at_int HR1.out x5_1 p185 q185
                cases e185
                replace p185 := eq_true p185
                replace q185 := eq_true q185
                go_wp2
                repeat (go_quiet (fail); try go_wp2)
                go_ret
                exact ⟨by first | rfl | (simp; done) | (simp [*]; done), by repeat (first | exact Drawn0.refl _ | apply Drawn0.step)⟩
            · rw [if_neg c6] at H
              exact absurd H (by simp)
          · rw [if_neg c5] at H
            exact absurd H (by simp)
        · rw [if_neg c4] at H
          have c4b0 : decide (x5_1 < (l0.length : Int)) = false := decide_eq_false c4
          clear c4
          obtain rfl := Option.some.inj H
          go_wp2
          repeat (go_quiet (fail); try go_wp2)
          go_ret
          exact ⟨by first | rfl | (simp; done) | (simp [*]; done), by repeat (first | exact Drawn0.refl _ | apply Drawn0.step)⟩
  · rw [if_neg c3] at H
    have c3b0 : ((l0.length : Int) == (l1.length : Int)) = false := beq_eq_false_iff_ne.mpr c3
    have c3b1 : ((l0.length : Int) != (l1.length : Int)) = true := bne_iff_ne.mpr c3
    have c3b2 : (l0.length == l1.length) = false := by first | simpa using c3 | (simp at c3 ⊢; omega)
    obtain rfl := Option.some.inj H
    go_enter Try.func21, Try.ntmps21
    go_wp2
    repeat (go_quiet (fail); try go_wp2)
    go_ret
    exact ⟨by first | rfl | (simp; done) | (simp [*]; done), by repeat (first | exact Drawn0.refl _ | apply Drawn0.step)⟩
end Go.Proofs.Ytpjcahjpjeiicaa.P
namespace Go.Proofs.Ytpjcahjpjeiicaa.P
open Go.RowKit Go.Proofs.YtpjcahjpjeiicaaW.PrintWords Go.Proofs.YtpjcahjpjeiicaaW.PrintLast Go.Proofs.YtpjcahjpjeiicaaW.PrintMore
attribute [local go_sem] max2_int min2_int max_two min_two max_three min_three max_four min_four   -- for this text's walks alone
set_option linter.unusedVariables false
set_option linter.unusedSimpArgs false
theorem eqA24 (d : Nat) (w : World) (x0 y0 : ByteArray) (x1 y1 : ByteArray) (x2 y2 : Int) (x3 y3 : Int) :
    (Op.equalIn (d + 2) 24 (.agg #[.string x0, .string x1, .int .i64 x2, .int .i64 x3]) (.agg #[.string y0, .string y1, .int .i64 y2, .int .i64 y3])).run Try.prog w = .ok (x0.toList == y0.toList && (x1.toList == y1.toList && (x2 == y2 && (x3 == y3)))) w := by
  refine eqA_of Try.underlying24 (by kernel_rfl) ?_
  refine eqf_cons (by rfl) (by go_simp; rfl) (by go_simp; rfl) (by go_simp) ?_
  refine eqf_cons (by rfl) (by go_simp; rfl) (by go_simp; rfl) (by go_simp) ?_
  refine eqf_cons (by rfl) (by go_simp; rfl) (by go_simp; rfl) (by go_simp) ?_
  exact eqf_last (by rfl) (by go_simp; rfl) (by go_simp; rfl) (by go_simp)
end Go.Proofs.Ytpjcahjpjeiicaa.P
namespace Go.Proofs.Ytpjcahjpjeiicaa.P
open Go.RowKit Go.Proofs.YtpjcahjpjeiicaaW.PrintWords Go.Proofs.YtpjcahjpjeiicaaW.PrintLast Go.Proofs.YtpjcahjpjeiicaaW.PrintMore
attribute [local go_sem] max2_int min2_int max_two min_two max_three min_three max_four min_four   -- for this text's walks alone
set_option linter.unusedVariables false
set_option linter.unusedSimpArgs false
def scopes_Ids.f (a0 : ByteArray) : Option (List Int × Int) := if a0.size ≤ 9223372036854775807 then some (Sc.Ids_p a0) else none
theorem scopes_Ids.calls (a0 : ByteArray) (r1 : List Int) (r2 : Int) (w : World) (h : scopes_Ids.f a0 = some (r1, r2)) :
    Calls Try.prog 54 #[.string a0] w fun e w' => ∃ v0_ : Value, e = .returned (.tuple #[v0_, .int .i64 r2]) ∧ Kd.R (Kd.int .i64) 3 w' w.heap.size (fun _ => True) v0_ r1 ∧ Below w.heap.size w w' := by
  unfold scopes_Ids.f at h
  by_cases hs : a0.size ≤ 9223372036854775807
  · rw [if_pos hs] at h
    have h' := Option.some.inj h
    have h1 : (Sc.Ids_p a0).1 = r1 := by rw [h']
    have h2 : (Sc.Ids_p a0).2 = r2 := by rw [h']
    subst h1; subst h2
    exact (callsIn_wide.1 (Sc.ids_in a0 hs w)).mono fun e W' ⟨v, he, hrow, hb⟩ => ⟨v, he, Kd.R_of_own hrow (fun _ _ => trivial), hb⟩
  · rw [if_neg hs] at h; cases h
end Go.Proofs.Ytpjcahjpjeiicaa.P
namespace Go.Proofs.Ytpjcahjpjeiicaa.P
open Go.RowKit Go.Proofs.YtpjcahjpjeiicaaW.PrintWords Go.Proofs.YtpjcahjpjeiicaaW.PrintLast Go.Proofs.YtpjcahjpjeiicaaW.PrintMore
attribute [local go_sem] max2_int min2_int max_two min_two max_three min_three max_four min_four   -- for this text's walks alone
set_option linter.unusedVariables false
set_option linter.unusedSimpArgs false
def scopes_merge.l0 : Nat → List Int → List Int → List Int → List Int → List Int → Option (List Int × List Int × List Int × Int)
  | 0, _, _, _, _, _ => none
  | k + 1, x4, x5, x6, x8, x9 => if (x8.length : Int) = 0 then (if x6.length + x9.length < 17592186044416 then (some (x4, x5, (x6 ++ x9), 0)) else (none)) else (if (x9.length : Int) = 0 then (if x4.length + x8.length < 17592186044416 then (some ((x4 ++ x8), x5, x6, 0)) else (none)) else (if 0 < (x8.length : Int) then (if 0 < (x9.length : Int) then (if (rd x8 0) < (rd x9 0) then (if x4.length < 17592186044416 then (if 1 ≤ (x8.length : Int) then (scopes_merge.l0 k (x4 ++ [rd x8 0]) x5 x6 (x8.drop (1 : Int).toNat) x9) else (none)) else (none)) else (if (rd x8 0) > (rd x9 0) then (if x6.length < 17592186044416 then (if 1 ≤ (x9.length : Int) then (scopes_merge.l0 k x4 x5 (x6 ++ [rd x9 0]) x8 (x9.drop (1 : Int).toNat)) else (none)) else (none)) else (if x5.length < 17592186044416 then (if 1 ≤ (x8.length : Int) then (if 1 ≤ (x9.length : Int) then (scopes_merge.l0 k x4 (x5 ++ [rd x8 0]) x6 (x8.drop (1 : Int).toNat) (x9.drop (1 : Int).toNat)) else (none)) else (none)) else (none)))) else (none)) else (none)))
def scopes_merge.f (k : Nat) (a0 : ByteArray) (a1 : ByteArray) : Option (List Int × List Int × List Int × Int) := (scopes_Ids.f a0).bind fun bt122 => (if bt122.2 = 0 then ((scopes_Ids.f a1).bind fun bt126 => (if bt126.2 = 0 then (scopes_merge.l0 k ([] : List Int) ([] : List Int) ([] : List Int) bt122.1 bt126.1) else (some (([] : List Int), ([] : List Int), ([] : List Int), bt126.2)))) else (some (([] : List Int), ([] : List Int), ([] : List Int), bt122.2)))
def scopes_merge.T7 : Bool × List (List Nat × List Nat) := (true, [([], []), ([], []), ([1], [1]), ([2], [2]), ([3], [3]), ([0, 4], [0, 4]), ([], []), ([6], [6]), ([], []), ([8], [8]), ([5, 5, 0, 1, 2, 3, 4, 5], [0, 5]), ([7, 10, 0, 1, 2, 3, 4, 5, 6, 7, 10], [1, 6, 7]), ([9, 11, 0, 1, 2, 3, 4, 5, 6, 7, 8, 9, 10, 11], [8, 9])])
def scopes_merge.B7 : List Nat := [0, 0, 2, 6, 14, 31, 0, 64, 0, 256, 63, 1279, 4095]
theorem scopes_merge.tab7 : rtab .any (opsOf Try.f48 7) = scopes_merge.T7 := by kernel_rfl
theorem scopes_merge.bits7 : waitsOk scopes_merge.T7.2 scopes_merge.B7 = true := by kernel_rfl
def scopes_merge.T12 : Bool × List (List Nat × List Nat) := (true, [([], []), ([0], [0]), ([1], [1]), ([], []), ([3], [3]), ([4], [4]), ([2, 5], [2, 5]), ([6], [6])])
def scopes_merge.B12 : List Nat := [0, 1, 3, 0, 8, 24, 63, 127]
theorem scopes_merge.tab12 : rtab .any (opsOf Try.f48 12) = scopes_merge.T12 := by kernel_rfl
theorem scopes_merge.bits12 : waitsOk scopes_merge.T12.2 scopes_merge.B12 = true := by kernel_rfl
def scopes_merge.T13 : Bool × List (List Nat × List Nat) := (true, [([], []), ([], []), ([1], [1]), ([2], [2]), ([3], [3]), ([0, 4], [0, 4]), ([], []), ([6], [6]), ([5, 5, 0, 1, 2, 3, 4, 5], [0, 5]), ([7, 8, 0, 1, 2, 3, 4, 5, 6, 7, 8], [1, 6, 7])])
def scopes_merge.B13 : List Nat := [0, 0, 2, 6, 14, 31, 0, 64, 63, 511]
theorem scopes_merge.tab13 : rtab .any (opsOf Try.f48 13) = scopes_merge.T13 := by kernel_rfl
theorem scopes_merge.bits13 : waitsOk scopes_merge.T13.2 scopes_merge.B13 = true := by kernel_rfl
def scopes_merge.T14 : Bool × List (List Nat × List Nat) := (true, [([], []), ([0], [0]), ([1], [1]), ([], []), ([3], [3]), ([4], [4]), ([2, 5], [2, 5]), ([6], [6])])
def scopes_merge.B14 : List Nat := [0, 1, 3, 0, 8, 24, 63, 127]
theorem scopes_merge.tab14 : rtab .any (opsOf Try.f48 14) = scopes_merge.T14 := by kernel_rfl
theorem scopes_merge.bits14 : waitsOk scopes_merge.T14.2 scopes_merge.B14 = true := by kernel_rfl
def scopes_merge.T15 : Bool × List (List Nat × List Nat) := (true, [([], []), ([], []), ([1], [1]), ([2], [2]), ([3], [3]), ([0, 4], [0, 4]), ([], []), ([6], [6]), ([5, 5, 0, 1, 2, 3, 4, 5], [0, 5]), ([7, 8, 0, 1, 2, 3, 4, 5, 6, 7, 8], [1, 6, 7])])
def scopes_merge.B15 : List Nat := [0, 0, 2, 6, 14, 31, 0, 64, 63, 511]
theorem scopes_merge.tab15 : rtab .any (opsOf Try.f48 15) = scopes_merge.T15 := by kernel_rfl
theorem scopes_merge.bits15 : waitsOk scopes_merge.T15.2 scopes_merge.B15 = true := by kernel_rfl
set_option maxHeartbeats 8000000 in
set_option maxRecDepth 100000 in
theorem scopes_merge.calls (k : Nat) (a0 : ByteArray) (a1 : ByteArray) (r1 : List Int) (r2 : List Int) (r3 : List Int) (r4 : Int) (w : World) (h : scopes_merge.f k a0 a1 = some (r1, r2, r3, r4)) :
    Calls Try.prog 48 #[.string a0, .string a1] w fun e w' => ∃ v0_ v1_ v2_ : Value, e = .returned (.tuple #[v0_, v1_, v2_, .int .i64 r4]) ∧ Kd.R (Kd.int .i64) 3 w' w.heap.size (fun k_ => some k_ ≠ (v1_ : Value).ownBlock ∧ some k_ ≠ (v2_ : Value).ownBlock) v0_ r1 ∧ Kd.R (Kd.int .i64) 3 w' w.heap.size (fun k_ => some k_ ≠ (v0_ : Value).ownBlock ∧ some k_ ≠ (v2_ : Value).ownBlock) v1_ r2 ∧ Kd.R (Kd.int .i64) 3 w' w.heap.size (fun k_ => some k_ ≠ (v0_ : Value).ownBlock ∧ some k_ ≠ (v1_ : Value).ownBlock) v2_ r3 ∧ Below w.heap.size w w' := by
  have HB := ak (Below.refl w.heap.size w)
  have H : ((scopes_Ids.f a0).bind fun bt122 => (if bt122.2 = 0 then ((scopes_Ids.f a1).bind fun bt126 => (if bt126.2 = 0 then (scopes_merge.l0 k ([] : List Int) ([] : List Int) ([] : List Int) bt122.1 bt126.1) else (some (([] : List Int), ([] : List Int), ([] : List Int), bt126.2)))) else (some (([] : List Int), ([] : List Int), ([] : List Int), bt122.2)))) = some (r1, r2, r3, r4) := h
  clear h
  replace H := Option.bind_eq_some_iff.mp H
  obtain ⟨⟨t122, t123⟩, A30, H⟩ := H
  replace H : (if t123 = 0 then ((scopes_Ids.f a1).bind fun bt126 => (if bt126.2 = 0 then (scopes_merge.l0 k ([] : List Int) ([] : List Int) ([] : List Int) t122 bt126.1) else (some (([] : List Int), ([] : List Int), ([] : List Int), bt126.2)))) else (some (([] : List Int), ([] : List Int), ([] : List Int), t123))) = some (r1, r2, r3, r4) := H
  have A3 := ak A30
  clear A30
  by_cases c4 : t123 = 0
  · rw [if_pos c4] at H
    have c4b0 : (t123 == 0) = true := beq_iff_eq.mpr c4
    have c4b1 : (t123 != 0) = false := bne_eq_false_iff_eq.mpr c4
    clear c4
    replace H := Option.bind_eq_some_iff.mp H
    obtain ⟨⟨t126, t127⟩, A50, H⟩ := H
    replace H : (if t127 = 0 then (scopes_merge.l0 k ([] : List Int) ([] : List Int) ([] : List Int) t122 t126) else (some (([] : List Int), ([] : List Int), ([] : List Int), t127))) = some (r1, r2, r3, r4) := H
    have A5 := ak A50
    clear A50
    by_cases c6 : t127 = 0
    · rw [if_pos c6] at H
      have c6b0 : (t127 == 0) = true := beq_iff_eq.mpr c6
      have c6b1 : (t127 != 0) = false := bne_eq_false_iff_eq.mpr c6
      clear c6
      have H' := ak H
      clear H
      go_enter Try.func48, Try.ntmps48
      go_wp2
      refine Sc.wp_scope_ghost 0 (by rfl) (fun _ _ _ h => h) (fun gk_ a_ w_ => ∃ (u2 u3 u4 u5 u6 u7 u8 u9 u10 u11 u12 u13 u14 u15 u16 u17 u18 u19 u20 u21 u22 u23 u24 u25 u26 u27 u28 u29 u30 u31 u32 u33 u34 u35 u36 u37 u38 u39 u40 u41 u42 u43 u44 u45 u46 u47 u48 u49 u50 u51 u52 u53 u54 u55 u56 u57 u58 u59 u60 u61 u62 u63 u64 u65 u66 u67 u68 u69 u70 u71 u72 u73 u74 u75 u76 u77 u78 u79 u80 u81 u82 u83 u84 u85 : Value), (fun kq v4 v5 v6 v8 v9 w' => ∃ (x4_1 : List Int) (x5_1 : List Int) (x6_1 : List Int) (x8_1 : List Int) (x9_1 : List Int), Aside0 (scopes_merge.l0 kq x4_1 x5_1 x6_1 x8_1 x9_1 = some (r1, r2, r3, r4)) ∧ Aside0 (kq ≤ k) ∧ Aside0 (Kd.R (Kd.int .i64) 3 w' w.heap.size (fun k_ => some k_ ≠ (v5 : Value).ownBlock ∧ some k_ ≠ (v6 : Value).ownBlock ∧ some k_ ≠ (v8 : Value).ownBlock ∧ some k_ ≠ (v9 : Value).ownBlock) v4 x4_1) ∧ Aside0 (Kd.R (Kd.int .i64) 3 w' w.heap.size (fun k_ => some k_ ≠ (v4 : Value).ownBlock ∧ some k_ ≠ (v6 : Value).ownBlock ∧ some k_ ≠ (v8 : Value).ownBlock ∧ some k_ ≠ (v9 : Value).ownBlock) v5 x5_1) ∧ Aside0 (Kd.R (Kd.int .i64) 3 w' w.heap.size (fun k_ => some k_ ≠ (v4 : Value).ownBlock ∧ some k_ ≠ (v5 : Value).ownBlock ∧ some k_ ≠ (v8 : Value).ownBlock ∧ some k_ ≠ (v9 : Value).ownBlock) v6 x6_1) ∧ Aside0 (Kd.Q (Kd.int .i64) 3 w' w.heap.size (fun k_ => some k_ ≠ (v4 : Value).ownBlock ∧ some k_ ≠ (v5 : Value).ownBlock ∧ some k_ ≠ (v6 : Value).ownBlock ∧ some k_ ≠ (v9 : Value).ownBlock) v8 x8_1) ∧ Aside0 (Kd.Q (Kd.int .i64) 3 w' w.heap.size (fun k_ => some k_ ≠ (v4 : Value).ownBlock ∧ some k_ ≠ (v5 : Value).ownBlock ∧ some k_ ≠ (v6 : Value).ownBlock ∧ some k_ ≠ (v8 : Value).ownBlock) v9 x9_1) ∧ Aside0 (Below w.heap.size w w')) gk_ u4 u5 u6 u8 u9 w_ ∧ a_ = { tmps := #[.string a0, .string a1, u2, u3, u4, u5, u6, u7, u8, u9, u10, u11, u12, u13, u14, u15, u16, u17, u18, u19, u20, u21, u22, u23, u24, u25, u26, u27, u28, u29, u30, u31, u32, u33, u34, u35, u36, u37, u38, u39, u40, u41, u42, u43, u44, u45, u46, u47, u48, u49, u50, u51, u52, u53, u54, u55, u56, u57, u58, u59, u60, u61, u62, u63, u64, u65, u66, u67, u68, u69, u70, u71, u72, u73, u74, u75, u76, u77, u78, u79, u80, u81, u82, u83, u84, u85], defers := [] }) ?round ?first
      case first =>
        intro S_ hS_
        go_wp2_with (first | ((with_reducible refine gate_callee (f := 54) rfl ?_); refine goesL_ (some 12) rfl rfl Try.func54 (by kernel_rfl) rfl #[.string a0] rfl (by (try simp only [List.map_toArray, List.map_cons, List.map_nil]); first | done | rfl | (simp only [List.length_drop, List.length_take]; rfl)) ?_; (with_reducible refine (scopes_Ids.calls a0 t122 t123 _ A3.out).mono ?_); rintro e w7 ⟨v124, rfl, ho0, hb⟩; refine ⟨_, rfl, ?_⟩; have n0_ := ak (Kd.R_lower ho0 (below_size (by repeat (first | (with_reducible first | exact HB.out | apply wA | apply wN | apply wD) | exact HB.out)))); have n1_ := ak (below_step (by repeat (first | (with_reducible first | exact HB.out | apply wA | apply wN | apply wD) | exact HB.out)) hb); clear HB; have HO125 := n0_; have HB := n1_; clear n0_ n1_; (try clear hb); (try clear hb2); (try clear hk); (try clear hi); (try clear ho0)) | ((with_reducible refine gate_callee (f := 54) rfl ?_); refine goesL_ (some 20) rfl rfl Try.func54 (by kernel_rfl) rfl #[.string a1] rfl (by (try simp only [List.map_toArray, List.map_cons, List.map_nil]); first | done | rfl | (simp only [List.length_drop, List.length_take]; rfl)) ?_; (with_reducible refine (scopes_Ids.calls a1 t126 t127 _ A5.out).mono ?_); rintro e w8 ⟨v128, rfl, ho0, hb⟩; refine ⟨_, rfl, ?_⟩; have n0_ := ak (Kd.R_elder' (by (with_reducible repeat (first | apply Kd.R_alloc | apply Kd.R_drewN | apply Kd.R_drew)); exact HO125.out) (Kd.R_base ho0) hb); have n1_ := ak (Kd.R_lower (Kd.R_new' ho0 (Kd.R_lt (by (with_reducible repeat (first | apply Kd.R_alloc | apply Kd.R_drewN | apply Kd.R_drew)); exact HO125.out))) (below_size (by repeat (first | (with_reducible first | exact HB.out | apply wA | apply wN | apply wD) | exact HB.out)))); have n2_ := ak (below_step (by repeat (first | (with_reducible first | exact HB.out | apply wA | apply wN | apply wD) | exact HB.out)) hb); clear HO125; clear HB; have HO125 := n0_; have HO129 := n1_; have HB := n2_; clear n0_ n1_ n2_; (try clear hb); (try clear hb2); (try clear hk); (try clear hi); (try clear ho0)))
        rename_i hK_
        refine wp_label (hK_ _ _ (hS_ k _ _ ?_))
        (repeat apply Exists.intro)
        refine ⟨?_, rfl⟩
        exact ⟨(([] : List Int)), (([] : List Int)), (([] : List Int)), (t122), (t126), H', ⟨Nat.le_refl _⟩, ⟨by first | exact Kd.R_nil _ _ _ _ _ | exact Kd.N_nil _ _ _ _ _ | exact Kd.V_nil _ _ _ _ _ | exact Kd.Q_nil _ _ _ _ _ | exact Kd.S_nil _ _ _ _ _⟩, ⟨by first | exact Kd.R_nil _ _ _ _ _ | exact Kd.N_nil _ _ _ _ _ | exact Kd.V_nil _ _ _ _ _ | exact Kd.Q_nil _ _ _ _ _ | exact Kd.S_nil _ _ _ _ _⟩, ⟨by first | exact Kd.R_nil _ _ _ _ _ | exact Kd.N_nil _ _ _ _ _ | exact Kd.V_nil _ _ _ _ _ | exact Kd.Q_nil _ _ _ _ _ | exact Kd.S_nil _ _ _ _ _⟩, ⟨Kd.Q_of_R (by (with_reducible repeat (first | apply Kd.R_alloc | apply Kd.R_drewN | apply Kd.R_drew)); exact Kd.R_mono HO125.out (fun _ hk => ⟨(by simp [Value.ownBlock]), ⟨(by simp [Value.ownBlock]), ⟨(by simp [Value.ownBlock]), hk.2⟩⟩⟩))⟩, ⟨Kd.Q_of_R (by (with_reducible repeat (first | apply Kd.R_alloc | apply Kd.R_drewN | apply Kd.R_drew)); exact Kd.R_mono HO129.out (fun _ hk => ⟨(by simp [Value.ownBlock]), ⟨(by simp [Value.ownBlock]), ⟨(by simp [Value.ownBlock]), hk.2⟩⟩⟩))⟩, ⟨by repeat (first | (with_reducible first | exact HB.out | apply wA | apply wN | apply wD) | exact HB.out)⟩⟩
      case round =>
        intro gk _ wr hinv
        obtain ⟨u2, u3, u4, u5, u6, u7, u8, u9, u10, u11, u12, u13, u14, u15, u16, u17, u18, u19, u20, u21, u22, u23, u24, u25, u26, u27, u28, u29, u30, u31, u32, u33, u34, u35, u36, u37, u38, u39, u40, u41, u42, u43, u44, u45, u46, u47, u48, u49, u50, u51, u52, u53, u54, u55, u56, u57, u58, u59, u60, u61, u62, u63, u64, u65, u66, u67, u68, u69, u70, u71, u72, u73, u74, u75, u76, u77, u78, u79, u80, u81, u82, u83, u84, u85, hrel, ha⟩ := hinv
        subst ha
        (try dsimp only)
        intro _ _ _ _
        clear H'
        try clear p2
        try clear c4
        try clear c4b0
        try clear c4b1
        try clear c5
        try clear c6
        try clear c6b0
        try clear c6b1
        obtain ⟨x4_1, x5_1, x6_1, x8_1, x9_1, HA, HK1, HO_4, HO_5, HO_6, HO_8, HO_9, HB⟩ := hrel
        cases gk with
        | zero => exact absurd HA.out (by simp [scopes_merge.l0])
        | succ k1 =>
          have H := HA.out
          clear HA
          simp only [scopes_merge.l0] at H
          by_cases c9 : (x8_1.length : Int) = 0
          · rw [if_pos c9] at H
            have c9b0 : ((x8_1.length : Int) == 0) = true := beq_iff_eq.mpr c9
            have c9b1 : ((x8_1.length : Int) != 0) = false := bne_eq_false_iff_eq.mpr c9
            clear c9
            by_cases c10 : x6_1.length + x9_1.length < 17592186044416
            · rw [if_pos c10] at H
              have LMc10 := ak c10
              clear c10
              obtain ⟨y130, hy130⟩ : ∃ y_ : List Int, y_ = (x6_1 ++ x9_1) := ⟨_, rfl⟩
              replace H : (some (x4_1, x5_1, y130, 0)) = some (r1, r2, r3, r4) := by first | (rw [hy130]; with_reducible exact H) | (have H2_ := (Option.bind_some _ _).symm.trans H; rw [hy130]; with_reducible exact H2_) | (have H2_ := (Option.bind_some _ _).symm.trans H; with_reducible exact H2_) | with_reducible exact H | (rw [hy130]; exact H) | exact H
              have Ny130 := ak hy130
              clear hy130
              simp only [Option.some.injEq, Prod.mk.injEq] at H
              obtain ⟨rfl, rfl, rfl, rfl⟩ := H
              obtain ⟨Ao11, co11, eo11, _⟩ := Kd.Q_slice HO_8.out
              subst eo11
              obtain ⟨Ao13, co13, eo13, _⟩ := Kd.Q_slice HO_9.out
              subst eo13
              go_wp2_with (first | ((with_reducible refine gate_builtin (b := .append) (xs := #[.tmp 42, .tmp 43]) rfl ?_); at_builtin; refine Kd.R_append_rows (Kd.int .i64) (w0 := w) w.heap.size rfl (.tmp 42) (.tmp 43) 34 3 (.int .i64 0) 8 rfl Try.underlying34 info3 rfl (by decide) (by omega) u6 x6_1 x9_1 _ _ _ (fun k_ => some k_ ≠ (u4 : Value).ownBlock ∧ some k_ ≠ (u5 : Value).ownBlock ∧ some k_ ≠ (.slice Ao11 x8_1.length co11 : Value).ownBlock ∧ some k_ ≠ (.slice Ao13 x9_1.length co13 : Value).ownBlock) (fun _ => False) rfl rfl ?aO ?aR (fun _ _ h => h) (fun _ h => h.elim) ?aF ?aB ?aS ?aL ?_; (case aR => repeat (first | exact (Kd.Q_reads' HO_9.out).2.2 | (with_reducible refine Kd.C_alloc ?_ _) | (with_reducible refine Kd.C_drewN ?_ _) | (with_reducible refine Kd.C_drew ?_))); (case aB => exact (by repeat (first | (with_reducible first | exact HB.out | apply wA | apply wN | apply wD) | exact HB.out))); (case aF => exact (fun k_ hk => ⟨Kd.fresh' (Kd.R_lt (by (with_reducible repeat (first | apply Kd.R_alloc | apply Kd.R_drewN | apply Kd.R_drew)); exact HO_4.out)) k_ hk, Kd.fresh' (Kd.R_lt (by (with_reducible repeat (first | apply Kd.R_alloc | apply Kd.R_drewN | apply Kd.R_drew)); exact HO_5.out)) k_ hk, Kd.fresh' (Kd.Q_lt (by (with_reducible repeat (first | apply Kd.Q_alloc | apply Kd.Q_drewN | apply Kd.Q_drew)); exact HO_8.out)) k_ hk, Kd.fresh' (Kd.Q_lt (by (with_reducible repeat (first | apply Kd.Q_alloc | apply Kd.Q_drewN | apply Kd.Q_drew)); exact HO_9.out)) k_ hk⟩)); (case aO => exact (by (with_reducible repeat (first | apply Kd.R_alloc | apply Kd.R_drewN | apply Kd.R_drew)); exact HO_6.out)); (case aS => exact (below_size (by repeat (first | (with_reducible first | exact HB.out | apply wA | apply wN | apply wD) | exact HB.out)))); (case aL => have := LMc10.out; omega); intro v131 w12 ho hb hg hat; rw [← Ny130.out] at ho; have n0_ := ak (Kd.R_after (ok := (fun k_ => some k_ ≠ (u5 : Value).ownBlock ∧ some k_ ≠ (.slice Ao11 x8_1.length co11 : Value).ownBlock ∧ some k_ ≠ (.slice Ao13 x9_1.length co13 : Value).ownBlock)) (by (with_reducible repeat (first | apply Kd.R_alloc | apply Kd.R_drewN | apply Kd.R_drew)); exact Kd.R_mono HO_4.out (fun _ hk => by first | exact ⟨⟨hk.1, ⟨hk.2.2.1, hk.2.2.2⟩⟩, hk.2.1⟩ | (simp only [ne_eq] at hk ⊢; simp [hk]))) hg hat); have n1_ := ak (Kd.R_after (ok := (fun k_ => some k_ ≠ (u4 : Value).ownBlock ∧ some k_ ≠ (.slice Ao11 x8_1.length co11 : Value).ownBlock ∧ some k_ ≠ (.slice Ao13 x9_1.length co13 : Value).ownBlock)) (by (with_reducible repeat (first | apply Kd.R_alloc | apply Kd.R_drewN | apply Kd.R_drew)); exact Kd.R_mono HO_5.out (fun _ hk => by first | exact ⟨⟨hk.1, ⟨hk.2.2.1, hk.2.2.2⟩⟩, hk.2.1⟩ | (simp only [ne_eq] at hk ⊢; simp [hk]))) hg hat); have n2_ := ak (Kd.Q_after (ok := (fun k_ => some k_ ≠ (u4 : Value).ownBlock ∧ some k_ ≠ (u5 : Value).ownBlock ∧ some k_ ≠ (.slice Ao13 x9_1.length co13 : Value).ownBlock)) (by (with_reducible repeat (first | apply Kd.Q_alloc | apply Kd.Q_drewN | apply Kd.Q_drew)); exact Kd.Q_mono HO_8.out (fun _ hk => by first | exact ⟨⟨hk.1, ⟨hk.2.1, hk.2.2.2⟩⟩, hk.2.2.1⟩ | (simp only [ne_eq] at hk ⊢; simp [hk]))) hg hat); have n3_ := ak (Kd.Q_after (ok := (fun k_ => some k_ ≠ (u4 : Value).ownBlock ∧ some k_ ≠ (u5 : Value).ownBlock ∧ some k_ ≠ (.slice Ao11 x8_1.length co11 : Value).ownBlock)) (by (with_reducible repeat (first | apply Kd.Q_alloc | apply Kd.Q_drewN | apply Kd.Q_drew)); exact Kd.Q_mono HO_9.out (fun _ hk => by first | exact ⟨⟨hk.1, ⟨hk.2.1, hk.2.2.2⟩⟩, hk.2.2.1⟩ | (simp only [ne_eq] at hk ⊢; simp [hk]))) hg hat); have n4_ := ak (hb); have n5_ := ak (ho); clear HO_4; clear HO_5; clear HO_8; clear HO_9; clear HB; clear HO_6; have HO_4 := n0_; have HO_5 := n1_; have HO_8 := n2_; have HO_9 := n3_; have HB := n4_; have HO132 := n5_; clear n0_ n1_ n2_ n3_ n4_ n5_; clear ho hb hg hat))
              refine bodyPost_ret (results_list (rs := [.tmp 4, .tmp 5, .tmp 6, .tmp 7]) rfl (by simp) (.tmp (.tmp (.tmp (.tmp .nil))))) rfl ?_
              exact ⟨_, _, _, by first | rfl | (simp [errW_none, errW_some] <;> rfl) | (simp [*, errW_none, errW_some] <;> rfl), by (with_reducible repeat (first | apply Kd.R_alloc | apply Kd.R_drewN | apply Kd.R_drew)); exact Kd.R_mono HO_4.out (fun _ hk => by first | exact ⟨hk.1.1, hk.2⟩ | (simp only [ne_eq] at hk ⊢; simp [hk])), by (with_reducible repeat (first | apply Kd.R_alloc | apply Kd.R_drewN | apply Kd.R_drew)); exact Kd.R_mono HO_5.out (fun _ hk => by first | exact ⟨hk.1.1, hk.2⟩ | (simp only [ne_eq] at hk ⊢; simp [hk])), by (with_reducible repeat (first | apply Kd.R_alloc | apply Kd.R_drewN | apply Kd.R_drew)); exact Kd.R_mono HO132.out (fun _ hk => by first | exact ⟨hk.1, hk.2.1⟩ | (simp only [ne_eq] at hk ⊢; simp [hk])), by repeat (first | (with_reducible first | exact HB.out | apply wA | apply wN | apply wD) | exact HB.out)⟩
            · rw [if_neg c10] at H
              exact absurd H (by simp)
          · rw [if_neg c9] at H
            have c9b0 : ((x8_1.length : Int) == 0) = false := beq_eq_false_iff_ne.mpr c9
            have c9b1 : ((x8_1.length : Int) != 0) = true := bne_iff_ne.mpr c9
            have c9b2 : ¬ (x8_1 = []) := fun h_ => c9 (by rw [h_]; rfl)
            by_cases c14 : (x9_1.length : Int) = 0
            · rw [if_pos c14] at H
              have c14b0 : ((x9_1.length : Int) == 0) = true := beq_iff_eq.mpr c14
              have c14b1 : ((x9_1.length : Int) != 0) = false := bne_eq_false_iff_eq.mpr c14
              clear c14
              by_cases c15 : x4_1.length + x8_1.length < 17592186044416
              · rw [if_pos c15] at H
                have LMc15 := ak c15
                clear c15
                obtain ⟨y133, hy133⟩ : ∃ y_ : List Int, y_ = (x4_1 ++ x8_1) := ⟨_, rfl⟩
                replace H : (some (y133, x5_1, x6_1, 0)) = some (r1, r2, r3, r4) := by first | (rw [hy133]; with_reducible exact H) | (have H2_ := (Option.bind_some _ _).symm.trans H; rw [hy133]; with_reducible exact H2_) | (have H2_ := (Option.bind_some _ _).symm.trans H; with_reducible exact H2_) | with_reducible exact H | (rw [hy133]; exact H) | exact H
                have Ny133 := ak hy133
                clear hy133
                simp only [Option.some.injEq, Prod.mk.injEq] at H
                obtain ⟨rfl, rfl, rfl, rfl⟩ := H
                obtain ⟨Ao16, co16, eo16, _⟩ := Kd.Q_slice HO_8.out
                subst eo16
                obtain ⟨Ao17, co17, eo17, _⟩ := Kd.Q_slice HO_9.out
                subst eo17
                go_wp2_with (first | ((with_reducible refine gate_builtin (b := .append) (xs := #[.tmp 49, .tmp 50]) rfl ?_); at_builtin; refine Kd.R_append_rows (Kd.int .i64) (w0 := w) w.heap.size rfl (.tmp 49) (.tmp 50) 34 3 (.int .i64 0) 8 rfl Try.underlying34 info3 rfl (by decide) (by omega) u4 x4_1 x8_1 _ _ _ (fun k_ => some k_ ≠ (u5 : Value).ownBlock ∧ some k_ ≠ (u6 : Value).ownBlock ∧ some k_ ≠ (.slice Ao16 x8_1.length co16 : Value).ownBlock ∧ some k_ ≠ (.slice Ao17 x9_1.length co17 : Value).ownBlock) (fun _ => False) rfl rfl ?aO ?aR (fun _ _ h => h) (fun _ h => h.elim) ?aF ?aB ?aS ?aL ?_; (case aR => repeat (first | exact (Kd.Q_reads' HO_8.out).2.2 | (with_reducible refine Kd.C_alloc ?_ _) | (with_reducible refine Kd.C_drewN ?_ _) | (with_reducible refine Kd.C_drew ?_))); (case aB => exact (by repeat (first | (with_reducible first | exact HB.out | apply wA | apply wN | apply wD) | exact HB.out))); (case aF => exact (fun k_ hk => ⟨Kd.fresh' (Kd.R_lt (by (with_reducible repeat (first | apply Kd.R_alloc | apply Kd.R_drewN | apply Kd.R_drew)); exact HO_5.out)) k_ hk, Kd.fresh' (Kd.R_lt (by (with_reducible repeat (first | apply Kd.R_alloc | apply Kd.R_drewN | apply Kd.R_drew)); exact HO_6.out)) k_ hk, Kd.fresh' (Kd.Q_lt (by (with_reducible repeat (first | apply Kd.Q_alloc | apply Kd.Q_drewN | apply Kd.Q_drew)); exact HO_8.out)) k_ hk, Kd.fresh' (Kd.Q_lt (by (with_reducible repeat (first | apply Kd.Q_alloc | apply Kd.Q_drewN | apply Kd.Q_drew)); exact HO_9.out)) k_ hk⟩)); (case aO => exact (by (with_reducible repeat (first | apply Kd.R_alloc | apply Kd.R_drewN | apply Kd.R_drew)); exact HO_4.out)); (case aS => exact (below_size (by repeat (first | (with_reducible first | exact HB.out | apply wA | apply wN | apply wD) | exact HB.out)))); (case aL => have := LMc15.out; omega); intro v134 w18 ho hb hg hat; rw [← Ny133.out] at ho; have n0_ := ak (Kd.R_after (ok := (fun k_ => some k_ ≠ (u6 : Value).ownBlock ∧ some k_ ≠ (.slice Ao16 x8_1.length co16 : Value).ownBlock ∧ some k_ ≠ (.slice Ao17 x9_1.length co17 : Value).ownBlock)) (by (with_reducible repeat (first | apply Kd.R_alloc | apply Kd.R_drewN | apply Kd.R_drew)); exact Kd.R_mono HO_5.out (fun _ hk => by first | exact ⟨⟨hk.2.1, ⟨hk.2.2.1, hk.2.2.2⟩⟩, hk.1⟩ | (simp only [ne_eq] at hk ⊢; simp [hk]))) hg hat); have n1_ := ak (Kd.R_after (ok := (fun k_ => some k_ ≠ (u5 : Value).ownBlock ∧ some k_ ≠ (.slice Ao16 x8_1.length co16 : Value).ownBlock ∧ some k_ ≠ (.slice Ao17 x9_1.length co17 : Value).ownBlock)) (by (with_reducible repeat (first | apply Kd.R_alloc | apply Kd.R_drewN | apply Kd.R_drew)); exact Kd.R_mono HO_6.out (fun _ hk => by first | exact ⟨⟨hk.2.1, ⟨hk.2.2.1, hk.2.2.2⟩⟩, hk.1⟩ | (simp only [ne_eq] at hk ⊢; simp [hk]))) hg hat); have n2_ := ak (Kd.Q_after (ok := (fun k_ => some k_ ≠ (u5 : Value).ownBlock ∧ some k_ ≠ (u6 : Value).ownBlock ∧ some k_ ≠ (.slice Ao17 x9_1.length co17 : Value).ownBlock)) (by (with_reducible repeat (first | apply Kd.Q_alloc | apply Kd.Q_drewN | apply Kd.Q_drew)); exact Kd.Q_mono HO_8.out (fun _ hk => by first | exact ⟨⟨hk.2.1, ⟨hk.2.2.1, hk.2.2.2⟩⟩, hk.1⟩ | (simp only [ne_eq] at hk ⊢; simp [hk]))) hg hat); have n3_ := ak (Kd.Q_after (ok := (fun k_ => some k_ ≠ (u5 : Value).ownBlock ∧ some k_ ≠ (u6 : Value).ownBlock ∧ some k_ ≠ (.slice Ao16 x8_1.length co16 : Value).ownBlock)) (by (with_reducible repeat (first | apply Kd.Q_alloc | apply Kd.Q_drewN | apply Kd.Q_drew)); exact Kd.Q_mono HO_9.out (fun _ hk => by first | exact ⟨⟨hk.2.1, ⟨hk.2.2.1, hk.2.2.2⟩⟩, hk.1⟩ | (simp only [ne_eq] at hk ⊢; simp [hk]))) hg hat); have n4_ := ak (hb); have n5_ := ak (ho); clear HO_5; clear HO_6; clear HO_8; clear HO_9; clear HB; clear HO_4; have HO_5 := n0_; have HO_6 := n1_; have HO_8 := n2_; have HO_9 := n3_; have HB := n4_; have HO135 := n5_; clear n0_ n1_ n2_ n3_ n4_ n5_; clear ho hb hg hat))
                refine bodyPost_ret (results_list (rs := [.tmp 4, .tmp 5, .tmp 6, .tmp 7]) rfl (by simp) (.tmp (.tmp (.tmp (.tmp .nil))))) rfl ?_
                exact ⟨_, _, _, by first | rfl | (simp [errW_none, errW_some] <;> rfl) | (simp [*, errW_none, errW_some] <;> rfl), by (with_reducible repeat (first | apply Kd.R_alloc | apply Kd.R_drewN | apply Kd.R_drew)); exact Kd.R_mono HO135.out (fun _ hk => by first | exact ⟨hk.1, hk.2.1⟩ | (simp only [ne_eq] at hk ⊢; simp [hk])), by (with_reducible repeat (first | apply Kd.R_alloc | apply Kd.R_drewN | apply Kd.R_drew)); exact Kd.R_mono HO_5.out (fun _ hk => by first | exact ⟨hk.2, hk.1.1⟩ | (simp only [ne_eq] at hk ⊢; simp [hk])), by (with_reducible repeat (first | apply Kd.R_alloc | apply Kd.R_drewN | apply Kd.R_drew)); exact Kd.R_mono HO_6.out (fun _ hk => by first | exact ⟨hk.2, hk.1.1⟩ | (simp only [ne_eq] at hk ⊢; simp [hk])), by repeat (first | (with_reducible first | exact HB.out | apply wA | apply wN | apply wD) | exact HB.out)⟩
              · rw [if_neg c15] at H
                exact absurd H (by simp)
            · rw [if_neg c14] at H
              have c14b0 : ((x9_1.length : Int) == 0) = false := beq_eq_false_iff_ne.mpr c14
              have c14b1 : ((x9_1.length : Int) != 0) = true := bne_iff_ne.mpr c14
              have c14b2 : ¬ (x9_1 = []) := fun h_ => c14 (by rw [h_]; rfl)
              by_cases c19 : 0 < (x8_1.length : Int)
              · rw [if_pos c19] at H
                have c19b0 : decide (0 < (x8_1.length : Int)) = true := decide_eq_true c19
                have c19b1 : decide (0 < x8_1.length) = true := decide_eq_true (by omega)
                clear c19
                by_cases c20 : 0 < (x9_1.length : Int)
                · rw [if_pos c20] at H
                  have c20b0 : decide (0 < (x9_1.length : Int)) = true := decide_eq_true c20
                  have c20b1 : decide (0 < x9_1.length) = true := decide_eq_true (by omega)
                  clear c20
                  by_cases c21 : (rd x8_1 0) < (rd x9_1 0)
                  · rw [if_pos c21] at H
                    have c21b0 : decide ((rd x8_1 0) < (rd x9_1 0)) = true := decide_eq_true c21
                    clear c21
                    by_cases c22 : x4_1.length < 17592186044416
                    · rw [if_pos c22] at H
                      have LMc22 := ak c22
                      clear c22
                      obtain ⟨y139, hy139⟩ : ∃ y_ : List Int, y_ = (x4_1 ++ [rd x8_1 0]) := ⟨_, rfl⟩
                      replace H : (if 1 ≤ (x8_1.length : Int) then (scopes_merge.l0 k1 y139 x5_1 x6_1 (x8_1.drop (1 : Int).toNat) x9_1) else (none)) = some (r1, r2, r3, r4) := by first | (rw [hy139]; with_reducible exact H) | (have H2_ := (Option.bind_some _ _).symm.trans H; rw [hy139]; with_reducible exact H2_) | (have H2_ := (Option.bind_some _ _).symm.trans H; with_reducible exact H2_) | with_reducible exact H | (rw [hy139]; exact H) | exact H
                      have Ny139 := ak hy139
                      clear hy139
                      by_cases c23 : 1 ≤ (x8_1.length : Int)
                      · rw [if_pos c23] at H
                        have c23b0 := eq_true c23
                        have c23b1 : decide (1 ≤ (x8_1.length : Int)) = true := decide_eq_true c23
                        clear c23
                        obtain ⟨y142, hy142⟩ : ∃ y_ : List Int, y_ = (x8_1.drop (1 : Int).toNat) := ⟨_, rfl⟩
                        replace H : (scopes_merge.l0 k1 y139 x5_1 x6_1 y142 x9_1) = some (r1, r2, r3, r4) := by first | (rw [hy142]; with_reducible exact H) | (have H2_ := (Option.bind_some _ _).symm.trans H; rw [hy142]; with_reducible exact H2_) | (have H2_ := (Option.bind_some _ _).symm.trans H; with_reducible exact H2_) | with_reducible exact H | (rw [hy142]; exact H) | exact H
                        have Ny142 := ak hy142
                        clear hy142
                        have H' := ak H
                        clear H
                        obtain ⟨Ao24, co24, eo24, _⟩ := Kd.Q_slice HO_8.out
                        subst eo24
                        obtain ⟨Ao25, co25, eo25, _⟩ := Kd.Q_slice HO_9.out
                        subst eo25
                        try go_wp2
                        have n0_ := ak (Kd.R_drew HO_4.out)
                        have n1_ := ak (Kd.R_drew HO_5.out)
                        have n2_ := ak (Kd.R_drew HO_6.out)
                        have n3_ := ak (Kd.Q_drew HO_8.out)
                        have n4_ := ak (Kd.Q_drew HO_9.out)
                        have n5_ := ak (wD HB.out)
                        clear HO_4 HO_5 HO_6 HO_8 HO_9 HB
                        have HO_4 := n0_
                        have HO_5 := n1_
                        have HO_6 := n2_
                        have HO_8 := n3_
                        have HO_9 := n4_
                        have HB := n5_
                        clear n0_ n1_ n2_ n3_ n4_ n5_
                        have p136 : 0 ≤ (0 : Int) := (by omega)
                        have q136 : 0 < (x8_1.length : Int) := of_decide_eq_true (by first | (with_reducible assumption) | assumption)
                        obtain ⟨ad136, e136, hx136_0⟩ := Kd.at_int (Kd.Q_reads' HO_8.out).2.2 0 p136 q136
                        cases e136
                        have qi136 : (0 < x8_1.length) = True := eq_true (by omega)
                        (try rw [show ((0 : Int)).toNat = 0 from rfl] at hx136_0)
                        (try rw [Addr.add_zero'] at hx136_0)
                        replace p136 := eq_true p136
                        replace q136 := eq_true q136
                        have p137 : 0 ≤ (0 : Int) := (by omega)
                        have q137 : 0 < (x9_1.length : Int) := of_decide_eq_true (by first | (with_reducible assumption) | assumption)
                        obtain ⟨ad137, e137, hx137_0⟩ := Kd.at_int (Kd.Q_reads' HO_9.out).2.2 0 p137 q137
                        cases e137
                        have qi137 : (0 < x9_1.length) = True := eq_true (by omega)
                        (try rw [show ((0 : Int)).toNat = 0 from rfl] at hx137_0)
                        (try rw [Addr.add_zero'] at hx137_0)
                        replace p137 := eq_true p137
                        replace q137 := eq_true q137
                        refine start_ (n := 8) (S := fun w' => w'.cell? ad136 = some (.int .i64 (rd x8_1 0)) ∧ w'.cell? ad137 = some (.int .i64 (rd x9_1 0))) (ds := []) #[false, false, false, false, false, false, false, false] (by kernel_rfl) rfl rfl ⟨hx136_0, hx137_0⟩ (fun hHeld => ?_); refine with_tabW scopes_merge.tab12 scopes_merge.bits12 (fun HT_ HW_ => ?_)
                        generalize wr.drew = w26 at HO_4 HO_5 HO_6 HO_8 HO_9 HB hx136_0 hx137_0 hHeld ⊢
                        refine pure_ (i := 0) (N := some 55) (v := ?_) (a' := ?_) #[true, false, false, false, false, false, false, false] rfl rfl (any_of HT_.out (by kernel_rfl)) (fun _ _ _ h => h) (Or.inl ⟨by rfl, ?_⟩) ?_ ?_
                        rotate_left
                        · intro w'
                          go_simp
                          with_reducible rfl
                        rotate_left
                        · simp only [Act.put, List.setIfInBounds_toArray, List.set_cons_zero, List.set_cons_succ, i64_w, i32_w]
                          rfl
                        refine pure_ (i := 1) (N := some 56) (v := ?_) (a' := ?_) #[true, true, false, false, false, false, false, false] rfl rfl (any_of HT_.out (by kernel_rfl)) (fun _ _ _ h => h) (Or.inl ⟨by rfl, ?_⟩) ?_ ?_
                        rotate_left
                        · intro w'
                          go_simp
                          with_reducible rfl
                        rotate_left
                        · simp only [Act.put, List.setIfInBounds_toArray, List.set_cons_zero, List.set_cons_succ, i64_w, i32_w]
                          rfl
                        refine pure_ (i := 3) (N := some 58) (v := ?_) (a' := ?_) #[true, true, false, true, false, false, false, false] rfl rfl (any_of HT_.out (by kernel_rfl)) (fun _ _ _ h => h) (Or.inl ⟨by rfl, ?_⟩) ?_ ?_
                        rotate_left
                        · intro w'
                          go_simp
                          with_reducible rfl
                        rotate_left
                        · simp only [Act.put, List.setIfInBounds_toArray, List.set_cons_zero, List.set_cons_succ, i64_w, i32_w]
                          rfl
                        refine pure_ (i := 4) (N := some 59) (v := ?_) (a' := ?_) #[true, true, false, true, true, false, false, false] rfl rfl (any_of HT_.out (by kernel_rfl)) (fun _ _ _ h => h) (Or.inl ⟨by rfl, ?_⟩) ?_ ?_
                        rotate_left
                        · intro w'
                          go_simp
                          with_reducible rfl
                        rotate_left
                        · simp only [Act.put, List.setIfInBounds_toArray, List.set_cons_zero, List.set_cons_succ, i64_w, i32_w]
                          rfl
                        refine take_ (i := 2) (N := some 57) (v := ?_) (a' := ?_) #[true, true, true, true, true, false, false, false] rfl rfl (take_ofW HT_.out HW_.out (by kernel_rfl)) (fun _ _ _ h => h) (Or.inl ⟨by rfl, ?_⟩) hHeld ?_ ?_
                        rotate_left
                        · rintro w' ⟨s0, s1⟩
                          go_simp
                          with_reducible rfl
                        rotate_left
                        · simp only [Act.put, List.setIfInBounds_toArray, List.set_cons_zero, List.set_cons_succ, i64_w, i32_w]
                          rfl
                        refine take_ (i := 5) (N := some 60) (v := ?_) (a' := ?_) #[true, true, true, true, true, true, false, false] rfl rfl (take_ofW HT_.out HW_.out (by kernel_rfl)) (fun _ _ _ h => h) (Or.inl ⟨by rfl, ?_⟩) hHeld ?_ ?_
                        rotate_left
                        · rintro w' ⟨s0, s1⟩
                          go_simp
                          with_reducible rfl
                        rotate_left
                        · simp only [Act.put, List.setIfInBounds_toArray, List.set_cons_zero, List.set_cons_succ, i64_w, i32_w]
                          rfl
                        refine pure_ (i := 6) (N := some 61) (v := ?_) (a' := ?_) #[true, true, true, true, true, true, true, false] rfl rfl (any_of HT_.out (by kernel_rfl)) (fun _ _ _ h => h) (Or.inl ⟨by rfl, ?_⟩) ?_ ?_
                        rotate_left
                        · intro w'
                          go_simp
                          with_reducible rfl
                        rotate_left
                        · simp only [Act.put, List.setIfInBounds_toArray, List.set_cons_zero, List.set_cons_succ, i64_w, i32_w]
                          rfl
                        refine pure_ (i := 7) (N := some 54) (v := ?_) (a' := ?_) #[true, true, true, true, true, true, true, true] rfl rfl (any_of HT_.out (by kernel_rfl)) (fun _ _ _ h => h) (Or.inl ⟨by rfl, ?_⟩) ?_ ?_
                        rotate_left
                        · intro w'
                          go_simp
                          with_reducible rfl
                        rotate_left
                        · simp only [Act.put, List.setIfInBounds_toArray, List.set_cons_zero, List.set_cons_succ, i64_w, i32_w]
                          rfl
                        refine done_ (done_of HT_.out (by kernel_rfl)) ?_
                        try go_wp2
                        have n0_ := ak (Kd.R_drew HO_4.out)
                        have n1_ := ak (Kd.R_drew HO_5.out)
                        have n2_ := ak (Kd.R_drew HO_6.out)
                        have n3_ := ak (Kd.Q_drew HO_8.out)
                        have n4_ := ak (Kd.Q_drew HO_9.out)
                        have n5_ := ak (wD HB.out)
                        clear HO_4 HO_5 HO_6 HO_8 HO_9 HB
                        have HO_4 := n0_
                        have HO_5 := n1_
                        have HO_6 := n2_
                        have HO_8 := n3_
                        have HO_9 := n4_
                        have HB := n5_
                        clear n0_ n1_ n2_ n3_ n4_ n5_
                        have p138 : 0 ≤ (0 : Int) := (by omega)
                        have q138 : 0 < (x8_1.length : Int) := of_decide_eq_true (by first | (with_reducible assumption) | assumption)
                        obtain ⟨ad138, e138, hx138_0⟩ := Kd.at_int (Kd.Q_reads' HO_8.out).2.2 0 p138 q138
                        obtain rfl : ad136 = ad138 := (by injection e138)
                        have qi138 : (0 < x8_1.length) = True := eq_true (by omega)
                        (try rw [show ((0 : Int)).toNat = 0 from rfl] at hx138_0)
                        (try rw [Addr.add_zero'] at hx138_0)
                        replace p138 := eq_true p138
                        replace q138 := eq_true q138
                        have q28 : (1 : Int) ≤ ((x8_1.length : Int) : Int) := of_decide_eq_true (by first | (with_reducible assumption) | assumption)
                        obtain ⟨i028, hi028, _, hsz28, _⟩ := info_parts info3
                        have hcut28 := cut_from (P := Try.prog) 34 3 .i64 Try.underlying34 hi028 1 hsz28 (some ad136) x8_1.length co24 1 (by omega) q28
                        have hr28 := Kd.Q_drop (k := (1 : Int).toNat) HO_8.out (by omega)
                        obtain ⟨A28, hA28⟩ : ∃ A1, A1 = (if co24 = (1 : Int).toNat then (some ad136) else ((some ad136) : Option Addr).map (·.add ((1 : Int).toNat * 1))) := ⟨_, rfl⟩
                        obtain ⟨c28, hc28⟩ : ∃ c1, c1 = co24 - (1 : Int).toNat := ⟨_, rfl⟩
                        have hy28 : y142.length = x8_1.length - (1 : Int).toNat := (by rw [Ny142.out, List.length_drop])
                        rw [← Ny142.out] at hr28
                        rw [← hy28, ← hA28, ← hc28] at hcut28
                        replace hr28 : Kd.Q (Kd.int .i64) 3 (w26.drew) w.heap.size (fun k_ => some k_ ≠ (u4 : Value).ownBlock ∧ some k_ ≠ (u5 : Value).ownBlock ∧ some k_ ≠ (u6 : Value).ownBlock ∧ some k_ ≠ (.slice (some ad137) x9_1.length co25 : Value).ownBlock) (.slice A28 y142.length c28) y142 := (by rw [hA28, hc28, hy28]; exact hr28)
                        have HE28 : Aside0 ((Value.slice A28 y142.length c28).ownBlock = (.slice (some ad136) x8_1.length co24 : Value).ownBlock) := ⟨by rw [hA28]; split <;> (cases ((some ad136) : Option Addr) <;> rfl)⟩
                        clear hy28 hi028 hsz28 HO_8 hA28 hc28
                        have HO144 := ak hr28
                        clear hr28
                        replace q28 := eq_true q28
                        have n_ := ak (Kd.R_mono (ok' := fun k_ => (some k_ ≠ (u5 : Value).ownBlock ∧ (some k_ ≠ (u6 : Value).ownBlock ∧ (some k_ ≠ (.slice A28 y142.length c28 : Value).ownBlock ∧ some k_ ≠ (.slice (some ad137) x9_1.length co25 : Value).ownBlock)))) HO_4.out (fun k_ hk => ⟨hk.1, ⟨hk.2.1, ⟨(by rw [HE28.out]; exact hk.2.2.1), hk.2.2.2⟩⟩⟩))
                        clear HO_4
                        have HO_4 := n_
                        clear n_
                        have n_ := ak (Kd.R_mono (ok' := fun k_ => (some k_ ≠ (u4 : Value).ownBlock ∧ (some k_ ≠ (u6 : Value).ownBlock ∧ (some k_ ≠ (.slice A28 y142.length c28 : Value).ownBlock ∧ some k_ ≠ (.slice (some ad137) x9_1.length co25 : Value).ownBlock)))) HO_5.out (fun k_ hk => ⟨hk.1, ⟨hk.2.1, ⟨(by rw [HE28.out]; exact hk.2.2.1), hk.2.2.2⟩⟩⟩))
                        clear HO_5
                        have HO_5 := n_
                        clear n_
                        have n_ := ak (Kd.R_mono (ok' := fun k_ => (some k_ ≠ (u4 : Value).ownBlock ∧ (some k_ ≠ (u5 : Value).ownBlock ∧ (some k_ ≠ (.slice A28 y142.length c28 : Value).ownBlock ∧ some k_ ≠ (.slice (some ad137) x9_1.length co25 : Value).ownBlock)))) HO_6.out (fun k_ hk => ⟨hk.1, ⟨hk.2.1, ⟨(by rw [HE28.out]; exact hk.2.2.1), hk.2.2.2⟩⟩⟩))
                        clear HO_6
                        have HO_6 := n_
                        clear n_
                        have n_ := ak (Kd.Q_mono (ok' := fun k_ => (some k_ ≠ (u4 : Value).ownBlock ∧ (some k_ ≠ (u5 : Value).ownBlock ∧ (some k_ ≠ (u6 : Value).ownBlock ∧ some k_ ≠ (.slice A28 y142.length c28 : Value).ownBlock)))) HO_9.out (fun k_ hk => ⟨hk.1, ⟨hk.2.1, ⟨hk.2.2.1, (by rw [HE28.out]; exact hk.2.2.2)⟩⟩⟩))
                        clear HO_9
                        have HO_9 := n_
                        clear n_
                        refine start_ (n := 10) (S := fun w' => w'.cell? ad136 = some (.int .i64 (rd x8_1 0))) (ds := [4, 5]) #[false, false, false, false, false, false, false, false, false, false] (by kernel_rfl) rfl rfl (hx138_0) (fun hHeld => ?_); refine with_tabW scopes_merge.tab13 scopes_merge.bits13 (fun HT_ HW_ => ?_)
                        generalize w26.drew = w27 at HO_4 HO_5 HO_6 HO_9 HB HO144 hx138_0 hHeld ⊢
                        refine pure_ (i := 0) (N := some 62) (v := ?_) (a' := ?_) #[true, false, false, false, false, false, false, false, false, false] rfl rfl (any_of HT_.out (by kernel_rfl)) (fun _ _ _ h => h) (Or.inl ⟨by rfl, ?_⟩) ?_ ?_
                        rotate_left
                        · intro w'
                          go_simp
                          with_reducible rfl
                        rotate_left
                        · simp only [Act.put, List.setIfInBounds_toArray, List.set_cons_zero, List.set_cons_succ, i64_w, i32_w]
                          rfl
                        refine pure_ (i := 1) (N := some 63) (v := ?_) (a' := ?_) #[true, true, false, false, false, false, false, false, false, false] rfl rfl (any_of HT_.out (by kernel_rfl)) (fun _ _ _ h => h) (Or.inl ⟨by rfl, ?_⟩) ?_ ?_
                        rotate_left
                        · intro w'
                          go_simp
                          with_reducible rfl
                        rotate_left
                        · simp only [Act.put, List.setIfInBounds_toArray, List.set_cons_zero, List.set_cons_succ, i64_w, i32_w]
                          rfl
                        refine pure_ (i := 2) (N := some 64) (v := ?_) (a' := ?_) #[true, true, true, false, false, false, false, false, false, false] rfl rfl (any_of HT_.out (by kernel_rfl)) (fun _ _ _ h => h) (Or.inl ⟨by rfl, ?_⟩) ?_ ?_
                        rotate_left
                        · intro w'
                          go_simp
                          with_reducible rfl
                        rotate_left
                        · simp only [Act.put, List.setIfInBounds_toArray, List.set_cons_zero, List.set_cons_succ, i64_w, i32_w]
                          rfl
                        refine pure_ (i := 6) (N := some 68) (v := ?_) (a' := ?_) #[true, true, true, false, false, false, true, false, false, false] rfl rfl (any_of HT_.out (by kernel_rfl)) (fun _ _ _ h => h) (Or.inl ⟨by rfl, ?_⟩) ?_ ?_
                        rotate_left
                        · intro w'
                          go_simp
                          with_reducible rfl
                        rotate_left
                        · simp only [Act.put, List.setIfInBounds_toArray, List.set_cons_zero, List.set_cons_succ, i64_w, i32_w]
                          rfl
                        refine pure_ (i := 7) (N := some 69) (v := ?_) (a' := ?_) #[true, true, true, false, false, false, true, true, false, false] rfl rfl (any_of HT_.out (by kernel_rfl)) (fun _ _ _ h => h) (Or.inl ⟨by rfl, ?_⟩) ?_ ?_
                        rotate_left
                        · intro w'
                          go_simp
                          with_reducible rfl
                        rotate_left
                        · simp only [Act.put, List.setIfInBounds_toArray, List.set_cons_zero, List.set_cons_succ, i64_w, i32_w]
                          rfl
                        refine take_ (i := 3) (N := some 65) (v := ?_) (a' := ?_) #[true, true, true, true, false, false, true, true, false, false] rfl rfl (take_ofW HT_.out HW_.out (by kernel_rfl)) (fun _ _ _ h => h) (Or.inl ⟨by rfl, ?_⟩) hHeld ?_ ?_
                        rotate_left
                        · intro w' s0
                          go_simp
                          with_reducible rfl
                        rotate_left
                        · simp only [Act.put, List.setIfInBounds_toArray, List.set_cons_zero, List.set_cons_succ, i64_w, i32_w]
                          rfl
                        refine last_ (i := 4) (N := some 66) #[true, true, true, true, true, false, true, true, false, false] rfl rfl (one_of HT_.out (by kernel_rfl)) (by decide) (fun K hK => ?_)
                        refine value_ (w1 := ?_) (v := ?_) (by rfl) rfl ?_ ?_
                        rotate_left 2
                        · go_simp
                          constructor
                          · rfl
                          · rfl
                        refine hK.out _ _ ?_
                        clear hK K
                        refine norm_ (a' := ?_) ?_ ?_
                        rotate_left
                        · show Act.put _ (some 66) _ = _
                          simp only [Act.put, List.setIfInBounds_toArray, List.set_cons_zero, List.set_cons_succ, i64_w, i32_w]
                          rfl
                        refine last_ (i := 5) (N := some 67) #[true, true, true, true, true, true, true, true, false, false] rfl rfl (one_of HT_.out (by kernel_rfl)) (by decide) (fun K hK => ?_)
                        refine Kd.R_append_step (Kd.int .i64) (w0 := w) w.heap.size (by rfl) (.tmp 62) (.tmp 66) 34 3 (.int .i64 0) 8 rfl Try.underlying34 info3 rfl (by decide) (by omega) u4 x4_1 (rd x8_1 0) [.int .i64 (rd x8_1 0)] (fun k_ => some k_ ≠ (u5 : Value).ownBlock ∧ some k_ ≠ (u6 : Value).ownBlock ∧ some k_ ≠ (.slice A28 y142.length c28 : Value).ownBlock ∧ some k_ ≠ (.slice (some ad137) x9_1.length co25 : Value).ownBlock) (fun _ => False) rfl rfl ?aP (fun _ hk => hk.elim) ?aF ?aO ?aB ?aS ?aL ?_
                        (case aP => exact rfl)
                        (case aB => exact (by repeat (first | (with_reducible first | exact HB.out | apply wA | apply wN | apply wD) | exact HB.out)))
                        (case aF => exact (fun k_ hk => ⟨Kd.fresh' (Kd.R_lt (by (with_reducible repeat (first | apply Kd.R_alloc | apply Kd.R_drewN | apply Kd.R_drew)); exact HO_5.out)) k_ hk, Kd.fresh' (Kd.R_lt (by (with_reducible repeat (first | apply Kd.R_alloc | apply Kd.R_drewN | apply Kd.R_drew)); exact HO_6.out)) k_ hk, Kd.fresh' (Kd.Q_lt (by (with_reducible repeat (first | apply Kd.Q_alloc | apply Kd.Q_drewN | apply Kd.Q_drew)); exact HO144.out)) k_ hk, Kd.fresh' (Kd.Q_lt (by (with_reducible repeat (first | apply Kd.Q_alloc | apply Kd.Q_drewN | apply Kd.Q_drew)); exact HO_9.out)) k_ hk⟩))
                        (case aO => exact (by (with_reducible repeat (first | apply Kd.R_alloc | apply Kd.R_drewN | apply Kd.R_drew)); exact HO_4.out))
                        (case aS => exact (below_size (by repeat (first | (with_reducible first | exact HB.out | apply wA | apply wN | apply wD) | exact HB.out))))
                        (case aL => have := LMc22.out; omega)
                        intro v140 w29 ho hb hg hat
                        rw [← Ny139.out] at ho
                        have n0_ := ak (Kd.R_after (ok := (fun k_ => some k_ ≠ (u6 : Value).ownBlock ∧ some k_ ≠ (.slice A28 y142.length c28 : Value).ownBlock ∧ some k_ ≠ (.slice (some ad137) x9_1.length co25 : Value).ownBlock)) (by (with_reducible repeat (first | apply Kd.R_alloc | apply Kd.R_drewN | apply Kd.R_drew)); exact Kd.R_mono HO_5.out (fun _ hk => by first | exact ⟨⟨hk.2.1, ⟨hk.2.2.1, hk.2.2.2⟩⟩, hk.1⟩ | (simp only [ne_eq] at hk ⊢; simp [hk]))) hg hat)
                        have n1_ := ak (Kd.R_after (ok := (fun k_ => some k_ ≠ (u5 : Value).ownBlock ∧ some k_ ≠ (.slice A28 y142.length c28 : Value).ownBlock ∧ some k_ ≠ (.slice (some ad137) x9_1.length co25 : Value).ownBlock)) (by (with_reducible repeat (first | apply Kd.R_alloc | apply Kd.R_drewN | apply Kd.R_drew)); exact Kd.R_mono HO_6.out (fun _ hk => by first | exact ⟨⟨hk.2.1, ⟨hk.2.2.1, hk.2.2.2⟩⟩, hk.1⟩ | (simp only [ne_eq] at hk ⊢; simp [hk]))) hg hat)
                        have n2_ := ak (Kd.Q_after (ok := (fun k_ => some k_ ≠ (u5 : Value).ownBlock ∧ some k_ ≠ (u6 : Value).ownBlock ∧ some k_ ≠ (.slice (some ad137) x9_1.length co25 : Value).ownBlock)) (by (with_reducible repeat (first | apply Kd.Q_alloc | apply Kd.Q_drewN | apply Kd.Q_drew)); exact Kd.Q_mono HO144.out (fun _ hk => by first | exact ⟨⟨hk.2.1, ⟨hk.2.2.1, hk.2.2.2⟩⟩, hk.1⟩ | (simp only [ne_eq] at hk ⊢; simp [hk]))) hg hat)
                        have n3_ := ak (Kd.Q_after (ok := (fun k_ => some k_ ≠ (u5 : Value).ownBlock ∧ some k_ ≠ (u6 : Value).ownBlock ∧ some k_ ≠ (.slice A28 y142.length c28 : Value).ownBlock)) (by (with_reducible repeat (first | apply Kd.Q_alloc | apply Kd.Q_drewN | apply Kd.Q_drew)); exact Kd.Q_mono HO_9.out (fun _ hk => by first | exact ⟨⟨hk.2.1, ⟨hk.2.2.1, hk.2.2.2⟩⟩, hk.1⟩ | (simp only [ne_eq] at hk ⊢; simp [hk]))) hg hat)
                        have n4_ := ak (hb)
                        have n5_ := ak (ho)
                        clear HO_5 HO_6 HO144 HO_9 HB HO_4
                        have HO_5 := n0_
                        have HO_6 := n1_
                        have HO144 := n2_
                        have HO_9 := n3_
                        have HB := n4_
                        have HO141 := n5_
                        clear n0_ n1_ n2_ n3_ n4_ n5_ ho hb hg hat
                        refine hK.out _ _ ?_
                        clear hK K
                        refine norm_ (a' := ?_) ?_ ?_
                        rotate_left
                        · show Act.put _ (some 67) _ = _
                          simp only [Act.put, List.setIfInBounds_toArray, List.set_cons_zero, List.set_cons_succ, i64_w, i32_w]
                          rfl
                        refine pure_ (i := 8) (N := some 4) (v := ?_) (a' := ?_) #[true, true, true, true, true, true, true, true, true, false] rfl rfl (any_of HT_.out (by kernel_rfl)) (fun _ _ _ h => h) (Or.inl ⟨by rfl, ?_⟩) ?_ ?_
                        rotate_left
                        · intro w'
                          go_simp
                          with_reducible rfl
                        rotate_left
                        · simp only [Act.put, List.setIfInBounds_toArray, List.set_cons_zero, List.set_cons_succ, i64_w, i32_w]
                          rfl
                        refine pure_ (i := 9) (N := some 8) (v := ?_) (a' := ?_) #[true, true, true, true, true, true, true, true, true, true] rfl rfl (any_of HT_.out (by kernel_rfl)) (fun _ _ _ h => h) (Or.inl ⟨by rfl, ?_⟩) ?_ ?_
                        rotate_left
                        · intro w'
                          go_simp
                          with_reducible rfl
                        rotate_left
                        · simp only [Act.put, List.setIfInBounds_toArray, List.set_cons_zero, List.set_cons_succ, i64_w, i32_w]
                          rfl
                        refine done_ (done_of HT_.out (by kernel_rfl)) ?_
                        try go_wp2
                        go_roundg k1
                        case measure => have := HK1.out; omega
                        case rel => exact ⟨(y139), (x5_1), (x6_1), (y142), (x9_1), H', ⟨by have := HK1.out; omega⟩, ⟨by (with_reducible repeat (first | apply Kd.R_alloc | apply Kd.R_drewN | apply Kd.R_drew)); exact HO141.out⟩, ⟨by (with_reducible repeat (first | apply Kd.R_alloc | apply Kd.R_drewN | apply Kd.R_drew)); exact Kd.R_mono HO_5.out (fun _ hk => by first | exact ⟨hk.2, ⟨hk.1.1, ⟨hk.1.2.1, hk.1.2.2⟩⟩⟩ | (simp only [ne_eq] at hk ⊢; simp [hk]))⟩, ⟨by (with_reducible repeat (first | apply Kd.R_alloc | apply Kd.R_drewN | apply Kd.R_drew)); exact Kd.R_mono HO_6.out (fun _ hk => by first | exact ⟨hk.2, ⟨hk.1.1, ⟨hk.1.2.1, hk.1.2.2⟩⟩⟩ | (simp only [ne_eq] at hk ⊢; simp [hk]))⟩, ⟨by (with_reducible repeat (first | apply Kd.Q_alloc | apply Kd.Q_drewN | apply Kd.Q_drew)); exact Kd.Q_mono HO144.out (fun _ hk => by first | exact ⟨hk.2, ⟨hk.1.1, ⟨hk.1.2.1, hk.1.2.2⟩⟩⟩ | (simp only [ne_eq] at hk ⊢; simp [hk]))⟩, ⟨by (with_reducible repeat (first | apply Kd.Q_alloc | apply Kd.Q_drewN | apply Kd.Q_drew)); exact Kd.Q_mono HO_9.out (fun _ hk => by first | exact ⟨hk.2, ⟨hk.1.1, ⟨hk.1.2.1, hk.1.2.2⟩⟩⟩ | (simp only [ne_eq] at hk ⊢; simp [hk]))⟩, ⟨by repeat (first | (with_reducible first | exact HB.out | apply wA | apply wN | apply wD) | exact HB.out)⟩⟩
                      · rw [if_neg c23] at H
                        exact absurd H (by simp)
                    · rw [if_neg c22] at H
                      exact absurd H (by simp)
                  · rw [if_neg c21] at H
                    have c21b0 : decide ((rd x8_1 0) < (rd x9_1 0)) = false := decide_eq_false c21
                    clear c21
                    by_cases c30 : (rd x8_1 0) > (rd x9_1 0)
                    · rw [if_pos c30] at H
                      have c30b0 : decide ((rd x9_1 0) < (rd x8_1 0)) = true := decide_eq_true c30
                      clear c30
                      by_cases c31 : x6_1.length < 17592186044416
                      · rw [if_pos c31] at H
                        have LMc31 := ak c31
                        clear c31
                        obtain ⟨y148, hy148⟩ : ∃ y_ : List Int, y_ = (x6_1 ++ [rd x9_1 0]) := ⟨_, rfl⟩
                        replace H : (if 1 ≤ (x9_1.length : Int) then (scopes_merge.l0 k1 x4_1 x5_1 y148 x8_1 (x9_1.drop (1 : Int).toNat)) else (none)) = some (r1, r2, r3, r4) := by first | (rw [hy148]; with_reducible exact H) | (have H2_ := (Option.bind_some _ _).symm.trans H; rw [hy148]; with_reducible exact H2_) | (have H2_ := (Option.bind_some _ _).symm.trans H; with_reducible exact H2_) | with_reducible exact H | (rw [hy148]; exact H) | exact H
                        have Ny148 := ak hy148
                        clear hy148
                        by_cases c32 : 1 ≤ (x9_1.length : Int)
                        · rw [if_pos c32] at H
                          have c32b0 := eq_true c32
                          have c32b1 : decide (1 ≤ (x9_1.length : Int)) = true := decide_eq_true c32
                          clear c32
                          obtain ⟨y151, hy151⟩ : ∃ y_ : List Int, y_ = (x9_1.drop (1 : Int).toNat) := ⟨_, rfl⟩
                          replace H : (scopes_merge.l0 k1 x4_1 x5_1 y148 x8_1 y151) = some (r1, r2, r3, r4) := by first | (rw [hy151]; with_reducible exact H) | (have H2_ := (Option.bind_some _ _).symm.trans H; rw [hy151]; with_reducible exact H2_) | (have H2_ := (Option.bind_some _ _).symm.trans H; with_reducible exact H2_) | with_reducible exact H | (rw [hy151]; exact H) | exact H
                          have Ny151 := ak hy151
                          clear hy151
                          have H' := ak H
                          clear H
                          obtain ⟨Ao33, co33, eo33, _⟩ := Kd.Q_slice HO_8.out
                          subst eo33
                          obtain ⟨Ao34, co34, eo34, _⟩ := Kd.Q_slice HO_9.out
                          subst eo34
                          try go_wp2
                          have n0_ := ak (Kd.R_drew HO_4.out)
                          have n1_ := ak (Kd.R_drew HO_5.out)
                          have n2_ := ak (Kd.R_drew HO_6.out)
                          have n3_ := ak (Kd.Q_drew HO_8.out)
                          have n4_ := ak (Kd.Q_drew HO_9.out)
                          have n5_ := ak (wD HB.out)
                          clear HO_4 HO_5 HO_6 HO_8 HO_9 HB
                          have HO_4 := n0_
                          have HO_5 := n1_
                          have HO_6 := n2_
                          have HO_8 := n3_
                          have HO_9 := n4_
                          have HB := n5_
                          clear n0_ n1_ n2_ n3_ n4_ n5_
                          have p136 : 0 ≤ (0 : Int) := (by omega)
                          have q136 : 0 < (x8_1.length : Int) := of_decide_eq_true (by first | (with_reducible assumption) | assumption)
                          obtain ⟨ad136, e136, hx136_0⟩ := Kd.at_int (Kd.Q_reads' HO_8.out).2.2 0 p136 q136
                          cases e136
                          have qi136 : (0 < x8_1.length) = True := eq_true (by omega)
                          (try rw [show ((0 : Int)).toNat = 0 from rfl] at hx136_0)
                          (try rw [Addr.add_zero'] at hx136_0)
                          replace p136 := eq_true p136
                          replace q136 := eq_true q136
                          have p137 : 0 ≤ (0 : Int) := (by omega)
                          have q137 : 0 < (x9_1.length : Int) := of_decide_eq_true (by first | (with_reducible assumption) | assumption)
                          obtain ⟨ad137, e137, hx137_0⟩ := Kd.at_int (Kd.Q_reads' HO_9.out).2.2 0 p137 q137
                          cases e137
                          have qi137 : (0 < x9_1.length) = True := eq_true (by omega)
                          (try rw [show ((0 : Int)).toNat = 0 from rfl] at hx137_0)
                          (try rw [Addr.add_zero'] at hx137_0)
                          replace p137 := eq_true p137
                          replace q137 := eq_true q137
                          refine start_ (n := 8) (S := fun w' => w'.cell? ad136 = some (.int .i64 (rd x8_1 0)) ∧ w'.cell? ad137 = some (.int .i64 (rd x9_1 0))) (ds := []) #[false, false, false, false, false, false, false, false] (by kernel_rfl) rfl rfl ⟨hx136_0, hx137_0⟩ (fun hHeld => ?_); refine with_tabW scopes_merge.tab12 scopes_merge.bits12 (fun HT_ HW_ => ?_)
                          generalize wr.drew = w35 at HO_4 HO_5 HO_6 HO_8 HO_9 HB hx136_0 hx137_0 hHeld ⊢
                          refine pure_ (i := 0) (N := some 55) (v := ?_) (a' := ?_) #[true, false, false, false, false, false, false, false] rfl rfl (any_of HT_.out (by kernel_rfl)) (fun _ _ _ h => h) (Or.inl ⟨by rfl, ?_⟩) ?_ ?_
                          rotate_left
                          · intro w'
                            go_simp
                            with_reducible rfl
                          rotate_left
                          · simp only [Act.put, List.setIfInBounds_toArray, List.set_cons_zero, List.set_cons_succ, i64_w, i32_w]
                            rfl
                          refine pure_ (i := 1) (N := some 56) (v := ?_) (a' := ?_) #[true, true, false, false, false, false, false, false] rfl rfl (any_of HT_.out (by kernel_rfl)) (fun _ _ _ h => h) (Or.inl ⟨by rfl, ?_⟩) ?_ ?_
                          rotate_left
                          · intro w'
                            go_simp
                            with_reducible rfl
                          rotate_left
                          · simp only [Act.put, List.setIfInBounds_toArray, List.set_cons_zero, List.set_cons_succ, i64_w, i32_w]
                            rfl
                          refine pure_ (i := 3) (N := some 58) (v := ?_) (a' := ?_) #[true, true, false, true, false, false, false, false] rfl rfl (any_of HT_.out (by kernel_rfl)) (fun _ _ _ h => h) (Or.inl ⟨by rfl, ?_⟩) ?_ ?_
                          rotate_left
                          · intro w'
                            go_simp
                            with_reducible rfl
                          rotate_left
                          · simp only [Act.put, List.setIfInBounds_toArray, List.set_cons_zero, List.set_cons_succ, i64_w, i32_w]
                            rfl
                          refine pure_ (i := 4) (N := some 59) (v := ?_) (a' := ?_) #[true, true, false, true, true, false, false, false] rfl rfl (any_of HT_.out (by kernel_rfl)) (fun _ _ _ h => h) (Or.inl ⟨by rfl, ?_⟩) ?_ ?_
                          rotate_left
                          · intro w'
                            go_simp
                            with_reducible rfl
                          rotate_left
                          · simp only [Act.put, List.setIfInBounds_toArray, List.set_cons_zero, List.set_cons_succ, i64_w, i32_w]
                            rfl
                          refine take_ (i := 2) (N := some 57) (v := ?_) (a' := ?_) #[true, true, true, true, true, false, false, false] rfl rfl (take_ofW HT_.out HW_.out (by kernel_rfl)) (fun _ _ _ h => h) (Or.inl ⟨by rfl, ?_⟩) hHeld ?_ ?_
                          rotate_left
                          · rintro w' ⟨s0, s1⟩
                            go_simp
                            with_reducible rfl
                          rotate_left
                          · simp only [Act.put, List.setIfInBounds_toArray, List.set_cons_zero, List.set_cons_succ, i64_w, i32_w]
                            rfl
                          refine take_ (i := 5) (N := some 60) (v := ?_) (a' := ?_) #[true, true, true, true, true, true, false, false] rfl rfl (take_ofW HT_.out HW_.out (by kernel_rfl)) (fun _ _ _ h => h) (Or.inl ⟨by rfl, ?_⟩) hHeld ?_ ?_
                          rotate_left
                          · rintro w' ⟨s0, s1⟩
                            go_simp
                            with_reducible rfl
                          rotate_left
                          · simp only [Act.put, List.setIfInBounds_toArray, List.set_cons_zero, List.set_cons_succ, i64_w, i32_w]
                            rfl
                          refine pure_ (i := 6) (N := some 61) (v := ?_) (a' := ?_) #[true, true, true, true, true, true, true, false] rfl rfl (any_of HT_.out (by kernel_rfl)) (fun _ _ _ h => h) (Or.inl ⟨by rfl, ?_⟩) ?_ ?_
                          rotate_left
                          · intro w'
                            go_simp
                            with_reducible rfl
                          rotate_left
                          · simp only [Act.put, List.setIfInBounds_toArray, List.set_cons_zero, List.set_cons_succ, i64_w, i32_w]
                            rfl
                          refine pure_ (i := 7) (N := some 54) (v := ?_) (a' := ?_) #[true, true, true, true, true, true, true, true] rfl rfl (any_of HT_.out (by kernel_rfl)) (fun _ _ _ h => h) (Or.inl ⟨by rfl, ?_⟩) ?_ ?_
                          rotate_left
                          · intro w'
                            go_simp
                            with_reducible rfl
                          rotate_left
                          · simp only [Act.put, List.setIfInBounds_toArray, List.set_cons_zero, List.set_cons_succ, i64_w, i32_w]
                            rfl
                          refine done_ (done_of HT_.out (by kernel_rfl)) ?_
                          try go_wp2
                          have n0_ := ak (Kd.R_drew HO_4.out)
                          have n1_ := ak (Kd.R_drew HO_5.out)
                          have n2_ := ak (Kd.R_drew HO_6.out)
                          have n3_ := ak (Kd.Q_drew HO_8.out)
                          have n4_ := ak (Kd.Q_drew HO_9.out)
                          have n5_ := ak (wD HB.out)
                          clear HO_4 HO_5 HO_6 HO_8 HO_9 HB
                          have HO_4 := n0_
                          have HO_5 := n1_
                          have HO_6 := n2_
                          have HO_8 := n3_
                          have HO_9 := n4_
                          have HB := n5_
                          clear n0_ n1_ n2_ n3_ n4_ n5_
                          have p145 : 0 ≤ (0 : Int) := (by omega)
                          have q145 : 0 < (x8_1.length : Int) := of_decide_eq_true (by first | (with_reducible assumption) | assumption)
                          obtain ⟨ad145, e145, hx145_0⟩ := Kd.at_int (Kd.Q_reads' HO_8.out).2.2 0 p145 q145
                          obtain rfl : ad136 = ad145 := (by injection e145)
                          have qi145 : (0 < x8_1.length) = True := eq_true (by omega)
                          (try rw [show ((0 : Int)).toNat = 0 from rfl] at hx145_0)
                          (try rw [Addr.add_zero'] at hx145_0)
                          replace p145 := eq_true p145
                          replace q145 := eq_true q145
                          have p146 : 0 ≤ (0 : Int) := (by omega)
                          have q146 : 0 < (x9_1.length : Int) := of_decide_eq_true (by first | (with_reducible assumption) | assumption)
                          obtain ⟨ad146, e146, hx146_0⟩ := Kd.at_int (Kd.Q_reads' HO_9.out).2.2 0 p146 q146
                          obtain rfl : ad137 = ad146 := (by injection e146)
                          have qi146 : (0 < x9_1.length) = True := eq_true (by omega)
                          (try rw [show ((0 : Int)).toNat = 0 from rfl] at hx146_0)
                          (try rw [Addr.add_zero'] at hx146_0)
                          replace p146 := eq_true p146
                          replace q146 := eq_true q146
                          refine start_ (n := 8) (S := fun w' => w'.cell? ad136 = some (.int .i64 (rd x8_1 0)) ∧ w'.cell? ad137 = some (.int .i64 (rd x9_1 0))) (ds := []) #[false, false, false, false, false, false, false, false] (by kernel_rfl) rfl rfl ⟨hx145_0, hx146_0⟩ (fun hHeld => ?_); refine with_tabW scopes_merge.tab14 scopes_merge.bits14 (fun HT_ HW_ => ?_)
                          generalize w35.drew = w36 at HO_4 HO_5 HO_6 HO_8 HO_9 HB hx145_0 hx146_0 hHeld ⊢
                          refine pure_ (i := 0) (N := some 71) (v := ?_) (a' := ?_) #[true, false, false, false, false, false, false, false] rfl rfl (any_of HT_.out (by kernel_rfl)) (fun _ _ _ h => h) (Or.inl ⟨by rfl, ?_⟩) ?_ ?_
                          rotate_left
                          · intro w'
                            go_simp
                            with_reducible rfl
                          rotate_left
                          · simp only [Act.put, List.setIfInBounds_toArray, List.set_cons_zero, List.set_cons_succ, i64_w, i32_w]
                            rfl
                          refine pure_ (i := 1) (N := some 72) (v := ?_) (a' := ?_) #[true, true, false, false, false, false, false, false] rfl rfl (any_of HT_.out (by kernel_rfl)) (fun _ _ _ h => h) (Or.inl ⟨by rfl, ?_⟩) ?_ ?_
                          rotate_left
                          · intro w'
                            go_simp
                            with_reducible rfl
                          rotate_left
                          · simp only [Act.put, List.setIfInBounds_toArray, List.set_cons_zero, List.set_cons_succ, i64_w, i32_w]
                            rfl
                          refine pure_ (i := 3) (N := some 74) (v := ?_) (a' := ?_) #[true, true, false, true, false, false, false, false] rfl rfl (any_of HT_.out (by kernel_rfl)) (fun _ _ _ h => h) (Or.inl ⟨by rfl, ?_⟩) ?_ ?_
                          rotate_left
                          · intro w'
                            go_simp
                            with_reducible rfl
                          rotate_left
                          · simp only [Act.put, List.setIfInBounds_toArray, List.set_cons_zero, List.set_cons_succ, i64_w, i32_w]
                            rfl
                          refine pure_ (i := 4) (N := some 75) (v := ?_) (a' := ?_) #[true, true, false, true, true, false, false, false] rfl rfl (any_of HT_.out (by kernel_rfl)) (fun _ _ _ h => h) (Or.inl ⟨by rfl, ?_⟩) ?_ ?_
                          rotate_left
                          · intro w'
                            go_simp
                            with_reducible rfl
                          rotate_left
                          · simp only [Act.put, List.setIfInBounds_toArray, List.set_cons_zero, List.set_cons_succ, i64_w, i32_w]
                            rfl
                          refine take_ (i := 2) (N := some 73) (v := ?_) (a' := ?_) #[true, true, true, true, true, false, false, false] rfl rfl (take_ofW HT_.out HW_.out (by kernel_rfl)) (fun _ _ _ h => h) (Or.inl ⟨by rfl, ?_⟩) hHeld ?_ ?_
                          rotate_left
                          · rintro w' ⟨s0, s1⟩
                            go_simp
                            with_reducible rfl
                          rotate_left
                          · simp only [Act.put, List.setIfInBounds_toArray, List.set_cons_zero, List.set_cons_succ, i64_w, i32_w]
                            rfl
                          refine take_ (i := 5) (N := some 76) (v := ?_) (a' := ?_) #[true, true, true, true, true, true, false, false] rfl rfl (take_ofW HT_.out HW_.out (by kernel_rfl)) (fun _ _ _ h => h) (Or.inl ⟨by rfl, ?_⟩) hHeld ?_ ?_
                          rotate_left
                          · rintro w' ⟨s0, s1⟩
                            go_simp
                            with_reducible rfl
                          rotate_left
                          · simp only [Act.put, List.setIfInBounds_toArray, List.set_cons_zero, List.set_cons_succ, i64_w, i32_w]
                            rfl
                          refine pure_ (i := 6) (N := some 77) (v := ?_) (a' := ?_) #[true, true, true, true, true, true, true, false] rfl rfl (any_of HT_.out (by kernel_rfl)) (fun _ _ _ h => h) (Or.inl ⟨by rfl, ?_⟩) ?_ ?_
                          rotate_left
                          · intro w'
                            go_simp
                            with_reducible rfl
                          rotate_left
                          · simp only [Act.put, List.setIfInBounds_toArray, List.set_cons_zero, List.set_cons_succ, i64_w, i32_w]
                            rfl
                          refine pure_ (i := 7) (N := some 70) (v := ?_) (a' := ?_) #[true, true, true, true, true, true, true, true] rfl rfl (any_of HT_.out (by kernel_rfl)) (fun _ _ _ h => h) (Or.inl ⟨by rfl, ?_⟩) ?_ ?_
                          rotate_left
                          · intro w'
                            go_simp
                            with_reducible rfl
                          rotate_left
                          · simp only [Act.put, List.setIfInBounds_toArray, List.set_cons_zero, List.set_cons_succ, i64_w, i32_w]
                            rfl
                          refine done_ (done_of HT_.out (by kernel_rfl)) ?_
                          try go_wp2
                          have n0_ := ak (Kd.R_drew HO_4.out)
                          have n1_ := ak (Kd.R_drew HO_5.out)
                          have n2_ := ak (Kd.R_drew HO_6.out)
                          have n3_ := ak (Kd.Q_drew HO_8.out)
                          have n4_ := ak (Kd.Q_drew HO_9.out)
                          have n5_ := ak (wD HB.out)
                          clear HO_4 HO_5 HO_6 HO_8 HO_9 HB
                          have HO_4 := n0_
                          have HO_5 := n1_
                          have HO_6 := n2_
                          have HO_8 := n3_
                          have HO_9 := n4_
                          have HB := n5_
                          clear n0_ n1_ n2_ n3_ n4_ n5_
                          have p147 : 0 ≤ (0 : Int) := (by omega)
                          have q147 : 0 < (x9_1.length : Int) := of_decide_eq_true (by first | (with_reducible assumption) | assumption)
                          obtain ⟨ad147, e147, hx147_0⟩ := Kd.at_int (Kd.Q_reads' HO_9.out).2.2 0 p147 q147
                          obtain rfl : ad137 = ad147 := (by injection e147)
                          have qi147 : (0 < x9_1.length) = True := eq_true (by omega)
                          (try rw [show ((0 : Int)).toNat = 0 from rfl] at hx147_0)
                          (try rw [Addr.add_zero'] at hx147_0)
                          replace p147 := eq_true p147
                          replace q147 := eq_true q147
                          have q38 : (1 : Int) ≤ ((x9_1.length : Int) : Int) := of_decide_eq_true (by first | (with_reducible assumption) | assumption)
                          obtain ⟨i038, hi038, _, hsz38, _⟩ := info_parts info3
                          have hcut38 := cut_from (P := Try.prog) 34 3 .i64 Try.underlying34 hi038 1 hsz38 (some ad137) x9_1.length co34 1 (by omega) q38
                          have hr38 := Kd.Q_drop (k := (1 : Int).toNat) HO_9.out (by omega)
                          obtain ⟨A38, hA38⟩ : ∃ A1, A1 = (if co34 = (1 : Int).toNat then (some ad137) else ((some ad137) : Option Addr).map (·.add ((1 : Int).toNat * 1))) := ⟨_, rfl⟩
                          obtain ⟨c38, hc38⟩ : ∃ c1, c1 = co34 - (1 : Int).toNat := ⟨_, rfl⟩
                          have hy38 : y151.length = x9_1.length - (1 : Int).toNat := (by rw [Ny151.out, List.length_drop])
                          rw [← Ny151.out] at hr38
                          rw [← hy38, ← hA38, ← hc38] at hcut38
                          replace hr38 : Kd.Q (Kd.int .i64) 3 (w36.drew) w.heap.size (fun k_ => some k_ ≠ (u4 : Value).ownBlock ∧ some k_ ≠ (u5 : Value).ownBlock ∧ some k_ ≠ (u6 : Value).ownBlock ∧ some k_ ≠ (.slice (some ad136) x8_1.length co33 : Value).ownBlock) (.slice A38 y151.length c38) y151 := (by rw [hA38, hc38, hy38]; exact hr38)
                          have HE38 : Aside0 ((Value.slice A38 y151.length c38).ownBlock = (.slice (some ad137) x9_1.length co34 : Value).ownBlock) := ⟨by rw [hA38]; split <;> (cases ((some ad137) : Option Addr) <;> rfl)⟩
                          clear hy38 hi038 hsz38 HO_9 hA38 hc38
                          have HO153 := ak hr38
                          clear hr38
                          replace q38 := eq_true q38
                          have n_ := ak (Kd.R_mono (ok' := fun k_ => (some k_ ≠ (u5 : Value).ownBlock ∧ (some k_ ≠ (u6 : Value).ownBlock ∧ (some k_ ≠ (.slice (some ad136) x8_1.length co33 : Value).ownBlock ∧ some k_ ≠ (.slice A38 y151.length c38 : Value).ownBlock)))) HO_4.out (fun k_ hk => ⟨hk.1, ⟨hk.2.1, ⟨hk.2.2.1, (by rw [HE38.out]; exact hk.2.2.2)⟩⟩⟩))
                          clear HO_4
                          have HO_4 := n_
                          clear n_
                          have n_ := ak (Kd.R_mono (ok' := fun k_ => (some k_ ≠ (u4 : Value).ownBlock ∧ (some k_ ≠ (u6 : Value).ownBlock ∧ (some k_ ≠ (.slice (some ad136) x8_1.length co33 : Value).ownBlock ∧ some k_ ≠ (.slice A38 y151.length c38 : Value).ownBlock)))) HO_5.out (fun k_ hk => ⟨hk.1, ⟨hk.2.1, ⟨hk.2.2.1, (by rw [HE38.out]; exact hk.2.2.2)⟩⟩⟩))
                          clear HO_5
                          have HO_5 := n_
                          clear n_
                          have n_ := ak (Kd.R_mono (ok' := fun k_ => (some k_ ≠ (u4 : Value).ownBlock ∧ (some k_ ≠ (u5 : Value).ownBlock ∧ (some k_ ≠ (.slice (some ad136) x8_1.length co33 : Value).ownBlock ∧ some k_ ≠ (.slice A38 y151.length c38 : Value).ownBlock)))) HO_6.out (fun k_ hk => ⟨hk.1, ⟨hk.2.1, ⟨hk.2.2.1, (by rw [HE38.out]; exact hk.2.2.2)⟩⟩⟩))
                          clear HO_6
                          have HO_6 := n_
                          clear n_
                          have n_ := ak (Kd.Q_mono (ok' := fun k_ => (some k_ ≠ (u4 : Value).ownBlock ∧ (some k_ ≠ (u5 : Value).ownBlock ∧ (some k_ ≠ (u6 : Value).ownBlock ∧ some k_ ≠ (.slice A38 y151.length c38 : Value).ownBlock)))) HO_8.out (fun k_ hk => ⟨hk.1, ⟨hk.2.1, ⟨hk.2.2.1, (by rw [HE38.out]; exact hk.2.2.2)⟩⟩⟩))
                          clear HO_8
                          have HO_8 := n_
                          clear n_
                          refine start_ (n := 10) (S := fun w' => w'.cell? ad137 = some (.int .i64 (rd x9_1 0))) (ds := [4, 5]) #[false, false, false, false, false, false, false, false, false, false] (by kernel_rfl) rfl rfl (hx147_0) (fun hHeld => ?_); refine with_tabW scopes_merge.tab15 scopes_merge.bits15 (fun HT_ HW_ => ?_)
                          generalize w36.drew = w37 at HO_4 HO_5 HO_6 HO_8 HB HO153 hx147_0 hHeld ⊢
                          refine pure_ (i := 0) (N := some 78) (v := ?_) (a' := ?_) #[true, false, false, false, false, false, false, false, false, false] rfl rfl (any_of HT_.out (by kernel_rfl)) (fun _ _ _ h => h) (Or.inl ⟨by rfl, ?_⟩) ?_ ?_
                          rotate_left
                          · intro w'
                            go_simp
                            with_reducible rfl
                          rotate_left
                          · simp only [Act.put, List.setIfInBounds_toArray, List.set_cons_zero, List.set_cons_succ, i64_w, i32_w]
                            rfl
                          refine pure_ (i := 1) (N := some 79) (v := ?_) (a' := ?_) #[true, true, false, false, false, false, false, false, false, false] rfl rfl (any_of HT_.out (by kernel_rfl)) (fun _ _ _ h => h) (Or.inl ⟨by rfl, ?_⟩) ?_ ?_
                          rotate_left
                          · intro w'
                            go_simp
                            with_reducible rfl
                          rotate_left
                          · simp only [Act.put, List.setIfInBounds_toArray, List.set_cons_zero, List.set_cons_succ, i64_w, i32_w]
                            rfl
                          refine pure_ (i := 2) (N := some 80) (v := ?_) (a' := ?_) #[true, true, true, false, false, false, false, false, false, false] rfl rfl (any_of HT_.out (by kernel_rfl)) (fun _ _ _ h => h) (Or.inl ⟨by rfl, ?_⟩) ?_ ?_
                          rotate_left
                          · intro w'
                            go_simp
                            with_reducible rfl
                          rotate_left
                          · simp only [Act.put, List.setIfInBounds_toArray, List.set_cons_zero, List.set_cons_succ, i64_w, i32_w]
                            rfl
                          refine pure_ (i := 6) (N := some 84) (v := ?_) (a' := ?_) #[true, true, true, false, false, false, true, false, false, false] rfl rfl (any_of HT_.out (by kernel_rfl)) (fun _ _ _ h => h) (Or.inl ⟨by rfl, ?_⟩) ?_ ?_
                          rotate_left
                          · intro w'
                            go_simp
                            with_reducible rfl
                          rotate_left
                          · simp only [Act.put, List.setIfInBounds_toArray, List.set_cons_zero, List.set_cons_succ, i64_w, i32_w]
                            rfl
                          refine pure_ (i := 7) (N := some 85) (v := ?_) (a' := ?_) #[true, true, true, false, false, false, true, true, false, false] rfl rfl (any_of HT_.out (by kernel_rfl)) (fun _ _ _ h => h) (Or.inl ⟨by rfl, ?_⟩) ?_ ?_
                          rotate_left
                          · intro w'
                            go_simp
                            with_reducible rfl
                          rotate_left
                          · simp only [Act.put, List.setIfInBounds_toArray, List.set_cons_zero, List.set_cons_succ, i64_w, i32_w]
                            rfl
                          refine take_ (i := 3) (N := some 81) (v := ?_) (a' := ?_) #[true, true, true, true, false, false, true, true, false, false] rfl rfl (take_ofW HT_.out HW_.out (by kernel_rfl)) (fun _ _ _ h => h) (Or.inl ⟨by rfl, ?_⟩) hHeld ?_ ?_
                          rotate_left
                          · intro w' s0
                            go_simp
                            with_reducible rfl
                          rotate_left
                          · simp only [Act.put, List.setIfInBounds_toArray, List.set_cons_zero, List.set_cons_succ, i64_w, i32_w]
                            rfl
                          refine last_ (i := 4) (N := some 82) #[true, true, true, true, true, false, true, true, false, false] rfl rfl (one_of HT_.out (by kernel_rfl)) (by decide) (fun K hK => ?_)
                          refine value_ (w1 := ?_) (v := ?_) (by rfl) rfl ?_ ?_
                          rotate_left 2
                          · go_simp
                            constructor
                            · rfl
                            · rfl
                          refine hK.out _ _ ?_
                          clear hK K
                          refine norm_ (a' := ?_) ?_ ?_
                          rotate_left
                          · show Act.put _ (some 82) _ = _
                            simp only [Act.put, List.setIfInBounds_toArray, List.set_cons_zero, List.set_cons_succ, i64_w, i32_w]
                            rfl
                          refine last_ (i := 5) (N := some 83) #[true, true, true, true, true, true, true, true, false, false] rfl rfl (one_of HT_.out (by kernel_rfl)) (by decide) (fun K hK => ?_)
                          refine Kd.R_append_step (Kd.int .i64) (w0 := w) w.heap.size (by rfl) (.tmp 78) (.tmp 82) 34 3 (.int .i64 0) 8 rfl Try.underlying34 info3 rfl (by decide) (by omega) u6 x6_1 (rd x9_1 0) [.int .i64 (rd x9_1 0)] (fun k_ => some k_ ≠ (u4 : Value).ownBlock ∧ some k_ ≠ (u5 : Value).ownBlock ∧ some k_ ≠ (.slice (some ad136) x8_1.length co33 : Value).ownBlock ∧ some k_ ≠ (.slice A38 y151.length c38 : Value).ownBlock) (fun _ => False) rfl rfl ?aP (fun _ hk => hk.elim) ?aF ?aO ?aB ?aS ?aL ?_
                          (case aP => exact rfl)
                          (case aB => exact (by repeat (first | (with_reducible first | exact HB.out | apply wA | apply wN | apply wD) | exact HB.out)))
                          (case aF => exact (fun k_ hk => ⟨Kd.fresh' (Kd.R_lt (by (with_reducible repeat (first | apply Kd.R_alloc | apply Kd.R_drewN | apply Kd.R_drew)); exact HO_4.out)) k_ hk, Kd.fresh' (Kd.R_lt (by (with_reducible repeat (first | apply Kd.R_alloc | apply Kd.R_drewN | apply Kd.R_drew)); exact HO_5.out)) k_ hk, Kd.fresh' (Kd.Q_lt (by (with_reducible repeat (first | apply Kd.Q_alloc | apply Kd.Q_drewN | apply Kd.Q_drew)); exact HO_8.out)) k_ hk, Kd.fresh' (Kd.Q_lt (by (with_reducible repeat (first | apply Kd.Q_alloc | apply Kd.Q_drewN | apply Kd.Q_drew)); exact HO153.out)) k_ hk⟩))
                          (case aO => exact (by (with_reducible repeat (first | apply Kd.R_alloc | apply Kd.R_drewN | apply Kd.R_drew)); exact HO_6.out))
                          (case aS => exact (below_size (by repeat (first | (with_reducible first | exact HB.out | apply wA | apply wN | apply wD) | exact HB.out))))
                          (case aL => have := LMc31.out; omega)
                          intro v149 w39 ho hb hg hat
                          rw [← Ny148.out] at ho
                          have n0_ := ak (Kd.R_after (ok := (fun k_ => some k_ ≠ (u5 : Value).ownBlock ∧ some k_ ≠ (.slice (some ad136) x8_1.length co33 : Value).ownBlock ∧ some k_ ≠ (.slice A38 y151.length c38 : Value).ownBlock)) (by (with_reducible repeat (first | apply Kd.R_alloc | apply Kd.R_drewN | apply Kd.R_drew)); exact Kd.R_mono HO_4.out (fun _ hk => by first | exact ⟨⟨hk.1, ⟨hk.2.2.1, hk.2.2.2⟩⟩, hk.2.1⟩ | (simp only [ne_eq] at hk ⊢; simp [hk]))) hg hat)
                          have n1_ := ak (Kd.R_after (ok := (fun k_ => some k_ ≠ (u4 : Value).ownBlock ∧ some k_ ≠ (.slice (some ad136) x8_1.length co33 : Value).ownBlock ∧ some k_ ≠ (.slice A38 y151.length c38 : Value).ownBlock)) (by (with_reducible repeat (first | apply Kd.R_alloc | apply Kd.R_drewN | apply Kd.R_drew)); exact Kd.R_mono HO_5.out (fun _ hk => by first | exact ⟨⟨hk.1, ⟨hk.2.2.1, hk.2.2.2⟩⟩, hk.2.1⟩ | (simp only [ne_eq] at hk ⊢; simp [hk]))) hg hat)
                          have n2_ := ak (Kd.Q_after (ok := (fun k_ => some k_ ≠ (u4 : Value).ownBlock ∧ some k_ ≠ (u5 : Value).ownBlock ∧ some k_ ≠ (.slice A38 y151.length c38 : Value).ownBlock)) (by (with_reducible repeat (first | apply Kd.Q_alloc | apply Kd.Q_drewN | apply Kd.Q_drew)); exact Kd.Q_mono HO_8.out (fun _ hk => by first | exact ⟨⟨hk.1, ⟨hk.2.1, hk.2.2.2⟩⟩, hk.2.2.1⟩ | (simp only [ne_eq] at hk ⊢; simp [hk]))) hg hat)
                          have n3_ := ak (Kd.Q_after (ok := (fun k_ => some k_ ≠ (u4 : Value).ownBlock ∧ some k_ ≠ (u5 : Value).ownBlock ∧ some k_ ≠ (.slice (some ad136) x8_1.length co33 : Value).ownBlock)) (by (with_reducible repeat (first | apply Kd.Q_alloc | apply Kd.Q_drewN | apply Kd.Q_drew)); exact Kd.Q_mono HO153.out (fun _ hk => by first | exact ⟨⟨hk.1, ⟨hk.2.1, hk.2.2.2⟩⟩, hk.2.2.1⟩ | (simp only [ne_eq] at hk ⊢; simp [hk]))) hg hat)
                          have n4_ := ak (hb)
                          have n5_ := ak (ho)
                          clear HO_4 HO_5 HO_8 HO153 HB HO_6
                          have HO_4 := n0_
                          have HO_5 := n1_
                          have HO_8 := n2_
                          have HO153 := n3_
                          have HB := n4_
                          have HO150 := n5_
                          clear n0_ n1_ n2_ n3_ n4_ n5_ ho hb hg hat
                          refine hK.out _ _ ?_
                          clear hK K
                          refine norm_ (a' := ?_) ?_ ?_
                          rotate_left
                          · show Act.put _ (some 83) _ = _
                            simp only [Act.put, List.setIfInBounds_toArray, List.set_cons_zero, List.set_cons_succ, i64_w, i32_w]
                            rfl
                          refine pure_ (i := 8) (N := some 6) (v := ?_) (a' := ?_) #[true, true, true, true, true, true, true, true, true, false] rfl rfl (any_of HT_.out (by kernel_rfl)) (fun _ _ _ h => h) (Or.inl ⟨by rfl, ?_⟩) ?_ ?_
                          rotate_left
                          · intro w'
                            go_simp
                            with_reducible rfl
                          rotate_left
                          · simp only [Act.put, List.setIfInBounds_toArray, List.set_cons_zero, List.set_cons_succ, i64_w, i32_w]
                            rfl
                          refine pure_ (i := 9) (N := some 9) (v := ?_) (a' := ?_) #[true, true, true, true, true, true, true, true, true, true] rfl rfl (any_of HT_.out (by kernel_rfl)) (fun _ _ _ h => h) (Or.inl ⟨by rfl, ?_⟩) ?_ ?_
                          rotate_left
                          · intro w'
                            go_simp
                            with_reducible rfl
                          rotate_left
                          · simp only [Act.put, List.setIfInBounds_toArray, List.set_cons_zero, List.set_cons_succ, i64_w, i32_w]
                            rfl
                          refine done_ (done_of HT_.out (by kernel_rfl)) ?_
                          try go_wp2
                          go_roundg k1
                          case measure => have := HK1.out; omega
                          case rel => exact ⟨(x4_1), (x5_1), (y148), (x8_1), (y151), H', ⟨by have := HK1.out; omega⟩, ⟨by (with_reducible repeat (first | apply Kd.R_alloc | apply Kd.R_drewN | apply Kd.R_drew)); exact Kd.R_mono HO_4.out (fun _ hk => by first | exact ⟨hk.1.1, ⟨hk.2, ⟨hk.1.2.1, hk.1.2.2⟩⟩⟩ | (simp only [ne_eq] at hk ⊢; simp [hk]))⟩, ⟨by (with_reducible repeat (first | apply Kd.R_alloc | apply Kd.R_drewN | apply Kd.R_drew)); exact Kd.R_mono HO_5.out (fun _ hk => by first | exact ⟨hk.1.1, ⟨hk.2, ⟨hk.1.2.1, hk.1.2.2⟩⟩⟩ | (simp only [ne_eq] at hk ⊢; simp [hk]))⟩, ⟨by (with_reducible repeat (first | apply Kd.R_alloc | apply Kd.R_drewN | apply Kd.R_drew)); exact HO150.out⟩, ⟨by (with_reducible repeat (first | apply Kd.Q_alloc | apply Kd.Q_drewN | apply Kd.Q_drew)); exact Kd.Q_mono HO_8.out (fun _ hk => by first | exact ⟨hk.1.1, ⟨hk.1.2.1, ⟨hk.2, hk.1.2.2⟩⟩⟩ | (simp only [ne_eq] at hk ⊢; simp [hk]))⟩, ⟨by (with_reducible repeat (first | apply Kd.Q_alloc | apply Kd.Q_drewN | apply Kd.Q_drew)); exact Kd.Q_mono HO153.out (fun _ hk => by first | exact ⟨hk.1.1, ⟨hk.1.2.1, ⟨hk.2, hk.1.2.2⟩⟩⟩ | (simp only [ne_eq] at hk ⊢; simp [hk]))⟩, ⟨by repeat (first | (with_reducible first | exact HB.out | apply wA | apply wN | apply wD) | exact HB.out)⟩⟩
                        · rw [if_neg c32] at H
                          exact absurd H (by simp)
                      · rw [if_neg c31] at H
                        exact absurd H (by simp)
                    · rw [if_neg c30] at H
                      have c30b0 : decide ((rd x9_1 0) < (rd x8_1 0)) = false := decide_eq_false c30
                      clear c30
                      by_cases c40 : x5_1.length < 17592186044416
                      · rw [if_pos c40] at H
                        have LMc40 := ak c40
                        clear c40
                        obtain ⟨y155, hy155⟩ : ∃ y_ : List Int, y_ = (x5_1 ++ [rd x8_1 0]) := ⟨_, rfl⟩
                        replace H : (if 1 ≤ (x8_1.length : Int) then (if 1 ≤ (x9_1.length : Int) then (scopes_merge.l0 k1 x4_1 y155 x6_1 (x8_1.drop (1 : Int).toNat) (x9_1.drop (1 : Int).toNat)) else (none)) else (none)) = some (r1, r2, r3, r4) := by first | (rw [hy155]; with_reducible exact H) | (have H2_ := (Option.bind_some _ _).symm.trans H; rw [hy155]; with_reducible exact H2_) | (have H2_ := (Option.bind_some _ _).symm.trans H; with_reducible exact H2_) | with_reducible exact H | (rw [hy155]; exact H) | exact H
                        have Ny155 := ak hy155
                        clear hy155
                        by_cases c41 : 1 ≤ (x8_1.length : Int)
                        · rw [if_pos c41] at H
                          have c41b0 := eq_true c41
                          have c41b1 : decide (1 ≤ (x8_1.length : Int)) = true := decide_eq_true c41
                          clear c41
                          obtain ⟨y158, hy158⟩ : ∃ y_ : List Int, y_ = (x8_1.drop (1 : Int).toNat) := ⟨_, rfl⟩
                          replace H : (if 1 ≤ (x9_1.length : Int) then (scopes_merge.l0 k1 x4_1 y155 x6_1 y158 (x9_1.drop (1 : Int).toNat)) else (none)) = some (r1, r2, r3, r4) := by first | (rw [hy158]; with_reducible exact H) | (have H2_ := (Option.bind_some _ _).symm.trans H; rw [hy158]; with_reducible exact H2_) | (have H2_ := (Option.bind_some _ _).symm.trans H; with_reducible exact H2_) | with_reducible exact H | (rw [hy158]; exact H) | exact H
                          have Ny158 := ak hy158
                          clear hy158
                          by_cases c42 : 1 ≤ (x9_1.length : Int)
                          · rw [if_pos c42] at H
                            have c42b0 := eq_true c42
                            have c42b1 : decide (1 ≤ (x9_1.length : Int)) = true := decide_eq_true c42
                            clear c42
                            obtain ⟨y161, hy161⟩ : ∃ y_ : List Int, y_ = (x9_1.drop (1 : Int).toNat) := ⟨_, rfl⟩
                            replace H : (scopes_merge.l0 k1 x4_1 y155 x6_1 y158 y161) = some (r1, r2, r3, r4) := by first | (rw [hy161]; with_reducible exact H) | (have H2_ := (Option.bind_some _ _).symm.trans H; rw [hy161]; with_reducible exact H2_) | (have H2_ := (Option.bind_some _ _).symm.trans H; with_reducible exact H2_) | with_reducible exact H | (rw [hy161]; exact H) | exact H
                            have Ny161 := ak hy161
                            clear hy161
                            have H' := ak H
                            clear H
                            obtain ⟨Ao43, co43, eo43, _⟩ := Kd.Q_slice HO_8.out
                            subst eo43
                            obtain ⟨Ao44, co44, eo44, _⟩ := Kd.Q_slice HO_9.out
                            subst eo44
                            try go_wp2
                            have n0_ := ak (Kd.R_drew HO_4.out)
                            have n1_ := ak (Kd.R_drew HO_5.out)
                            have n2_ := ak (Kd.R_drew HO_6.out)
                            have n3_ := ak (Kd.Q_drew HO_8.out)
                            have n4_ := ak (Kd.Q_drew HO_9.out)
                            have n5_ := ak (wD HB.out)
                            clear HO_4 HO_5 HO_6 HO_8 HO_9 HB
                            have HO_4 := n0_
                            have HO_5 := n1_
                            have HO_6 := n2_
                            have HO_8 := n3_
                            have HO_9 := n4_
                            have HB := n5_
                            clear n0_ n1_ n2_ n3_ n4_ n5_
                            have p136 : 0 ≤ (0 : Int) := (by omega)
                            have q136 : 0 < (x8_1.length : Int) := of_decide_eq_true (by first | (with_reducible assumption) | assumption)
                            obtain ⟨ad136, e136, hx136_0⟩ := Kd.at_int (Kd.Q_reads' HO_8.out).2.2 0 p136 q136
                            cases e136
                            have qi136 : (0 < x8_1.length) = True := eq_true (by omega)
                            (try rw [show ((0 : Int)).toNat = 0 from rfl] at hx136_0)
                            (try rw [Addr.add_zero'] at hx136_0)
                            replace p136 := eq_true p136
                            replace q136 := eq_true q136
                            have p137 : 0 ≤ (0 : Int) := (by omega)
                            have q137 : 0 < (x9_1.length : Int) := of_decide_eq_true (by first | (with_reducible assumption) | assumption)
                            obtain ⟨ad137, e137, hx137_0⟩ := Kd.at_int (Kd.Q_reads' HO_9.out).2.2 0 p137 q137
                            cases e137
                            have qi137 : (0 < x9_1.length) = True := eq_true (by omega)
                            (try rw [show ((0 : Int)).toNat = 0 from rfl] at hx137_0)
                            (try rw [Addr.add_zero'] at hx137_0)
                            replace p137 := eq_true p137
                            replace q137 := eq_true q137
                            refine start_ (n := 8) (S := fun w' => w'.cell? ad136 = some (.int .i64 (rd x8_1 0)) ∧ w'.cell? ad137 = some (.int .i64 (rd x9_1 0))) (ds := []) #[false, false, false, false, false, false, false, false] (by kernel_rfl) rfl rfl ⟨hx136_0, hx137_0⟩ (fun hHeld => ?_); refine with_tabW scopes_merge.tab12 scopes_merge.bits12 (fun HT_ HW_ => ?_)
                            generalize wr.drew = w45 at HO_4 HO_5 HO_6 HO_8 HO_9 HB hx136_0 hx137_0 hHeld ⊢
                            refine pure_ (i := 0) (N := some 55) (v := ?_) (a' := ?_) #[true, false, false, false, false, false, false, false] rfl rfl (any_of HT_.out (by kernel_rfl)) (fun _ _ _ h => h) (Or.inl ⟨by rfl, ?_⟩) ?_ ?_
                            rotate_left
                            · intro w'
                              go_simp
                              with_reducible rfl
                            rotate_left
                            · simp only [Act.put, List.setIfInBounds_toArray, List.set_cons_zero, List.set_cons_succ, i64_w, i32_w]
                              rfl
                            refine pure_ (i := 1) (N := some 56) (v := ?_) (a' := ?_) #[true, true, false, false, false, false, false, false] rfl rfl (any_of HT_.out (by kernel_rfl)) (fun _ _ _ h => h) (Or.inl ⟨by rfl, ?_⟩) ?_ ?_
                            rotate_left
                            · intro w'
                              go_simp
                              with_reducible rfl
                            rotate_left
                            · simp only [Act.put, List.setIfInBounds_toArray, List.set_cons_zero, List.set_cons_succ, i64_w, i32_w]
                              rfl
                            refine pure_ (i := 3) (N := some 58) (v := ?_) (a' := ?_) #[true, true, false, true, false, false, false, false] rfl rfl (any_of HT_.out (by kernel_rfl)) (fun _ _ _ h => h) (Or.inl ⟨by rfl, ?_⟩) ?_ ?_
                            rotate_left
                            · intro w'
                              go_simp
                              with_reducible rfl
                            rotate_left
                            · simp only [Act.put, List.setIfInBounds_toArray, List.set_cons_zero, List.set_cons_succ, i64_w, i32_w]
                              rfl
                            refine pure_ (i := 4) (N := some 59) (v := ?_) (a' := ?_) #[true, true, false, true, true, false, false, false] rfl rfl (any_of HT_.out (by kernel_rfl)) (fun _ _ _ h => h) (Or.inl ⟨by rfl, ?_⟩) ?_ ?_
                            rotate_left
                            · intro w'
                              go_simp
                              with_reducible rfl
                            rotate_left
                            · simp only [Act.put, List.setIfInBounds_toArray, List.set_cons_zero, List.set_cons_succ, i64_w, i32_w]
                              rfl
                            refine take_ (i := 2) (N := some 57) (v := ?_) (a' := ?_) #[true, true, true, true, true, false, false, false] rfl rfl (take_ofW HT_.out HW_.out (by kernel_rfl)) (fun _ _ _ h => h) (Or.inl ⟨by rfl, ?_⟩) hHeld ?_ ?_
                            rotate_left
                            · rintro w' ⟨s0, s1⟩
                              go_simp
                              with_reducible rfl
                            rotate_left
                            · simp only [Act.put, List.setIfInBounds_toArray, List.set_cons_zero, List.set_cons_succ, i64_w, i32_w]
                              rfl
                            refine take_ (i := 5) (N := some 60) (v := ?_) (a' := ?_) #[true, true, true, true, true, true, false, false] rfl rfl (take_ofW HT_.out HW_.out (by kernel_rfl)) (fun _ _ _ h => h) (Or.inl ⟨by rfl, ?_⟩) hHeld ?_ ?_
                            rotate_left
                            · rintro w' ⟨s0, s1⟩
                              go_simp
                              with_reducible rfl
                            rotate_left
                            · simp only [Act.put, List.setIfInBounds_toArray, List.set_cons_zero, List.set_cons_succ, i64_w, i32_w]
                              rfl
                            refine pure_ (i := 6) (N := some 61) (v := ?_) (a' := ?_) #[true, true, true, true, true, true, true, false] rfl rfl (any_of HT_.out (by kernel_rfl)) (fun _ _ _ h => h) (Or.inl ⟨by rfl, ?_⟩) ?_ ?_
                            rotate_left
                            · intro w'
                              go_simp
                              with_reducible rfl
                            rotate_left
                            · simp only [Act.put, List.setIfInBounds_toArray, List.set_cons_zero, List.set_cons_succ, i64_w, i32_w]
                              rfl
                            refine pure_ (i := 7) (N := some 54) (v := ?_) (a' := ?_) #[true, true, true, true, true, true, true, true] rfl rfl (any_of HT_.out (by kernel_rfl)) (fun _ _ _ h => h) (Or.inl ⟨by rfl, ?_⟩) ?_ ?_
                            rotate_left
                            · intro w'
                              go_simp
                              with_reducible rfl
                            rotate_left
                            · simp only [Act.put, List.setIfInBounds_toArray, List.set_cons_zero, List.set_cons_succ, i64_w, i32_w]
                              rfl
                            refine done_ (done_of HT_.out (by kernel_rfl)) ?_
                            try go_wp2
                            have n0_ := ak (Kd.R_drew HO_4.out)
                            have n1_ := ak (Kd.R_drew HO_5.out)
                            have n2_ := ak (Kd.R_drew HO_6.out)
                            have n3_ := ak (Kd.Q_drew HO_8.out)
                            have n4_ := ak (Kd.Q_drew HO_9.out)
                            have n5_ := ak (wD HB.out)
                            clear HO_4 HO_5 HO_6 HO_8 HO_9 HB
                            have HO_4 := n0_
                            have HO_5 := n1_
                            have HO_6 := n2_
                            have HO_8 := n3_
                            have HO_9 := n4_
                            have HB := n5_
                            clear n0_ n1_ n2_ n3_ n4_ n5_
                            have p145 : 0 ≤ (0 : Int) := (by omega)
                            have q145 : 0 < (x8_1.length : Int) := of_decide_eq_true (by first | (with_reducible assumption) | assumption)
                            obtain ⟨ad145, e145, hx145_0⟩ := Kd.at_int (Kd.Q_reads' HO_8.out).2.2 0 p145 q145
                            obtain rfl : ad136 = ad145 := (by injection e145)
                            have qi145 : (0 < x8_1.length) = True := eq_true (by omega)
                            (try rw [show ((0 : Int)).toNat = 0 from rfl] at hx145_0)
                            (try rw [Addr.add_zero'] at hx145_0)
                            replace p145 := eq_true p145
                            replace q145 := eq_true q145
                            have p146 : 0 ≤ (0 : Int) := (by omega)
                            have q146 : 0 < (x9_1.length : Int) := of_decide_eq_true (by first | (with_reducible assumption) | assumption)
                            obtain ⟨ad146, e146, hx146_0⟩ := Kd.at_int (Kd.Q_reads' HO_9.out).2.2 0 p146 q146
                            obtain rfl : ad137 = ad146 := (by injection e146)
                            have qi146 : (0 < x9_1.length) = True := eq_true (by omega)
                            (try rw [show ((0 : Int)).toNat = 0 from rfl] at hx146_0)
                            (try rw [Addr.add_zero'] at hx146_0)
                            replace p146 := eq_true p146
                            replace q146 := eq_true q146
                            refine start_ (n := 8) (S := fun w' => w'.cell? ad136 = some (.int .i64 (rd x8_1 0)) ∧ w'.cell? ad137 = some (.int .i64 (rd x9_1 0))) (ds := []) #[false, false, false, false, false, false, false, false] (by kernel_rfl) rfl rfl ⟨hx145_0, hx146_0⟩ (fun hHeld => ?_); refine with_tabW scopes_merge.tab14 scopes_merge.bits14 (fun HT_ HW_ => ?_)
                            generalize w45.drew = w46 at HO_4 HO_5 HO_6 HO_8 HO_9 HB hx145_0 hx146_0 hHeld ⊢
                            refine pure_ (i := 0) (N := some 71) (v := ?_) (a' := ?_) #[true, false, false, false, false, false, false, false] rfl rfl (any_of HT_.out (by kernel_rfl)) (fun _ _ _ h => h) (Or.inl ⟨by rfl, ?_⟩) ?_ ?_
                            rotate_left
                            · intro w'
                              go_simp
                              with_reducible rfl
                            rotate_left
                            · simp only [Act.put, List.setIfInBounds_toArray, List.set_cons_zero, List.set_cons_succ, i64_w, i32_w]
                              rfl
                            refine pure_ (i := 1) (N := some 72) (v := ?_) (a' := ?_) #[true, true, false, false, false, false, false, false] rfl rfl (any_of HT_.out (by kernel_rfl)) (fun _ _ _ h => h) (Or.inl ⟨by rfl, ?_⟩) ?_ ?_
                            rotate_left
                            · intro w'
                              go_simp
                              with_reducible rfl
                            rotate_left
                            · simp only [Act.put, List.setIfInBounds_toArray, List.set_cons_zero, List.set_cons_succ, i64_w, i32_w]
                              rfl
                            refine pure_ (i := 3) (N := some 74) (v := ?_) (a' := ?_) #[true, true, false, true, false, false, false, false] rfl rfl (any_of HT_.out (by kernel_rfl)) (fun _ _ _ h => h) (Or.inl ⟨by rfl, ?_⟩) ?_ ?_
                            rotate_left
                            · intro w'
                              go_simp
                              with_reducible rfl
                            rotate_left
                            · simp only [Act.put, List.setIfInBounds_toArray, List.set_cons_zero, List.set_cons_succ, i64_w, i32_w]
                              rfl
                            refine pure_ (i := 4) (N := some 75) (v := ?_) (a' := ?_) #[true, true, false, true, true, false, false, false] rfl rfl (any_of HT_.out (by kernel_rfl)) (fun _ _ _ h => h) (Or.inl ⟨by rfl, ?_⟩) ?_ ?_
                            rotate_left
                            · intro w'
                              go_simp
                              with_reducible rfl
                            rotate_left
                            · simp only [Act.put, List.setIfInBounds_toArray, List.set_cons_zero, List.set_cons_succ, i64_w, i32_w]
                              rfl
                            refine take_ (i := 2) (N := some 73) (v := ?_) (a' := ?_) #[true, true, true, true, true, false, false, false] rfl rfl (take_ofW HT_.out HW_.out (by kernel_rfl)) (fun _ _ _ h => h) (Or.inl ⟨by rfl, ?_⟩) hHeld ?_ ?_
                            rotate_left
                            · rintro w' ⟨s0, s1⟩
                              go_simp
                              with_reducible rfl
                            rotate_left
                            · simp only [Act.put, List.setIfInBounds_toArray, List.set_cons_zero, List.set_cons_succ, i64_w, i32_w]
                              rfl
                            refine take_ (i := 5) (N := some 76) (v := ?_) (a' := ?_) #[true, true, true, true, true, true, false, false] rfl rfl (take_ofW HT_.out HW_.out (by kernel_rfl)) (fun _ _ _ h => h) (Or.inl ⟨by rfl, ?_⟩) hHeld ?_ ?_
                            rotate_left
                            · rintro w' ⟨s0, s1⟩
                              go_simp
                              with_reducible rfl
                            rotate_left
                            · simp only [Act.put, List.setIfInBounds_toArray, List.set_cons_zero, List.set_cons_succ, i64_w, i32_w]
                              rfl
                            refine pure_ (i := 6) (N := some 77) (v := ?_) (a' := ?_) #[true, true, true, true, true, true, true, false] rfl rfl (any_of HT_.out (by kernel_rfl)) (fun _ _ _ h => h) (Or.inl ⟨by rfl, ?_⟩) ?_ ?_
                            rotate_left
                            · intro w'
                              go_simp
                              with_reducible rfl
                            rotate_left
                            · simp only [Act.put, List.setIfInBounds_toArray, List.set_cons_zero, List.set_cons_succ, i64_w, i32_w]
                              rfl
                            refine pure_ (i := 7) (N := some 70) (v := ?_) (a' := ?_) #[true, true, true, true, true, true, true, true] rfl rfl (any_of HT_.out (by kernel_rfl)) (fun _ _ _ h => h) (Or.inl ⟨by rfl, ?_⟩) ?_ ?_
                            rotate_left
                            · intro w'
                              go_simp
                              with_reducible rfl
                            rotate_left
                            · simp only [Act.put, List.setIfInBounds_toArray, List.set_cons_zero, List.set_cons_succ, i64_w, i32_w]
                              rfl
                            refine done_ (done_of HT_.out (by kernel_rfl)) ?_
                            try go_wp2
                            have n0_ := ak (Kd.R_drew HO_4.out)
                            have n1_ := ak (Kd.R_drew HO_5.out)
                            have n2_ := ak (Kd.R_drew HO_6.out)
                            have n3_ := ak (Kd.Q_drew HO_8.out)
                            have n4_ := ak (Kd.Q_drew HO_9.out)
                            have n5_ := ak (wD HB.out)
                            clear HO_4 HO_5 HO_6 HO_8 HO_9 HB
                            have HO_4 := n0_
                            have HO_5 := n1_
                            have HO_6 := n2_
                            have HO_8 := n3_
                            have HO_9 := n4_
                            have HB := n5_
                            clear n0_ n1_ n2_ n3_ n4_ n5_
                            have p154 : 0 ≤ (0 : Int) := (by omega)
                            have q154 : 0 < (x8_1.length : Int) := of_decide_eq_true (by first | (with_reducible assumption) | assumption)
                            obtain ⟨ad154, e154, hx154_0⟩ := Kd.at_int (Kd.Q_reads' HO_8.out).2.2 0 p154 q154
                            obtain rfl : ad136 = ad154 := (by injection e154)
                            have qi154 : (0 < x8_1.length) = True := eq_true (by omega)
                            (try rw [show ((0 : Int)).toNat = 0 from rfl] at hx154_0)
                            (try rw [Addr.add_zero'] at hx154_0)
                            replace p154 := eq_true p154
                            replace q154 := eq_true q154
                            have q48 : (1 : Int) ≤ ((x8_1.length : Int) : Int) := of_decide_eq_true (by first | (with_reducible assumption) | assumption)
                            obtain ⟨i048, hi048, _, hsz48, _⟩ := info_parts info3
                            have hcut48 := cut_from (P := Try.prog) 34 3 .i64 Try.underlying34 hi048 1 hsz48 (some ad136) x8_1.length co43 1 (by omega) q48
                            have hr48 := Kd.Q_drop (k := (1 : Int).toNat) HO_8.out (by omega)
                            obtain ⟨A48, hA48⟩ : ∃ A1, A1 = (if co43 = (1 : Int).toNat then (some ad136) else ((some ad136) : Option Addr).map (·.add ((1 : Int).toNat * 1))) := ⟨_, rfl⟩
                            obtain ⟨c48, hc48⟩ : ∃ c1, c1 = co43 - (1 : Int).toNat := ⟨_, rfl⟩
                            have hy48 : y158.length = x8_1.length - (1 : Int).toNat := (by rw [Ny158.out, List.length_drop])
                            rw [← Ny158.out] at hr48
                            rw [← hy48, ← hA48, ← hc48] at hcut48
                            replace hr48 : Kd.Q (Kd.int .i64) 3 (w46.drew) w.heap.size (fun k_ => some k_ ≠ (u4 : Value).ownBlock ∧ some k_ ≠ (u5 : Value).ownBlock ∧ some k_ ≠ (u6 : Value).ownBlock ∧ some k_ ≠ (.slice (some ad137) x9_1.length co44 : Value).ownBlock) (.slice A48 y158.length c48) y158 := (by rw [hA48, hc48, hy48]; exact hr48)
                            have HE48 : Aside0 ((Value.slice A48 y158.length c48).ownBlock = (.slice (some ad136) x8_1.length co43 : Value).ownBlock) := ⟨by rw [hA48]; split <;> (cases ((some ad136) : Option Addr) <;> rfl)⟩
                            clear hy48 hi048 hsz48 HO_8 hA48 hc48
                            have HO160 := ak hr48
                            clear hr48
                            replace q48 := eq_true q48
                            have n_ := ak (Kd.R_mono (ok' := fun k_ => (some k_ ≠ (u5 : Value).ownBlock ∧ (some k_ ≠ (u6 : Value).ownBlock ∧ (some k_ ≠ (.slice A48 y158.length c48 : Value).ownBlock ∧ some k_ ≠ (.slice (some ad137) x9_1.length co44 : Value).ownBlock)))) HO_4.out (fun k_ hk => ⟨hk.1, ⟨hk.2.1, ⟨(by rw [HE48.out]; exact hk.2.2.1), hk.2.2.2⟩⟩⟩))
                            clear HO_4
                            have HO_4 := n_
                            clear n_
                            have n_ := ak (Kd.R_mono (ok' := fun k_ => (some k_ ≠ (u4 : Value).ownBlock ∧ (some k_ ≠ (u6 : Value).ownBlock ∧ (some k_ ≠ (.slice A48 y158.length c48 : Value).ownBlock ∧ some k_ ≠ (.slice (some ad137) x9_1.length co44 : Value).ownBlock)))) HO_5.out (fun k_ hk => ⟨hk.1, ⟨hk.2.1, ⟨(by rw [HE48.out]; exact hk.2.2.1), hk.2.2.2⟩⟩⟩))
                            clear HO_5
                            have HO_5 := n_
                            clear n_
                            have n_ := ak (Kd.R_mono (ok' := fun k_ => (some k_ ≠ (u4 : Value).ownBlock ∧ (some k_ ≠ (u5 : Value).ownBlock ∧ (some k_ ≠ (.slice A48 y158.length c48 : Value).ownBlock ∧ some k_ ≠ (.slice (some ad137) x9_1.length co44 : Value).ownBlock)))) HO_6.out (fun k_ hk => ⟨hk.1, ⟨hk.2.1, ⟨(by rw [HE48.out]; exact hk.2.2.1), hk.2.2.2⟩⟩⟩))
                            clear HO_6
                            have HO_6 := n_
                            clear n_
                            have n_ := ak (Kd.Q_mono (ok' := fun k_ => (some k_ ≠ (u4 : Value).ownBlock ∧ (some k_ ≠ (u5 : Value).ownBlock ∧ (some k_ ≠ (u6 : Value).ownBlock ∧ some k_ ≠ (.slice A48 y158.length c48 : Value).ownBlock)))) HO_9.out (fun k_ hk => ⟨hk.1, ⟨hk.2.1, ⟨hk.2.2.1, (by rw [HE48.out]; exact hk.2.2.2)⟩⟩⟩))
                            clear HO_9
                            have HO_9 := n_
                            clear n_
                            have q49 : (1 : Int) ≤ ((x9_1.length : Int) : Int) := of_decide_eq_true (by first | (with_reducible assumption) | assumption)
                            obtain ⟨i049, hi049, _, hsz49, _⟩ := info_parts info3
                            have hcut49 := cut_from (P := Try.prog) 34 3 .i64 Try.underlying34 hi049 1 hsz49 (some ad137) x9_1.length co44 1 (by omega) q49
                            have hr49 := Kd.Q_drop (k := (1 : Int).toNat) HO_9.out (by omega)
                            obtain ⟨A49, hA49⟩ : ∃ A1, A1 = (if co44 = (1 : Int).toNat then (some ad137) else ((some ad137) : Option Addr).map (·.add ((1 : Int).toNat * 1))) := ⟨_, rfl⟩
                            obtain ⟨c49, hc49⟩ : ∃ c1, c1 = co44 - (1 : Int).toNat := ⟨_, rfl⟩
                            have hy49 : y161.length = x9_1.length - (1 : Int).toNat := (by rw [Ny161.out, List.length_drop])
                            rw [← Ny161.out] at hr49
                            rw [← hy49, ← hA49, ← hc49] at hcut49
                            replace hr49 : Kd.Q (Kd.int .i64) 3 (w46.drew) w.heap.size (fun k_ => some k_ ≠ (u4 : Value).ownBlock ∧ some k_ ≠ (u5 : Value).ownBlock ∧ some k_ ≠ (u6 : Value).ownBlock ∧ some k_ ≠ (.slice A48 y158.length c48 : Value).ownBlock) (.slice A49 y161.length c49) y161 := (by rw [hA49, hc49, hy49]; exact hr49)
                            have HE49 : Aside0 ((Value.slice A49 y161.length c49).ownBlock = (.slice (some ad137) x9_1.length co44 : Value).ownBlock) := ⟨by rw [hA49]; split <;> (cases ((some ad137) : Option Addr) <;> rfl)⟩
                            clear hy49 hi049 hsz49 HO_9 hA49 hc49
                            have HO163 := ak hr49
                            clear hr49
                            replace q49 := eq_true q49
                            have n_ := ak (Kd.R_mono (ok' := fun k_ => (some k_ ≠ (u5 : Value).ownBlock ∧ (some k_ ≠ (u6 : Value).ownBlock ∧ (some k_ ≠ (.slice A48 y158.length c48 : Value).ownBlock ∧ some k_ ≠ (.slice A49 y161.length c49 : Value).ownBlock)))) HO_4.out (fun k_ hk => ⟨hk.1, ⟨hk.2.1, ⟨hk.2.2.1, (by rw [HE49.out]; exact hk.2.2.2)⟩⟩⟩))
                            clear HO_4
                            have HO_4 := n_
                            clear n_
                            have n_ := ak (Kd.R_mono (ok' := fun k_ => (some k_ ≠ (u4 : Value).ownBlock ∧ (some k_ ≠ (u6 : Value).ownBlock ∧ (some k_ ≠ (.slice A48 y158.length c48 : Value).ownBlock ∧ some k_ ≠ (.slice A49 y161.length c49 : Value).ownBlock)))) HO_5.out (fun k_ hk => ⟨hk.1, ⟨hk.2.1, ⟨hk.2.2.1, (by rw [HE49.out]; exact hk.2.2.2)⟩⟩⟩))
                            clear HO_5
                            have HO_5 := n_
                            clear n_
                            have n_ := ak (Kd.R_mono (ok' := fun k_ => (some k_ ≠ (u4 : Value).ownBlock ∧ (some k_ ≠ (u5 : Value).ownBlock ∧ (some k_ ≠ (.slice A48 y158.length c48 : Value).ownBlock ∧ some k_ ≠ (.slice A49 y161.length c49 : Value).ownBlock)))) HO_6.out (fun k_ hk => ⟨hk.1, ⟨hk.2.1, ⟨hk.2.2.1, (by rw [HE49.out]; exact hk.2.2.2)⟩⟩⟩))
                            clear HO_6
                            have HO_6 := n_
                            clear n_
                            have n_ := ak (Kd.Q_mono (ok' := fun k_ => (some k_ ≠ (u4 : Value).ownBlock ∧ (some k_ ≠ (u5 : Value).ownBlock ∧ (some k_ ≠ (u6 : Value).ownBlock ∧ some k_ ≠ (.slice A49 y161.length c49 : Value).ownBlock)))) HO160.out (fun k_ hk => ⟨hk.1, ⟨hk.2.1, ⟨hk.2.2.1, (by rw [HE49.out]; exact hk.2.2.2)⟩⟩⟩))
                            clear HO160
                            have HO160 := n_
                            clear n_
                            refine start_ (n := 13) (S := fun w' => w'.cell? ad136 = some (.int .i64 (rd x8_1 0))) (ds := [4, 5]) #[false, false, false, false, false, false, false, false, false, false, false, false, false] (by kernel_rfl) rfl rfl (hx154_0) (fun hHeld => ?_); refine with_tabW scopes_merge.tab7 scopes_merge.bits7 (fun HT_ HW_ => ?_)
                            generalize w46.drew = w47 at HO_4 HO_5 HO_6 HB HO163 hx154_0 hHeld HO160 ⊢
                            refine pure_ (i := 0) (N := some 26) (v := ?_) (a' := ?_) #[true, false, false, false, false, false, false, false, false, false, false, false, false] rfl rfl (any_of HT_.out (by kernel_rfl)) (fun _ _ _ h => h) (Or.inl ⟨by rfl, ?_⟩) ?_ ?_
                            rotate_left
                            · intro w'
                              go_simp
                              with_reducible rfl
                            rotate_left
                            · simp only [Act.put, List.setIfInBounds_toArray, List.set_cons_zero, List.set_cons_succ, i64_w, i32_w]
                              rfl
                            refine pure_ (i := 1) (N := some 27) (v := ?_) (a' := ?_) #[true, true, false, false, false, false, false, false, false, false, false, false, false] rfl rfl (any_of HT_.out (by kernel_rfl)) (fun _ _ _ h => h) (Or.inl ⟨by rfl, ?_⟩) ?_ ?_
                            rotate_left
                            · intro w'
                              go_simp
                              with_reducible rfl
                            rotate_left
                            · simp only [Act.put, List.setIfInBounds_toArray, List.set_cons_zero, List.set_cons_succ, i64_w, i32_w]
                              rfl
                            refine pure_ (i := 2) (N := some 28) (v := ?_) (a' := ?_) #[true, true, true, false, false, false, false, false, false, false, false, false, false] rfl rfl (any_of HT_.out (by kernel_rfl)) (fun _ _ _ h => h) (Or.inl ⟨by rfl, ?_⟩) ?_ ?_
                            rotate_left
                            · intro w'
                              go_simp
                              with_reducible rfl
                            rotate_left
                            · simp only [Act.put, List.setIfInBounds_toArray, List.set_cons_zero, List.set_cons_succ, i64_w, i32_w]
                              rfl
                            refine pure_ (i := 6) (N := some 32) (v := ?_) (a' := ?_) #[true, true, true, false, false, false, true, false, false, false, false, false, false] rfl rfl (any_of HT_.out (by kernel_rfl)) (fun _ _ _ h => h) (Or.inl ⟨by rfl, ?_⟩) ?_ ?_
                            rotate_left
                            · intro w'
                              go_simp
                              with_reducible rfl
                            rotate_left
                            · simp only [Act.put, List.setIfInBounds_toArray, List.set_cons_zero, List.set_cons_succ, i64_w, i32_w]
                              rfl
                            refine pure_ (i := 7) (N := some 33) (v := ?_) (a' := ?_) #[true, true, true, false, false, false, true, true, false, false, false, false, false] rfl rfl (any_of HT_.out (by kernel_rfl)) (fun _ _ _ h => h) (Or.inl ⟨by rfl, ?_⟩) ?_ ?_
                            rotate_left
                            · intro w'
                              go_simp
                              with_reducible rfl
                            rotate_left
                            · simp only [Act.put, List.setIfInBounds_toArray, List.set_cons_zero, List.set_cons_succ, i64_w, i32_w]
                              rfl
                            refine pure_ (i := 8) (N := some 34) (v := ?_) (a' := ?_) #[true, true, true, false, false, false, true, true, true, false, false, false, false] rfl rfl (any_of HT_.out (by kernel_rfl)) (fun _ _ _ h => h) (Or.inl ⟨by rfl, ?_⟩) ?_ ?_
                            rotate_left
                            · intro w'
                              go_simp
                              with_reducible rfl
                            rotate_left
                            · simp only [Act.put, List.setIfInBounds_toArray, List.set_cons_zero, List.set_cons_succ, i64_w, i32_w]
                              rfl
                            refine pure_ (i := 9) (N := some 35) (v := ?_) (a' := ?_) #[true, true, true, false, false, false, true, true, true, true, false, false, false] rfl rfl (any_of HT_.out (by kernel_rfl)) (fun _ _ _ h => h) (Or.inl ⟨by rfl, ?_⟩) ?_ ?_
                            rotate_left
                            · intro w'
                              go_simp
                              with_reducible rfl
                            rotate_left
                            · simp only [Act.put, List.setIfInBounds_toArray, List.set_cons_zero, List.set_cons_succ, i64_w, i32_w]
                              rfl
                            refine take_ (i := 3) (N := some 29) (v := ?_) (a' := ?_) #[true, true, true, true, false, false, true, true, true, true, false, false, false] rfl rfl (take_ofW HT_.out HW_.out (by kernel_rfl)) (fun _ _ _ h => h) (Or.inl ⟨by rfl, ?_⟩) hHeld ?_ ?_
                            rotate_left
                            · intro w' s0
                              go_simp
                              with_reducible rfl
                            rotate_left
                            · simp only [Act.put, List.setIfInBounds_toArray, List.set_cons_zero, List.set_cons_succ, i64_w, i32_w]
                              rfl
                            refine last_ (i := 4) (N := some 30) #[true, true, true, true, true, false, true, true, true, true, false, false, false] rfl rfl (one_of HT_.out (by kernel_rfl)) (by decide) (fun K hK => ?_)
                            refine value_ (w1 := ?_) (v := ?_) (by rfl) rfl ?_ ?_
                            rotate_left 2
                            · go_simp
                              constructor
                              · rfl
                              · rfl
                            refine hK.out _ _ ?_
                            clear hK K
                            refine norm_ (a' := ?_) ?_ ?_
                            rotate_left
                            · show Act.put _ (some 30) _ = _
                              simp only [Act.put, List.setIfInBounds_toArray, List.set_cons_zero, List.set_cons_succ, i64_w, i32_w]
                              rfl
                            refine last_ (i := 5) (N := some 31) #[true, true, true, true, true, true, true, true, true, true, false, false, false] rfl rfl (one_of HT_.out (by kernel_rfl)) (by decide) (fun K hK => ?_)
                            refine Kd.R_append_step (Kd.int .i64) (w0 := w) w.heap.size (by rfl) (.tmp 26) (.tmp 30) 34 3 (.int .i64 0) 8 rfl Try.underlying34 info3 rfl (by decide) (by omega) u5 x5_1 (rd x8_1 0) [.int .i64 (rd x8_1 0)] (fun k_ => some k_ ≠ (u4 : Value).ownBlock ∧ some k_ ≠ (u6 : Value).ownBlock ∧ some k_ ≠ (.slice A48 y158.length c48 : Value).ownBlock ∧ some k_ ≠ (.slice A49 y161.length c49 : Value).ownBlock) (fun _ => False) rfl rfl ?aP (fun _ hk => hk.elim) ?aF ?aO ?aB ?aS ?aL ?_
                            (case aP => exact rfl)
                            (case aB => exact (by repeat (first | (with_reducible first | exact HB.out | apply wA | apply wN | apply wD) | exact HB.out)))
                            (case aF => exact (fun k_ hk => ⟨Kd.fresh' (Kd.R_lt (by (with_reducible repeat (first | apply Kd.R_alloc | apply Kd.R_drewN | apply Kd.R_drew)); exact HO_4.out)) k_ hk, Kd.fresh' (Kd.R_lt (by (with_reducible repeat (first | apply Kd.R_alloc | apply Kd.R_drewN | apply Kd.R_drew)); exact HO_6.out)) k_ hk, Kd.fresh' (Kd.Q_lt (by (with_reducible repeat (first | apply Kd.Q_alloc | apply Kd.Q_drewN | apply Kd.Q_drew)); exact HO160.out)) k_ hk, Kd.fresh' (Kd.Q_lt (by (with_reducible repeat (first | apply Kd.Q_alloc | apply Kd.Q_drewN | apply Kd.Q_drew)); exact HO163.out)) k_ hk⟩))
                            (case aO => exact (by (with_reducible repeat (first | apply Kd.R_alloc | apply Kd.R_drewN | apply Kd.R_drew)); exact HO_5.out))
                            (case aS => exact (below_size (by repeat (first | (with_reducible first | exact HB.out | apply wA | apply wN | apply wD) | exact HB.out))))
                            (case aL => have := LMc40.out; omega)
                            intro v156 w50 ho hb hg hat
                            rw [← Ny155.out] at ho
                            have n0_ := ak (Kd.R_after (ok := (fun k_ => some k_ ≠ (u6 : Value).ownBlock ∧ some k_ ≠ (.slice A48 y158.length c48 : Value).ownBlock ∧ some k_ ≠ (.slice A49 y161.length c49 : Value).ownBlock)) (by (with_reducible repeat (first | apply Kd.R_alloc | apply Kd.R_drewN | apply Kd.R_drew)); exact Kd.R_mono HO_4.out (fun _ hk => by first | exact ⟨⟨hk.2.1, ⟨hk.2.2.1, hk.2.2.2⟩⟩, hk.1⟩ | (simp only [ne_eq] at hk ⊢; simp [hk]))) hg hat)
                            have n1_ := ak (Kd.R_after (ok := (fun k_ => some k_ ≠ (u4 : Value).ownBlock ∧ some k_ ≠ (.slice A48 y158.length c48 : Value).ownBlock ∧ some k_ ≠ (.slice A49 y161.length c49 : Value).ownBlock)) (by (with_reducible repeat (first | apply Kd.R_alloc | apply Kd.R_drewN | apply Kd.R_drew)); exact Kd.R_mono HO_6.out (fun _ hk => by first | exact ⟨⟨hk.1, ⟨hk.2.2.1, hk.2.2.2⟩⟩, hk.2.1⟩ | (simp only [ne_eq] at hk ⊢; simp [hk]))) hg hat)
                            have n2_ := ak (Kd.Q_after (ok := (fun k_ => some k_ ≠ (u4 : Value).ownBlock ∧ some k_ ≠ (u6 : Value).ownBlock ∧ some k_ ≠ (.slice A49 y161.length c49 : Value).ownBlock)) (by (with_reducible repeat (first | apply Kd.Q_alloc | apply Kd.Q_drewN | apply Kd.Q_drew)); exact Kd.Q_mono HO160.out (fun _ hk => by first | exact ⟨⟨hk.1, ⟨hk.2.2.1, hk.2.2.2⟩⟩, hk.2.1⟩ | (simp only [ne_eq] at hk ⊢; simp [hk]))) hg hat)
                            have n3_ := ak (Kd.Q_after (ok := (fun k_ => some k_ ≠ (u4 : Value).ownBlock ∧ some k_ ≠ (u6 : Value).ownBlock ∧ some k_ ≠ (.slice A48 y158.length c48 : Value).ownBlock)) (by (with_reducible repeat (first | apply Kd.Q_alloc | apply Kd.Q_drewN | apply Kd.Q_drew)); exact Kd.Q_mono HO163.out (fun _ hk => by first | exact ⟨⟨hk.1, ⟨hk.2.2.1, hk.2.2.2⟩⟩, hk.2.1⟩ | (simp only [ne_eq] at hk ⊢; simp [hk]))) hg hat)
                            have n4_ := ak (hb)
                            have n5_ := ak (ho)
                            clear HO_4 HO_6 HO160 HO163 HB HO_5
                            have HO_4 := n0_
                            have HO_6 := n1_
                            have HO160 := n2_
                            have HO163 := n3_
                            have HB := n4_
                            have HO157 := n5_
                            clear n0_ n1_ n2_ n3_ n4_ n5_ ho hb hg hat
                            refine hK.out _ _ ?_
                            clear hK K
                            refine norm_ (a' := ?_) ?_ ?_
                            rotate_left
                            · show Act.put _ (some 31) _ = _
                              simp only [Act.put, List.setIfInBounds_toArray, List.set_cons_zero, List.set_cons_succ, i64_w, i32_w]
                              rfl
                            refine pure_ (i := 10) (N := some 5) (v := ?_) (a' := ?_) #[true, true, true, true, true, true, true, true, true, true, true, false, false] rfl rfl (any_of HT_.out (by kernel_rfl)) (fun _ _ _ h => h) (Or.inl ⟨by rfl, ?_⟩) ?_ ?_
                            rotate_left
                            · intro w'
                              go_simp
                              with_reducible rfl
                            rotate_left
                            · simp only [Act.put, List.setIfInBounds_toArray, List.set_cons_zero, List.set_cons_succ, i64_w, i32_w]
                              rfl
                            refine pure_ (i := 11) (N := some 8) (v := ?_) (a' := ?_) #[true, true, true, true, true, true, true, true, true, true, true, true, false] rfl rfl (any_of HT_.out (by kernel_rfl)) (fun _ _ _ h => h) (Or.inl ⟨by rfl, ?_⟩) ?_ ?_
                            rotate_left
                            · intro w'
                              go_simp
                              with_reducible rfl
                            rotate_left
                            · simp only [Act.put, List.setIfInBounds_toArray, List.set_cons_zero, List.set_cons_succ, i64_w, i32_w]
                              rfl
                            refine pure_ (i := 12) (N := some 9) (v := ?_) (a' := ?_) #[true, true, true, true, true, true, true, true, true, true, true, true, true] rfl rfl (any_of HT_.out (by kernel_rfl)) (fun _ _ _ h => h) (Or.inl ⟨by rfl, ?_⟩) ?_ ?_
                            rotate_left
                            · intro w'
                              go_simp
                              with_reducible rfl
                            rotate_left
                            · simp only [Act.put, List.setIfInBounds_toArray, List.set_cons_zero, List.set_cons_succ, i64_w, i32_w]
                              rfl
                            refine done_ (done_of HT_.out (by kernel_rfl)) ?_
                            try go_wp2
                            go_roundg k1
                            case measure => have := HK1.out; omega
                            case rel => exact ⟨(x4_1), (y155), (x6_1), (y158), (y161), H', ⟨by have := HK1.out; omega⟩, ⟨by (with_reducible repeat (first | apply Kd.R_alloc | apply Kd.R_drewN | apply Kd.R_drew)); exact Kd.R_mono HO_4.out (fun _ hk => by first | exact ⟨hk.2, ⟨hk.1.1, ⟨hk.1.2.1, hk.1.2.2⟩⟩⟩ | (simp only [ne_eq] at hk ⊢; simp [hk]))⟩, ⟨by (with_reducible repeat (first | apply Kd.R_alloc | apply Kd.R_drewN | apply Kd.R_drew)); exact HO157.out⟩, ⟨by (with_reducible repeat (first | apply Kd.R_alloc | apply Kd.R_drewN | apply Kd.R_drew)); exact Kd.R_mono HO_6.out (fun _ hk => by first | exact ⟨hk.1.1, ⟨hk.2, ⟨hk.1.2.1, hk.1.2.2⟩⟩⟩ | (simp only [ne_eq] at hk ⊢; simp [hk]))⟩, ⟨by (with_reducible repeat (first | apply Kd.Q_alloc | apply Kd.Q_drewN | apply Kd.Q_drew)); exact Kd.Q_mono HO160.out (fun _ hk => by first | exact ⟨hk.1.1, ⟨hk.2, ⟨hk.1.2.1, hk.1.2.2⟩⟩⟩ | (simp only [ne_eq] at hk ⊢; simp [hk]))⟩, ⟨by (with_reducible repeat (first | apply Kd.Q_alloc | apply Kd.Q_drewN | apply Kd.Q_drew)); exact Kd.Q_mono HO163.out (fun _ hk => by first | exact ⟨hk.1.1, ⟨hk.2, ⟨hk.1.2.1, hk.1.2.2⟩⟩⟩ | (simp only [ne_eq] at hk ⊢; simp [hk]))⟩, ⟨by repeat (first | (with_reducible first | exact HB.out | apply wA | apply wN | apply wD) | exact HB.out)⟩⟩
                          · rw [if_neg c42] at H
                            exact absurd H (by simp)
                        · rw [if_neg c41] at H
                          exact absurd H (by simp)
                      · rw [if_neg c40] at H
                        exact absurd H (by simp)
                · rw [if_neg c20] at H
                  exact absurd H (by simp)
              · rw [if_neg c19] at H
                exact absurd H (by simp)
    · rw [if_neg c6] at H
      have c6b0 : (t127 == 0) = false := beq_eq_false_iff_ne.mpr c6
      have c6b1 : (t127 != 0) = true := bne_iff_ne.mpr c6
      simp only [Option.some.injEq, Prod.mk.injEq] at H
      obtain ⟨rfl, rfl, rfl, rfl⟩ := H
      go_enter Try.func48, Try.ntmps48
      go_wp2
      refine wp_scope_straight ?_
      go_wp2_with (first | ((with_reducible refine gate_callee (f := 54) rfl ?_); refine goesL_ (some 12) rfl rfl Try.func54 (by kernel_rfl) rfl #[.string a0] rfl (by (try simp only [List.map_toArray, List.map_cons, List.map_nil]); first | done | rfl | (simp only [List.length_drop, List.length_take]; rfl)) ?_; (with_reducible refine (scopes_Ids.calls a0 t122 t123 _ A3.out).mono ?_); rintro e w51 ⟨v124, rfl, ho0, hb⟩; refine ⟨_, rfl, ?_⟩; have n0_ := ak (Kd.R_lower ho0 (below_size (by repeat (first | (with_reducible first | exact HB.out | apply wA | apply wN | apply wD) | exact HB.out)))); have n1_ := ak (below_step (by repeat (first | (with_reducible first | exact HB.out | apply wA | apply wN | apply wD) | exact HB.out)) hb); clear HB; have HO125 := n0_; have HB := n1_; clear n0_ n1_; (try clear hb); (try clear hb2); (try clear hk); (try clear hi); (try clear ho0)) | ((with_reducible refine gate_callee (f := 54) rfl ?_); refine goesL_ (some 20) rfl rfl Try.func54 (by kernel_rfl) rfl #[.string a1] rfl (by (try simp only [List.map_toArray, List.map_cons, List.map_nil]); first | done | rfl | (simp only [List.length_drop, List.length_take]; rfl)) ?_; (with_reducible refine (scopes_Ids.calls a1 t126 t127 _ A5.out).mono ?_); rintro e w52 ⟨v128, rfl, ho0, hb⟩; refine ⟨_, rfl, ?_⟩; have n0_ := ak (Kd.R_elder' (by (with_reducible repeat (first | apply Kd.R_alloc | apply Kd.R_drewN | apply Kd.R_drew)); exact HO125.out) (Kd.R_base ho0) hb); have n1_ := ak (Kd.R_lower (Kd.R_new' ho0 (Kd.R_lt (by (with_reducible repeat (first | apply Kd.R_alloc | apply Kd.R_drewN | apply Kd.R_drew)); exact HO125.out))) (below_size (by repeat (first | (with_reducible first | exact HB.out | apply wA | apply wN | apply wD) | exact HB.out)))); have n2_ := ak (below_step (by repeat (first | (with_reducible first | exact HB.out | apply wA | apply wN | apply wD) | exact HB.out)) hb); clear HO125; clear HB; have HO125 := n0_; have HO129 := n1_; have HB := n2_; clear n0_ n1_ n2_; (try clear hb); (try clear hb2); (try clear hk); (try clear hi); (try clear ho0)))
      refine Sc.ngr ?_
      refine bodyPost_ret (results_list (rs := [.tmp 4, .tmp 5, .tmp 6, .tmp 7]) rfl (by simp) (.tmp (.tmp (.tmp (.tmp .nil))))) rfl ?_
      exact ⟨_, _, _, by first | rfl | (simp [errW_none, errW_some] <;> rfl) | (simp [*, errW_none, errW_some] <;> rfl), by first | exact Kd.R_nil _ _ _ _ _ | exact Kd.N_nil _ _ _ _ _ | exact Kd.V_nil _ _ _ _ _ | exact Kd.Q_nil _ _ _ _ _ | exact Kd.S_nil _ _ _ _ _, by first | exact Kd.R_nil _ _ _ _ _ | exact Kd.N_nil _ _ _ _ _ | exact Kd.V_nil _ _ _ _ _ | exact Kd.Q_nil _ _ _ _ _ | exact Kd.S_nil _ _ _ _ _, by first | exact Kd.R_nil _ _ _ _ _ | exact Kd.N_nil _ _ _ _ _ | exact Kd.V_nil _ _ _ _ _ | exact Kd.Q_nil _ _ _ _ _ | exact Kd.S_nil _ _ _ _ _, by repeat (first | (with_reducible first | exact HB.out | apply wA | apply wN | apply wD) | exact HB.out)⟩
  · rw [if_neg c4] at H
    have c4b0 : (t123 == 0) = false := beq_eq_false_iff_ne.mpr c4
    have c4b1 : (t123 != 0) = true := bne_iff_ne.mpr c4
    simp only [Option.some.injEq, Prod.mk.injEq] at H
    obtain ⟨rfl, rfl, rfl, rfl⟩ := H
    go_enter Try.func48, Try.ntmps48
    go_wp2
    refine wp_scope_straight ?_
    go_wp2_with (first | ((with_reducible refine gate_callee (f := 54) rfl ?_); refine goesL_ (some 12) rfl rfl Try.func54 (by kernel_rfl) rfl #[.string a0] rfl (by (try simp only [List.map_toArray, List.map_cons, List.map_nil]); first | done | rfl | (simp only [List.length_drop, List.length_take]; rfl)) ?_; (with_reducible refine (scopes_Ids.calls a0 t122 t123 _ A3.out).mono ?_); rintro e w53 ⟨v124, rfl, ho0, hb⟩; refine ⟨_, rfl, ?_⟩; have n0_ := ak (Kd.R_lower ho0 (below_size (by repeat (first | (with_reducible first | exact HB.out | apply wA | apply wN | apply wD) | exact HB.out)))); have n1_ := ak (below_step (by repeat (first | (with_reducible first | exact HB.out | apply wA | apply wN | apply wD) | exact HB.out)) hb); clear HB; have HO125 := n0_; have HB := n1_; clear n0_ n1_; (try clear hb); (try clear hb2); (try clear hk); (try clear hi); (try clear ho0)))
    refine Sc.ngr ?_
    refine bodyPost_ret (results_list (rs := [.tmp 4, .tmp 5, .tmp 6, .tmp 7]) rfl (by simp) (.tmp (.tmp (.tmp (.tmp .nil))))) rfl ?_
    exact ⟨_, _, _, by first | rfl | (simp [errW_none, errW_some] <;> rfl) | (simp [*, errW_none, errW_some] <;> rfl), by first | exact Kd.R_nil _ _ _ _ _ | exact Kd.N_nil _ _ _ _ _ | exact Kd.V_nil _ _ _ _ _ | exact Kd.Q_nil _ _ _ _ _ | exact Kd.S_nil _ _ _ _ _, by first | exact Kd.R_nil _ _ _ _ _ | exact Kd.N_nil _ _ _ _ _ | exact Kd.V_nil _ _ _ _ _ | exact Kd.Q_nil _ _ _ _ _ | exact Kd.S_nil _ _ _ _ _, by first | exact Kd.R_nil _ _ _ _ _ | exact Kd.N_nil _ _ _ _ _ | exact Kd.V_nil _ _ _ _ _ | exact Kd.Q_nil _ _ _ _ _ | exact Kd.S_nil _ _ _ _ _, by repeat (first | (with_reducible first | exact HB.out | apply wA | apply wN | apply wD) | exact HB.out)⟩
end Go.Proofs.Ytpjcahjpjeiicaa.P
namespace Go.Proofs.Ytpjcahjpjeiicaa.P
open Go.RowKit Go.Proofs.YtpjcahjpjeiicaaW.PrintWords Go.Proofs.YtpjcahjpjeiicaaW.PrintLast Go.Proofs.YtpjcahjpjeiicaaW.PrintMore
attribute [local go_sem] max2_int min2_int max_two min_two max_three min_three max_four min_four   -- for this text's walks alone
set_option linter.unusedVariables false
set_option linter.unusedSimpArgs false
def scopes_Sub.f (k : Nat) (a0 : ByteArray) (a1 : ByteArray) : Option (Bool × Int) := (scopes_merge.f k a0 a1).bind fun bt164 => (if bt164.2.2.2 = 0 then (some (((bt164.1.length : Int) == 0), bt164.2.2.2)) else (some (false, bt164.2.2.2)))
set_option maxHeartbeats 8000000 in
set_option maxRecDepth 100000 in
theorem scopes_Sub.calls (k : Nat) (a0 : ByteArray) (a1 : ByteArray) (r1 : Bool) (r2 : Int) (w : World) (h : scopes_Sub.f k a0 a1 = some (r1, r2)) :
    Calls Try.prog 36 #[.string a0, .string a1] w fun e w' => e = .returned (.tuple #[.bool r1, .int .i64 r2]) ∧ Below w.heap.size w w' := by
  have HB := ak (Below.refl w.heap.size w)
  have H : ((scopes_merge.f k a0 a1).bind fun bt164 => (if bt164.2.2.2 = 0 then (some (((bt164.1.length : Int) == 0), bt164.2.2.2)) else (some (false, bt164.2.2.2)))) = some (r1, r2) := h
  clear h
  replace H := Option.bind_eq_some_iff.mp H
  obtain ⟨⟨t164, t165, t166, t167⟩, A30, H⟩ := H
  replace H : (if t167 = 0 then (some (((t164.length : Int) == 0), t167)) else (some (false, t167))) = some (r1, r2) := H
  have A3 := ak A30
  clear A30
  by_cases c4 : t167 = 0
  · rw [if_pos c4] at H
    have c4b0 : (t167 == 0) = true := beq_iff_eq.mpr c4
    have c4b1 : (t167 != 0) = false := bne_eq_false_iff_eq.mpr c4
    clear c4
    simp only [Option.some.injEq, Prod.mk.injEq] at H
    obtain ⟨rfl, rfl⟩ := H
    go_enter Try.func36, Try.ntmps36
    go_wp2_with (first | ((with_reducible refine gate_callee (f := 48) rfl ?_); refine goesL_ (some 13) rfl rfl Try.func48 (by kernel_rfl) rfl #[.string a0, .string a1] rfl (by (try simp only [List.map_toArray, List.map_cons, List.map_nil]); first | done | rfl | (simp only [List.length_drop, List.length_take]; rfl)) ?_; (with_reducible refine (scopes_merge.calls k a0 a1 t164 t165 t166 t167 _ A3.out).mono ?_); rintro e w5 ⟨v168, v170, v172, rfl, ho0, ho1, ho2, hb⟩; refine ⟨_, rfl, ?_⟩; have n0_ := ak (Kd.R_lower ho0 (below_size (by repeat (first | (with_reducible first | exact HB.out | apply wA | apply wN | apply wD) | exact HB.out)))); have n1_ := ak (Kd.R_lower ho1 (below_size (by repeat (first | (with_reducible first | exact HB.out | apply wA | apply wN | apply wD) | exact HB.out)))); have n2_ := ak (Kd.R_lower ho2 (below_size (by repeat (first | (with_reducible first | exact HB.out | apply wA | apply wN | apply wD) | exact HB.out)))); have n3_ := ak (below_step (by repeat (first | (with_reducible first | exact HB.out | apply wA | apply wN | apply wD) | exact HB.out)) hb); clear HB; have HO169 := n0_; have HO171 := n1_; have HO173 := n2_; have HB := n3_; clear n0_ n1_ n2_ n3_; (try clear hb); (try clear hb2); (try clear hk); (try clear hi); (try clear ho0); (try clear ho1); (try clear ho2); obtain ⟨Ao6, co6, eo6⟩ := Kd.R_slice HO169.out; subst eo6))
    go_ret2
    exact ⟨by first | rfl | (simp [errW_none, errW_some] <;> rfl) | (simp [*, errW_none, errW_some] <;> rfl), by repeat (first | (with_reducible first | exact HB.out | apply wA | apply wN | apply wD) | exact HB.out)⟩
  · rw [if_neg c4] at H
    have c4b0 : (t167 == 0) = false := beq_eq_false_iff_ne.mpr c4
    have c4b1 : (t167 != 0) = true := bne_iff_ne.mpr c4
    simp only [Option.some.injEq, Prod.mk.injEq] at H
    obtain ⟨rfl, rfl⟩ := H
    go_enter Try.func36, Try.ntmps36
    go_wp2_with (first | ((with_reducible refine gate_callee (f := 48) rfl ?_); refine goesL_ (some 13) rfl rfl Try.func48 (by kernel_rfl) rfl #[.string a0, .string a1] rfl (by (try simp only [List.map_toArray, List.map_cons, List.map_nil]); first | done | rfl | (simp only [List.length_drop, List.length_take]; rfl)) ?_; (with_reducible refine (scopes_merge.calls k a0 a1 t164 t165 t166 t167 _ A3.out).mono ?_); rintro e w7 ⟨v168, v170, v172, rfl, ho0, ho1, ho2, hb⟩; refine ⟨_, rfl, ?_⟩; have n0_ := ak (Kd.R_lower ho0 (below_size (by repeat (first | (with_reducible first | exact HB.out | apply wA | apply wN | apply wD) | exact HB.out)))); have n1_ := ak (Kd.R_lower ho1 (below_size (by repeat (first | (with_reducible first | exact HB.out | apply wA | apply wN | apply wD) | exact HB.out)))); have n2_ := ak (Kd.R_lower ho2 (below_size (by repeat (first | (with_reducible first | exact HB.out | apply wA | apply wN | apply wD) | exact HB.out)))); have n3_ := ak (below_step (by repeat (first | (with_reducible first | exact HB.out | apply wA | apply wN | apply wD) | exact HB.out)) hb); clear HB; have HO169 := n0_; have HO171 := n1_; have HO173 := n2_; have HB := n3_; clear n0_ n1_ n2_ n3_; (try clear hb); (try clear hb2); (try clear hk); (try clear hi); (try clear ho0); (try clear ho1); (try clear ho2)))
    go_ret2
    exact ⟨by first | rfl | (simp [errW_none, errW_some] <;> rfl) | (simp [*, errW_none, errW_some] <;> rfl), by repeat (first | (with_reducible first | exact HB.out | apply wA | apply wN | apply wD) | exact HB.out)⟩
end Go.Proofs.Ytpjcahjpjeiicaa.P
namespace Go.Proofs.Ytpjcahjpjeiicaa.P
open Go.RowKit Go.Proofs.YtpjcahjpjeiicaaW.PrintWords Go.Proofs.YtpjcahjpjeiicaaW.PrintLast Go.Proofs.YtpjcahjpjeiicaaW.PrintMore
attribute [local go_sem] max2_int min2_int max_two min_two max_three min_three max_four min_four   -- for this text's walks alone
set_option linter.unusedVariables false
set_option linter.unusedSimpArgs false
def scopes_Check.f (a0 : ByteArray) : Option Int := if a0.size ≤ 9223372036854775807 then some (Sc.chk a0) else none
theorem scopes_Check.calls (a0 : ByteArray) (r : Int) (w : World) (h : scopes_Check.f a0 = some r) :
    Calls Try.prog 35 #[.string a0] w fun e w' => e = .returned (.int .i64 r) ∧ Below w.heap.size w w' := by
  unfold scopes_Check.f at h
  by_cases hs : a0.size ≤ 9223372036854775807
  · rw [if_pos hs] at h
    obtain rfl := Option.some.inj h
    exact callsIn_wide.1 (Sc.check_in a0 hs w)
  · rw [if_neg hs] at h; cases h
def binds_check.f (a0_0 : ByteArray) (a0_1 : ByteArray) (a0_2 : Int) (a0_3 : Int) : Option (Int) := if a0_0.toList = ([] : List UInt8) then (some 6) else (if (a0_0.size : Int) > 24 then (some 3) else ((scopes_Check.f a0_1).bind fun t105 => (if t105 = 0 then (if a0_2 < 1 then (some 7) else (if a0_2 > 4 then (some 7) else (if a0_3 < 0 then (some 7) else (some 0)))) else (some t105))))
set_option maxHeartbeats 8000000 in
set_option maxRecDepth 100000 in
theorem binds_check.calls (a0_0 : ByteArray) (a0_1 : ByteArray) (a0_2 : Int) (a0_3 : Int) (r : Int) (w : World) (h : binds_check.f a0_0 a0_1 a0_2 a0_3 = some r) :
    Calls Try.prog 31 #[.agg #[.string a0_0, .string a0_1, .int .i64 a0_2, .int .i64 a0_3]] w fun e w' => e = .returned (.int .i64 r) ∧ Below w.heap.size w w' := by
  have hu24 := Try.underlying24
  have HB := ak (Below.refl w.heap.size w)
  have H : (if a0_0.toList = ([] : List UInt8) then (some 6) else (if (a0_0.size : Int) > 24 then (some 3) else ((scopes_Check.f a0_1).bind fun t105 => (if t105 = 0 then (if a0_2 < 1 then (some 7) else (if a0_2 > 4 then (some 7) else (if a0_3 < 0 then (some 7) else (some 0)))) else (some t105))))) = some r := h
  clear h
  by_cases c2 : a0_0.toList = ([] : List UInt8)
  · rw [if_pos c2] at H
    have c2b0 : (a0_0.toList == ([] : List UInt8)) = true := beq_iff_eq.mpr c2
    have c2b1 : (a0_0.toList != ([] : List UInt8)) = false := bne_eq_false_iff_eq.mpr c2
    clear c2
    obtain rfl := Option.some.inj H
    go_enter Try.func31, Try.ntmps31
    go_wp2_with (first | ((with_reducible refine gate_dst (N := 1) rfl ?_); refine box_event ?hg (N := 1) ?hd (cs := #[.string a0_0, .string a0_1, .int .i64 a0_2, .int .i64 a0_3]) (t := 24) ?hr ?_; (case hd => rfl); (case hg => rfl); (case hr => first | (go_simp; done) | (go_simp; rfl)); intro gb104 hg w3 hbox hb; have n0_ := ak (below_step (by repeat (first | (with_reducible first | exact HB.out | apply wA | apply wN | apply wD) | exact HB.out)) hb); have n1_ := ak (hbox); have n2_ := ak ((by rw [hg]; exact (below_size (by repeat (first | (with_reducible first | exact HB.out | apply wA | apply wN | apply wD) | exact HB.out))) : w.heap.size ≤ gb104)); have n3_ := ak ((by rw [hg]; exact (below_size (by repeat (first | (with_reducible first | exact HB.out | apply wA | apply wN | apply wD) | exact HB.out))) : w.heap.size ≤ gb104)); clear HB; have HB := n0_; have BK104 := n1_; have GW104 := n2_; have GE104 := n3_; clear n0_ n1_ n2_ n3_; clear hb hbox hg; have hcz4_0 : w3.cell? ⟨gb104, 0, none⟩ = some (.string a0_0) := (blk_cell BK104.out 0).trans rfl; have hcz4_1 : w3.cell? ⟨gb104, 1, none⟩ = some (.string a0_1) := (blk_cell BK104.out 1).trans rfl; have hcz4_2 : w3.cell? ⟨gb104, 2, none⟩ = some (.int .i64 a0_2) := (blk_cell BK104.out 2).trans rfl; have hcz4_3 : w3.cell? ⟨gb104, 3, none⟩ = some (.int .i64 a0_3) := (blk_cell BK104.out 3).trans rfl; have hfz4_0 := blk_frozen BK104.out 0; have hfz4_1 := blk_frozen BK104.out 1; have hfz4_2 := blk_frozen BK104.out 2; have hfz4_3 := blk_frozen BK104.out 3))
    go_ret
    exact ⟨by first | rfl | (simp [errW_none, errW_some] <;> rfl) | (simp [*, errW_none, errW_some] <;> rfl), by repeat (first | (with_reducible first | exact HB.out | apply wA | apply wN | apply wD | refine below_set ?_ GE104.out) | exact HB.out)⟩
  · rw [if_neg c2] at H
    have c2b0 : (a0_0.toList == ([] : List UInt8)) = false := beq_eq_false_iff_ne.mpr c2
    have c2b1 : (a0_0.toList != ([] : List UInt8)) = true := bne_iff_ne.mpr c2
    by_cases c5 : (a0_0.size : Int) > 24
    · rw [if_pos c5] at H
      have c5b0 : decide (24 < (a0_0.size : Int)) = true := decide_eq_true c5
      have c5b1 : decide (24 < a0_0.size) = true := decide_eq_true (by omega)
      clear c5
      obtain rfl := Option.some.inj H
      go_enter Try.func31, Try.ntmps31
      go_wp2_with (first | ((with_reducible refine gate_dst (N := 1) rfl ?_); refine box_event ?hg (N := 1) ?hd (cs := #[.string a0_0, .string a0_1, .int .i64 a0_2, .int .i64 a0_3]) (t := 24) ?hr ?_; (case hd => rfl); (case hg => rfl); (case hr => first | (go_simp; done) | (go_simp; rfl)); intro gb104 hg w6 hbox hb; have n0_ := ak (below_step (by repeat (first | (with_reducible first | exact HB.out | apply wA | apply wN | apply wD) | exact HB.out)) hb); have n1_ := ak (hbox); have n2_ := ak ((by rw [hg]; exact (below_size (by repeat (first | (with_reducible first | exact HB.out | apply wA | apply wN | apply wD) | exact HB.out))) : w.heap.size ≤ gb104)); have n3_ := ak ((by rw [hg]; exact (below_size (by repeat (first | (with_reducible first | exact HB.out | apply wA | apply wN | apply wD) | exact HB.out))) : w.heap.size ≤ gb104)); clear HB; have HB := n0_; have BK104 := n1_; have GW104 := n2_; have GE104 := n3_; clear n0_ n1_ n2_ n3_; clear hb hbox hg; have hcz7_0 : w6.cell? ⟨gb104, 0, none⟩ = some (.string a0_0) := (blk_cell BK104.out 0).trans rfl; have hcz7_1 : w6.cell? ⟨gb104, 1, none⟩ = some (.string a0_1) := (blk_cell BK104.out 1).trans rfl; have hcz7_2 : w6.cell? ⟨gb104, 2, none⟩ = some (.int .i64 a0_2) := (blk_cell BK104.out 2).trans rfl; have hcz7_3 : w6.cell? ⟨gb104, 3, none⟩ = some (.int .i64 a0_3) := (blk_cell BK104.out 3).trans rfl; have hfz7_0 := blk_frozen BK104.out 0; have hfz7_1 := blk_frozen BK104.out 1; have hfz7_2 := blk_frozen BK104.out 2; have hfz7_3 := blk_frozen BK104.out 3))
      go_ret
      exact ⟨by first | rfl | (simp [errW_none, errW_some] <;> rfl) | (simp [*, errW_none, errW_some] <;> rfl), by repeat (first | (with_reducible first | exact HB.out | apply wA | apply wN | apply wD | refine below_set ?_ GE104.out) | exact HB.out)⟩
    · rw [if_neg c5] at H
      have c5b0 : decide (24 < (a0_0.size : Int)) = false := decide_eq_false c5
      have c5b1 : decide (24 < a0_0.size) = false := decide_eq_false (by omega)
      clear c5
      replace H := Option.bind_eq_some_iff.mp H
      obtain ⟨t105, A80, H⟩ := H
      replace H : (if t105 = 0 then (if a0_2 < 1 then (some 7) else (if a0_2 > 4 then (some 7) else (if a0_3 < 0 then (some 7) else (some 0)))) else (some t105)) = some r := H
      have A8 := ak A80
      clear A80
      by_cases c9 : t105 = 0
      · rw [if_pos c9] at H
        have c9b0 : (t105 == 0) = true := beq_iff_eq.mpr c9
        have c9b1 : (t105 != 0) = false := bne_eq_false_iff_eq.mpr c9
        clear c9
        by_cases c10 : a0_2 < 1
        · rw [if_pos c10] at H
          have c10b0 : decide (a0_2 < 1) = true := decide_eq_true c10
          clear c10
          obtain rfl := Option.some.inj H
          go_enter Try.func31, Try.ntmps31
          go_wp2_with (first | ((with_reducible refine gate_dst (N := 1) rfl ?_); refine box_event ?hg (N := 1) ?hd (cs := #[.string a0_0, .string a0_1, .int .i64 a0_2, .int .i64 a0_3]) (t := 24) ?hr ?_; (case hd => rfl); (case hg => rfl); (case hr => first | (go_simp; done) | (go_simp; rfl)); intro gb104 hg w11 hbox hb; have n0_ := ak (below_step (by repeat (first | (with_reducible first | exact HB.out | apply wA | apply wN | apply wD) | exact HB.out)) hb); have n1_ := ak (hbox); have n2_ := ak ((by rw [hg]; exact (below_size (by repeat (first | (with_reducible first | exact HB.out | apply wA | apply wN | apply wD) | exact HB.out))) : w.heap.size ≤ gb104)); have n3_ := ak ((by rw [hg]; exact (below_size (by repeat (first | (with_reducible first | exact HB.out | apply wA | apply wN | apply wD) | exact HB.out))) : w.heap.size ≤ gb104)); clear HB; have HB := n0_; have BK104 := n1_; have GW104 := n2_; have GE104 := n3_; clear n0_ n1_ n2_ n3_; clear hb hbox hg; have hcz12_0 : w11.cell? ⟨gb104, 0, none⟩ = some (.string a0_0) := (blk_cell BK104.out 0).trans rfl; have hcz12_1 : w11.cell? ⟨gb104, 1, none⟩ = some (.string a0_1) := (blk_cell BK104.out 1).trans rfl; have hcz12_2 : w11.cell? ⟨gb104, 2, none⟩ = some (.int .i64 a0_2) := (blk_cell BK104.out 2).trans rfl; have hcz12_3 : w11.cell? ⟨gb104, 3, none⟩ = some (.int .i64 a0_3) := (blk_cell BK104.out 3).trans rfl; have hfz12_0 := blk_frozen BK104.out 0; have hfz12_1 := blk_frozen BK104.out 1; have hfz12_2 := blk_frozen BK104.out 2; have hfz12_3 := blk_frozen BK104.out 3) | ((with_reducible refine gate_callee (f := 35) rfl ?_); refine goesL_ (some 15) rfl rfl Try.func35 (by kernel_rfl) rfl #[.string a0_1] rfl (by (try simp only [List.map_toArray, List.map_cons, List.map_nil]); first | done | rfl | (simp only [List.length_drop, List.length_take]; rfl)) ?_; (with_reducible refine (scopes_Check.calls a0_1 t105 _ A8.out).mono ?_); rintro e w13 ⟨rfl, hb⟩; refine ⟨_, rfl, ?_⟩; have n0_ := ak (blk_below (g := gb104) (o := .cells #[.string a0_0, .string a0_1, .int .i64 a0_2, .int .i64 a0_3] 24 (0, 0)) (by (with_reducible repeat (first | refine bN ?_ _ | refine bD ?_ | refine bA ?_ _)); exact BK104.out) hb); have n1_ := ak (below_step (by repeat (first | (with_reducible first | exact HB.out | apply wA | apply wN | apply wD | refine below_set ?_ GE104.out) | exact HB.out)) hb); clear BK104; clear HB; have BK104 := n0_; have HB := n1_; clear n0_ n1_; (try clear hb); (try clear hb2); (try clear hk); (try clear hi); have hcz14_0 : w13.cell? ⟨gb104, 0, none⟩ = some (.string a0_0) := (blk_cell BK104.out 0).trans rfl; have hcz14_1 : w13.cell? ⟨gb104, 1, none⟩ = some (.string a0_1) := (blk_cell BK104.out 1).trans rfl; have hcz14_2 : w13.cell? ⟨gb104, 2, none⟩ = some (.int .i64 a0_2) := (blk_cell BK104.out 2).trans rfl; have hcz14_3 : w13.cell? ⟨gb104, 3, none⟩ = some (.int .i64 a0_3) := (blk_cell BK104.out 3).trans rfl; have hfz14_0 := blk_frozen BK104.out 0; have hfz14_1 := blk_frozen BK104.out 1; have hfz14_2 := blk_frozen BK104.out 2; have hfz14_3 := blk_frozen BK104.out 3))
          go_ret
          exact ⟨by first | rfl | (simp [errW_none, errW_some] <;> rfl) | (simp [*, errW_none, errW_some] <;> rfl), by repeat (first | (with_reducible first | exact HB.out | apply wA | apply wN | apply wD | refine below_set ?_ GE104.out) | exact HB.out)⟩
        · rw [if_neg c10] at H
          have c10b0 : decide (a0_2 < 1) = false := decide_eq_false c10
          clear c10
          by_cases c15 : a0_2 > 4
          · rw [if_pos c15] at H
            have c15b0 : decide (4 < a0_2) = true := decide_eq_true c15
            clear c15
            obtain rfl := Option.some.inj H
            go_enter Try.func31, Try.ntmps31
            go_wp2_with (first | ((with_reducible refine gate_dst (N := 1) rfl ?_); refine box_event ?hg (N := 1) ?hd (cs := #[.string a0_0, .string a0_1, .int .i64 a0_2, .int .i64 a0_3]) (t := 24) ?hr ?_; (case hd => rfl); (case hg => rfl); (case hr => first | (go_simp; done) | (go_simp; rfl)); intro gb104 hg w16 hbox hb; have n0_ := ak (below_step (by repeat (first | (with_reducible first | exact HB.out | apply wA | apply wN | apply wD) | exact HB.out)) hb); have n1_ := ak (hbox); have n2_ := ak ((by rw [hg]; exact (below_size (by repeat (first | (with_reducible first | exact HB.out | apply wA | apply wN | apply wD) | exact HB.out))) : w.heap.size ≤ gb104)); have n3_ := ak ((by rw [hg]; exact (below_size (by repeat (first | (with_reducible first | exact HB.out | apply wA | apply wN | apply wD) | exact HB.out))) : w.heap.size ≤ gb104)); clear HB; have HB := n0_; have BK104 := n1_; have GW104 := n2_; have GE104 := n3_; clear n0_ n1_ n2_ n3_; clear hb hbox hg; have hcz17_0 : w16.cell? ⟨gb104, 0, none⟩ = some (.string a0_0) := (blk_cell BK104.out 0).trans rfl; have hcz17_1 : w16.cell? ⟨gb104, 1, none⟩ = some (.string a0_1) := (blk_cell BK104.out 1).trans rfl; have hcz17_2 : w16.cell? ⟨gb104, 2, none⟩ = some (.int .i64 a0_2) := (blk_cell BK104.out 2).trans rfl; have hcz17_3 : w16.cell? ⟨gb104, 3, none⟩ = some (.int .i64 a0_3) := (blk_cell BK104.out 3).trans rfl; have hfz17_0 := blk_frozen BK104.out 0; have hfz17_1 := blk_frozen BK104.out 1; have hfz17_2 := blk_frozen BK104.out 2; have hfz17_3 := blk_frozen BK104.out 3) | ((with_reducible refine gate_callee (f := 35) rfl ?_); refine goesL_ (some 15) rfl rfl Try.func35 (by kernel_rfl) rfl #[.string a0_1] rfl (by (try simp only [List.map_toArray, List.map_cons, List.map_nil]); first | done | rfl | (simp only [List.length_drop, List.length_take]; rfl)) ?_; (with_reducible refine (scopes_Check.calls a0_1 t105 _ A8.out).mono ?_); rintro e w18 ⟨rfl, hb⟩; refine ⟨_, rfl, ?_⟩; have n0_ := ak (blk_below (g := gb104) (o := .cells #[.string a0_0, .string a0_1, .int .i64 a0_2, .int .i64 a0_3] 24 (0, 0)) (by (with_reducible repeat (first | refine bN ?_ _ | refine bD ?_ | refine bA ?_ _)); exact BK104.out) hb); have n1_ := ak (below_step (by repeat (first | (with_reducible first | exact HB.out | apply wA | apply wN | apply wD | refine below_set ?_ GE104.out) | exact HB.out)) hb); clear BK104; clear HB; have BK104 := n0_; have HB := n1_; clear n0_ n1_; (try clear hb); (try clear hb2); (try clear hk); (try clear hi); have hcz19_0 : w18.cell? ⟨gb104, 0, none⟩ = some (.string a0_0) := (blk_cell BK104.out 0).trans rfl; have hcz19_1 : w18.cell? ⟨gb104, 1, none⟩ = some (.string a0_1) := (blk_cell BK104.out 1).trans rfl; have hcz19_2 : w18.cell? ⟨gb104, 2, none⟩ = some (.int .i64 a0_2) := (blk_cell BK104.out 2).trans rfl; have hcz19_3 : w18.cell? ⟨gb104, 3, none⟩ = some (.int .i64 a0_3) := (blk_cell BK104.out 3).trans rfl; have hfz19_0 := blk_frozen BK104.out 0; have hfz19_1 := blk_frozen BK104.out 1; have hfz19_2 := blk_frozen BK104.out 2; have hfz19_3 := blk_frozen BK104.out 3))
            go_ret
            exact ⟨by first | rfl | (simp [errW_none, errW_some] <;> rfl) | (simp [*, errW_none, errW_some] <;> rfl), by repeat (first | (with_reducible first | exact HB.out | apply wA | apply wN | apply wD | refine below_set ?_ GE104.out) | exact HB.out)⟩
          · rw [if_neg c15] at H
            have c15b0 : decide (4 < a0_2) = false := decide_eq_false c15
            clear c15
            by_cases c20 : a0_3 < 0
            · rw [if_pos c20] at H
              have c20b0 : decide (a0_3 < 0) = true := decide_eq_true c20
              clear c20
              obtain rfl := Option.some.inj H
              go_enter Try.func31, Try.ntmps31
              go_wp2_with (first | ((with_reducible refine gate_dst (N := 1) rfl ?_); refine box_event ?hg (N := 1) ?hd (cs := #[.string a0_0, .string a0_1, .int .i64 a0_2, .int .i64 a0_3]) (t := 24) ?hr ?_; (case hd => rfl); (case hg => rfl); (case hr => first | (go_simp; done) | (go_simp; rfl)); intro gb104 hg w21 hbox hb; have n0_ := ak (below_step (by repeat (first | (with_reducible first | exact HB.out | apply wA | apply wN | apply wD) | exact HB.out)) hb); have n1_ := ak (hbox); have n2_ := ak ((by rw [hg]; exact (below_size (by repeat (first | (with_reducible first | exact HB.out | apply wA | apply wN | apply wD) | exact HB.out))) : w.heap.size ≤ gb104)); have n3_ := ak ((by rw [hg]; exact (below_size (by repeat (first | (with_reducible first | exact HB.out | apply wA | apply wN | apply wD) | exact HB.out))) : w.heap.size ≤ gb104)); clear HB; have HB := n0_; have BK104 := n1_; have GW104 := n2_; have GE104 := n3_; clear n0_ n1_ n2_ n3_; clear hb hbox hg; have hcz22_0 : w21.cell? ⟨gb104, 0, none⟩ = some (.string a0_0) := (blk_cell BK104.out 0).trans rfl; have hcz22_1 : w21.cell? ⟨gb104, 1, none⟩ = some (.string a0_1) := (blk_cell BK104.out 1).trans rfl; have hcz22_2 : w21.cell? ⟨gb104, 2, none⟩ = some (.int .i64 a0_2) := (blk_cell BK104.out 2).trans rfl; have hcz22_3 : w21.cell? ⟨gb104, 3, none⟩ = some (.int .i64 a0_3) := (blk_cell BK104.out 3).trans rfl; have hfz22_0 := blk_frozen BK104.out 0; have hfz22_1 := blk_frozen BK104.out 1; have hfz22_2 := blk_frozen BK104.out 2; have hfz22_3 := blk_frozen BK104.out 3) | ((with_reducible refine gate_callee (f := 35) rfl ?_); refine goesL_ (some 15) rfl rfl Try.func35 (by kernel_rfl) rfl #[.string a0_1] rfl (by (try simp only [List.map_toArray, List.map_cons, List.map_nil]); first | done | rfl | (simp only [List.length_drop, List.length_take]; rfl)) ?_; (with_reducible refine (scopes_Check.calls a0_1 t105 _ A8.out).mono ?_); rintro e w23 ⟨rfl, hb⟩; refine ⟨_, rfl, ?_⟩; have n0_ := ak (blk_below (g := gb104) (o := .cells #[.string a0_0, .string a0_1, .int .i64 a0_2, .int .i64 a0_3] 24 (0, 0)) (by (with_reducible repeat (first | refine bN ?_ _ | refine bD ?_ | refine bA ?_ _)); exact BK104.out) hb); have n1_ := ak (below_step (by repeat (first | (with_reducible first | exact HB.out | apply wA | apply wN | apply wD | refine below_set ?_ GE104.out) | exact HB.out)) hb); clear BK104; clear HB; have BK104 := n0_; have HB := n1_; clear n0_ n1_; (try clear hb); (try clear hb2); (try clear hk); (try clear hi); have hcz24_0 : w23.cell? ⟨gb104, 0, none⟩ = some (.string a0_0) := (blk_cell BK104.out 0).trans rfl; have hcz24_1 : w23.cell? ⟨gb104, 1, none⟩ = some (.string a0_1) := (blk_cell BK104.out 1).trans rfl; have hcz24_2 : w23.cell? ⟨gb104, 2, none⟩ = some (.int .i64 a0_2) := (blk_cell BK104.out 2).trans rfl; have hcz24_3 : w23.cell? ⟨gb104, 3, none⟩ = some (.int .i64 a0_3) := (blk_cell BK104.out 3).trans rfl; have hfz24_0 := blk_frozen BK104.out 0; have hfz24_1 := blk_frozen BK104.out 1; have hfz24_2 := blk_frozen BK104.out 2; have hfz24_3 := blk_frozen BK104.out 3))
              go_ret
              exact ⟨by first | rfl | (simp [errW_none, errW_some] <;> rfl) | (simp [*, errW_none, errW_some] <;> rfl), by repeat (first | (with_reducible first | exact HB.out | apply wA | apply wN | apply wD | refine below_set ?_ GE104.out) | exact HB.out)⟩
            · rw [if_neg c20] at H
              have c20b0 : decide (a0_3 < 0) = false := decide_eq_false c20
              clear c20
              obtain rfl := Option.some.inj H
              go_enter Try.func31, Try.ntmps31
              go_wp2_with (first | ((with_reducible refine gate_dst (N := 1) rfl ?_); refine box_event ?hg (N := 1) ?hd (cs := #[.string a0_0, .string a0_1, .int .i64 a0_2, .int .i64 a0_3]) (t := 24) ?hr ?_; (case hd => rfl); (case hg => rfl); (case hr => first | (go_simp; done) | (go_simp; rfl)); intro gb104 hg w25 hbox hb; have n0_ := ak (below_step (by repeat (first | (with_reducible first | exact HB.out | apply wA | apply wN | apply wD) | exact HB.out)) hb); have n1_ := ak (hbox); have n2_ := ak ((by rw [hg]; exact (below_size (by repeat (first | (with_reducible first | exact HB.out | apply wA | apply wN | apply wD) | exact HB.out))) : w.heap.size ≤ gb104)); have n3_ := ak ((by rw [hg]; exact (below_size (by repeat (first | (with_reducible first | exact HB.out | apply wA | apply wN | apply wD) | exact HB.out))) : w.heap.size ≤ gb104)); clear HB; have HB := n0_; have BK104 := n1_; have GW104 := n2_; have GE104 := n3_; clear n0_ n1_ n2_ n3_; clear hb hbox hg; have hcz26_0 : w25.cell? ⟨gb104, 0, none⟩ = some (.string a0_0) := (blk_cell BK104.out 0).trans rfl; have hcz26_1 : w25.cell? ⟨gb104, 1, none⟩ = some (.string a0_1) := (blk_cell BK104.out 1).trans rfl; have hcz26_2 : w25.cell? ⟨gb104, 2, none⟩ = some (.int .i64 a0_2) := (blk_cell BK104.out 2).trans rfl; have hcz26_3 : w25.cell? ⟨gb104, 3, none⟩ = some (.int .i64 a0_3) := (blk_cell BK104.out 3).trans rfl; have hfz26_0 := blk_frozen BK104.out 0; have hfz26_1 := blk_frozen BK104.out 1; have hfz26_2 := blk_frozen BK104.out 2; have hfz26_3 := blk_frozen BK104.out 3) | ((with_reducible refine gate_callee (f := 35) rfl ?_); refine goesL_ (some 15) rfl rfl Try.func35 (by kernel_rfl) rfl #[.string a0_1] rfl (by (try simp only [List.map_toArray, List.map_cons, List.map_nil]); first | done | rfl | (simp only [List.length_drop, List.length_take]; rfl)) ?_; (with_reducible refine (scopes_Check.calls a0_1 t105 _ A8.out).mono ?_); rintro e w27 ⟨rfl, hb⟩; refine ⟨_, rfl, ?_⟩; have n0_ := ak (blk_below (g := gb104) (o := .cells #[.string a0_0, .string a0_1, .int .i64 a0_2, .int .i64 a0_3] 24 (0, 0)) (by (with_reducible repeat (first | refine bN ?_ _ | refine bD ?_ | refine bA ?_ _)); exact BK104.out) hb); have n1_ := ak (below_step (by repeat (first | (with_reducible first | exact HB.out | apply wA | apply wN | apply wD | refine below_set ?_ GE104.out) | exact HB.out)) hb); clear BK104; clear HB; have BK104 := n0_; have HB := n1_; clear n0_ n1_; (try clear hb); (try clear hb2); (try clear hk); (try clear hi); have hcz28_0 : w27.cell? ⟨gb104, 0, none⟩ = some (.string a0_0) := (blk_cell BK104.out 0).trans rfl; have hcz28_1 : w27.cell? ⟨gb104, 1, none⟩ = some (.string a0_1) := (blk_cell BK104.out 1).trans rfl; have hcz28_2 : w27.cell? ⟨gb104, 2, none⟩ = some (.int .i64 a0_2) := (blk_cell BK104.out 2).trans rfl; have hcz28_3 : w27.cell? ⟨gb104, 3, none⟩ = some (.int .i64 a0_3) := (blk_cell BK104.out 3).trans rfl; have hfz28_0 := blk_frozen BK104.out 0; have hfz28_1 := blk_frozen BK104.out 1; have hfz28_2 := blk_frozen BK104.out 2; have hfz28_3 := blk_frozen BK104.out 3))
              go_ret
              exact ⟨by first | rfl | (simp [errW_none, errW_some] <;> rfl) | (simp [*, errW_none, errW_some] <;> rfl), by repeat (first | (with_reducible first | exact HB.out | apply wA | apply wN | apply wD | refine below_set ?_ GE104.out) | exact HB.out)⟩
      · rw [if_neg c9] at H
        have c9b0 : (t105 == 0) = false := beq_eq_false_iff_ne.mpr c9
        have c9b1 : (t105 != 0) = true := bne_iff_ne.mpr c9
        obtain rfl := Option.some.inj H
        go_enter Try.func31, Try.ntmps31
        go_wp2_with (first | ((with_reducible refine gate_dst (N := 1) rfl ?_); refine box_event ?hg (N := 1) ?hd (cs := #[.string a0_0, .string a0_1, .int .i64 a0_2, .int .i64 a0_3]) (t := 24) ?hr ?_; (case hd => rfl); (case hg => rfl); (case hr => first | (go_simp; done) | (go_simp; rfl)); intro gb104 hg w29 hbox hb; have n0_ := ak (below_step (by repeat (first | (with_reducible first | exact HB.out | apply wA | apply wN | apply wD) | exact HB.out)) hb); have n1_ := ak (hbox); have n2_ := ak ((by rw [hg]; exact (below_size (by repeat (first | (with_reducible first | exact HB.out | apply wA | apply wN | apply wD) | exact HB.out))) : w.heap.size ≤ gb104)); have n3_ := ak ((by rw [hg]; exact (below_size (by repeat (first | (with_reducible first | exact HB.out | apply wA | apply wN | apply wD) | exact HB.out))) : w.heap.size ≤ gb104)); clear HB; have HB := n0_; have BK104 := n1_; have GW104 := n2_; have GE104 := n3_; clear n0_ n1_ n2_ n3_; clear hb hbox hg; have hcz30_0 : w29.cell? ⟨gb104, 0, none⟩ = some (.string a0_0) := (blk_cell BK104.out 0).trans rfl; have hcz30_1 : w29.cell? ⟨gb104, 1, none⟩ = some (.string a0_1) := (blk_cell BK104.out 1).trans rfl; have hcz30_2 : w29.cell? ⟨gb104, 2, none⟩ = some (.int .i64 a0_2) := (blk_cell BK104.out 2).trans rfl; have hcz30_3 : w29.cell? ⟨gb104, 3, none⟩ = some (.int .i64 a0_3) := (blk_cell BK104.out 3).trans rfl; have hfz30_0 := blk_frozen BK104.out 0; have hfz30_1 := blk_frozen BK104.out 1; have hfz30_2 := blk_frozen BK104.out 2; have hfz30_3 := blk_frozen BK104.out 3) | ((with_reducible refine gate_callee (f := 35) rfl ?_); refine goesL_ (some 15) rfl rfl Try.func35 (by kernel_rfl) rfl #[.string a0_1] rfl (by (try simp only [List.map_toArray, List.map_cons, List.map_nil]); first | done | rfl | (simp only [List.length_drop, List.length_take]; rfl)) ?_; (with_reducible refine (scopes_Check.calls a0_1 t105 _ A8.out).mono ?_); rintro e w31 ⟨rfl, hb⟩; refine ⟨_, rfl, ?_⟩; have n0_ := ak (blk_below (g := gb104) (o := .cells #[.string a0_0, .string a0_1, .int .i64 a0_2, .int .i64 a0_3] 24 (0, 0)) (by (with_reducible repeat (first | refine bN ?_ _ | refine bD ?_ | refine bA ?_ _)); exact BK104.out) hb); have n1_ := ak (below_step (by repeat (first | (with_reducible first | exact HB.out | apply wA | apply wN | apply wD | refine below_set ?_ GE104.out) | exact HB.out)) hb); clear BK104; clear HB; have BK104 := n0_; have HB := n1_; clear n0_ n1_; (try clear hb); (try clear hb2); (try clear hk); (try clear hi)))
        go_ret
        exact ⟨by first | rfl | (simp [errW_none, errW_some] <;> rfl) | (simp [*, errW_none, errW_some] <;> rfl), by repeat (first | (with_reducible first | exact HB.out | apply wA | apply wN | apply wD | refine below_set ?_ GE104.out) | exact HB.out)⟩
def binds_of.f (a0_0 : ByteArray) (a0_1 : ByteArray) (a0_2 : Int) (a0_3 : Int) : Option (ByteArray × ByteArray) := some (a0_0, a0_1)
set_option maxHeartbeats 8000000 in
set_option maxRecDepth 100000 in
theorem binds_of.calls (a0_0 : ByteArray) (a0_1 : ByteArray) (a0_2 : Int) (a0_3 : Int) (r1 : ByteArray) (r2 : ByteArray) (w : World) (h : binds_of.f a0_0 a0_1 a0_2 a0_3 = some (r1, r2)) :
    Calls Try.prog 32 #[.agg #[.string a0_0, .string a0_1, .int .i64 a0_2, .int .i64 a0_3]] w fun e w' => e = .returned (.agg #[.string r1, .string r2]) ∧ Below w.heap.size w w' := by
  have hu24 := Try.underlying24
  have hu60 := Try.underlying60
  have HB := ak (Below.refl w.heap.size w)
  have H : (some (a0_0, a0_1)) = some (r1, r2) := h
  clear h
  simp only [Option.some.injEq, Prod.mk.injEq] at H
  obtain ⟨rfl, rfl⟩ := H
  go_enter Try.func32, Try.ntmps32
  go_wp2_with (first | ((with_reducible refine gate_dst (N := 1) rfl ?_); refine box_event ?hg (N := 1) ?hd (cs := #[.string a0_0, .string a0_1, .int .i64 a0_2, .int .i64 a0_3]) (t := 24) ?hr ?_; (case hd => rfl); (case hg => rfl); (case hr => first | (go_simp; done) | (go_simp; rfl)); intro gb106 hg w2 hbox hb; have n0_ := ak (below_step (by repeat (first | (with_reducible first | exact HB.out | apply wA | apply wN | apply wD) | exact HB.out)) hb); have n1_ := ak (hbox); have n2_ := ak ((by rw [hg]; exact (below_size (by repeat (first | (with_reducible first | exact HB.out | apply wA | apply wN | apply wD) | exact HB.out))) : w.heap.size ≤ gb106)); have n3_ := ak ((by rw [hg]; exact (below_size (by repeat (first | (with_reducible first | exact HB.out | apply wA | apply wN | apply wD) | exact HB.out))) : w.heap.size ≤ gb106)); clear HB; have HB := n0_; have BK106 := n1_; have GW106 := n2_; have GE106 := n3_; clear n0_ n1_ n2_ n3_; clear hb hbox hg) | ((with_reducible refine gate_dst (N := 2) rfl ?_); refine box_event ?hg (N := 2) ?hd (cs := #[.string (⟨#[]⟩ : ByteArray), .string (⟨#[]⟩ : ByteArray)]) (t := 60) ?hr ?_; (case hd => rfl); (case hg => rfl); (case hr => first | (go_simp; done) | (go_simp; rfl)); intro gb107 hg w3 hbox hb; have n0_ := ak (blk_below (g := gb106) (o := .cells #[.string a0_0, .string a0_1, .int .i64 a0_2, .int .i64 a0_3] 24 (0, 0)) (by (with_reducible repeat (first | refine bN ?_ _ | refine bD ?_ | refine bA ?_ _)); exact BK106.out) hb); have n1_ := ak (below_step (by repeat (first | (with_reducible first | exact HB.out | apply wA | apply wN | apply wD | refine below_set ?_ GE106.out) | exact HB.out)) hb); have n2_ := ak (hbox); have n3_ := ak ((by rw [hg]; exact (below_size (by repeat (first | (with_reducible first | exact HB.out | apply wA | apply wN | apply wD | refine below_set ?_ GE106.out) | exact HB.out))) : w.heap.size ≤ gb107)); have n4_ := ak ((by rw [hg]; exact (below_size (by repeat (first | (with_reducible first | exact HB.out | apply wA | apply wN | apply wD | refine below_set ?_ GE106.out) | exact HB.out))) : w.heap.size ≤ gb107)); have n5_ := ak ((by rw [hg]; exact Nat.ne_of_lt (blk_lt (g := gb106) (o := .cells #[.string a0_0, .string a0_1, .int .i64 a0_2, .int .i64 a0_3] 24 (0, 0)) (by (with_reducible repeat (first | refine bN ?_ _ | refine bD ?_ | refine bA ?_ _)); exact BK106.out)) : gb106 ≠ gb107)); have n6_ := ak ((by rw [hg]; exact Nat.ne_of_gt (blk_lt (g := gb106) (o := .cells #[.string a0_0, .string a0_1, .int .i64 a0_2, .int .i64 a0_3] 24 (0, 0)) (by (with_reducible repeat (first | refine bN ?_ _ | refine bD ?_ | refine bA ?_ _)); exact BK106.out)) : gb107 ≠ gb106)); clear BK106; clear HB; have BK106 := n0_; have HB := n1_; have BK107 := n2_; have GW107 := n3_; have GE107 := n4_; have NB106_107 := n5_; have NB107_106 := n6_; clear n0_ n1_ n2_ n3_ n4_ n5_ n6_; clear hb hbox hg; have hnb4 := NB106_107.out; have hnc4 := NB107_106.out; have hcz5_0 : w3.cell? ⟨gb106, 0, none⟩ = some (.string a0_0) := (blk_cell BK106.out 0).trans rfl; have hcz5_1 : w3.cell? ⟨gb106, 1, none⟩ = some (.string a0_1) := (blk_cell BK106.out 1).trans rfl; have hcz5_2 : w3.cell? ⟨gb106, 2, none⟩ = some (.int .i64 a0_2) := (blk_cell BK106.out 2).trans rfl; have hcz5_3 : w3.cell? ⟨gb106, 3, none⟩ = some (.int .i64 a0_3) := (blk_cell BK106.out 3).trans rfl; have hfz5_0 := blk_frozen BK106.out 0; have hfz5_1 := blk_frozen BK106.out 1; have hfz5_2 := blk_frozen BK106.out 2; have hfz5_3 := blk_frozen BK106.out 3; have hcz6_0 : w3.cell? ⟨gb107, 0, none⟩ = some (.string (⟨#[]⟩ : ByteArray)) := (blk_cell BK107.out 0).trans rfl; have hcz6_1 : w3.cell? ⟨gb107, 1, none⟩ = some (.string (⟨#[]⟩ : ByteArray)) := (blk_cell BK107.out 1).trans rfl; have hfz6_0 := blk_frozen BK107.out 0; have hfz6_1 := blk_frozen BK107.out 1))
  refine bodyPost_ret (results_cell_row rfl _ _ gb107 60 #[.string a0_0, .string a0_1] (0, 0) _ rfl (by (with_reducible repeat (first | refine bN ?_ _ | refine bD ?_ | refine bA ?_ _)); refine blk_put (cs := #[.string a0_0, .string (⟨#[]⟩ : ByteArray)]) ?_ 1 _ rfl; (with_reducible repeat (first | refine bN ?_ _ | refine bD ?_ | refine bA ?_ _)); refine blk_put (cs := #[.string (⟨#[]⟩ : ByteArray), .string (⟨#[]⟩ : ByteArray)]) ?_ 0 _ rfl; (with_reducible repeat (first | refine bN ?_ _ | refine bD ?_ | refine bA ?_ _)); exact BK107.out) Try.underlying60 rfl (by kernel_rfl)) rfl ?_
  exact ⟨by first | rfl | (simp [errW_none, errW_some] <;> rfl) | (simp [*, errW_none, errW_some] <;> rfl), by repeat (first | (with_reducible first | exact HB.out | apply wA | apply wN | apply wD | refine below_set ?_ GE106.out | refine below_set ?_ GE107.out) | exact HB.out)⟩
end Go.Proofs.Ytpjcahjpjeiicaa.P
namespace Go.Proofs.Ytpjcahjpjeiicaa.P
open Go.RowKit Go.Proofs.YtpjcahjpjeiicaaW.PrintWords Go.Proofs.YtpjcahjpjeiicaaW.PrintLast Go.Proofs.YtpjcahjpjeiicaaW.PrintMore
attribute [local go_sem] max2_int min2_int max_two min_two max_three min_three max_four min_four   -- for this text's walks alone
set_option linter.unusedVariables false
set_option linter.unusedSimpArgs false
theorem Sc.lookup60 {w : World} {ops : Array Oper} {rest : List Oper} {o : Oper} {a : Act} {Q : Exit → Act → World → Prop}
    (hg : o.guard = none) (m x : Operand) (hop : o.op = Op.lookup 57 m x false) (b n : Nat) (seen : List (ByteArray × ByteArray))
    (hm : a.eval m = .map (some b)) (hown : w.ownsMap Try.prog 60 (plainElem Try.prog 4) b n (Sc.met seen)) (s1 s2 : ByteArray) (hx : a.eval x = .agg #[.string s1, .string s2]) (h1 : s1.size ≤ maxLen) (h2 : s2.size ≤ maxLen) (hs : Sc.small seen)
    (hK : wpList Try.prog ops Q rest (a.put o.dst (.bool (Sc.hasKey seen s1 s2))) w) :
    wpList Try.prog ops Q (o :: rest) a w := by
  refine wpList_plain hg fun K' hK' => ?_
  obtain ⟨v, ps, hrun, hv⟩ := hown.lookup Sc.law60 Try.underlying57 (z := .bool false) (zd := .lit (.bool false)) (zp := []) (by kernel_rfl) (plainElem_bool Try.underlying4 false) (Sc.keyOf60 h1 h2)
  rw [Sc.met_at seen hs s1 s2 h1 h2] at hv
  have hv' : v = .bool (Sc.hasKey seen s1 s2) := by
    unfold plainElem at hv
    rw [Try.underlying4] at hv
    cases v <;> simp at hv
    rw [hv.1]
  subst hv'
  unfold Oper.wp
  simp [execOp, hop, hm, hx, hrun, Result.andThen]
  exact hK' _ _ hK
theorem Sc.met_cons (x : ByteArray × ByteArray) (r : List (ByteArray × ByteArray)) : Sc.met (x :: r) = (Sc.met r).put (Sc.kl x.1 x.2) (.lit (.bool true)) := rfl
theorem Sc.meas (i n : Nat) (h : i < n) (hn : n ≤ 1000) : n - (intOf (Value.int IntKind.i64 (wrap64 ((i : Int) + 1)))).toNat < n - (intOf (Value.int IntKind.i64 ((i : Nat) : Int))).toNat := by
  have hw : wrap64 ((i : Int) + 1) = ((i + 1 : Nat) : Int) := by unfold wrap64; omega
  rw [hw]
  show n - (i + 1) < n - i
  omega
theorem Sc.cell4 (W : World) (t : TypeId) (x0 x1 x2 x3 : Value) : (W.alloc (.cells #[x0, x1, x2, x3] t)).cell? ⟨W.heap.size, 0, none⟩ = some x0 ∧ (W.alloc (.cells #[x0, x1, x2, x3] t)).cell? ⟨W.heap.size, 1, none⟩ = some x1 ∧ (W.alloc (.cells #[x0, x1, x2, x3] t)).cell? ⟨W.heap.size, 2, none⟩ = some x2 ∧ (W.alloc (.cells #[x0, x1, x2, x3] t)).cell? ⟨W.heap.size, 3, none⟩ = some x3 := by
  have h := World.alloc_heap_new W (.cells #[x0, x1, x2, x3] t)
  refine ⟨?_, ?_, ?_, ?_⟩ <;> (unfold World.cell?; rw [h]; rfl)
theorem Sc.ownsMap_below {w w' : World} {B b n : Nat} {k : TypeId} {R : Value → Option (DataW Unit × List MemPlace)} {D : DataW Unit} (h : w.ownsMap Try.prog k R b n D) (hb : Below B w w') (hlt : b < B) : w'.ownsMap Try.prog k R b n D := by
  obtain ⟨es, clock, hh, r⟩ := h
  exact ⟨es, clock, (hb.block b hlt).trans hh, r⟩
def binds_Check.go : List S24 → Int → List (ByteArray × ByteArray) → Option (Int × Int)
  | [], _, _ => some (0, 0)
  | b :: r, i, seen => if b.f0.size ≤ maxLen ∧ b.f1.size ≤ maxLen then (binds_check.f b.f0 b.f1 b.f2 b.f3).bind fun e => (if e = 0 then (if Sc.hasKey seen b.f0 b.f1 = true then some (i, 8) else binds_Check.go r (i + 1) ((b.f0, b.f1) :: seen)) else some (i, e)) else none
def binds_Check.f (l0 : List S24) : Option (Int × Int) := if (l0.length : Int) > 1000 then some (-1, 3) else binds_Check.go l0 0 []
set_option maxHeartbeats 1000000 in
set_option maxRecDepth 100000 in
theorem binds_Check.calls (A0 : Option Addr) (c0 : Nat) (l0 : List S24) (r1 r2 : Int) (w : World) (hr0 : Kd.C k24 w A0 l0.length l0) (hc0 : l0.length ≤ c0) (h : binds_Check.f l0 = some (r1, r2)) :
    Calls Try.prog 12 #[.slice A0 l0.length c0] w fun e w' => e = .returned (.tuple #[.int .i64 r1, .int .i64 r2]) ∧ Below w.heap.size w w' := by
  have HR0 := ak hr0
  clear hr0 hc0
  unfold binds_Check.f at h
  by_cases c1 : (l0.length : Int) > 1000
  · rw [if_pos c1] at h
    obtain ⟨rfl, rfl⟩ := Prod.mk.inj (Option.some.inj h)
    have c1b : decide ((1000 : Int) < (l0.length : Int)) = true := decide_eq_true c1
    clear c1 h
    go_enter Try.func12, Try.ntmps12
    go_wp2
    go_ret2
    exact ⟨rfl, Below.refl _ _⟩
  · rw [if_neg c1] at h
    have c1b : decide ((1000 : Int) < (l0.length : Int)) = false := decide_eq_false c1
    have hlen : l0.length ≤ 1000 := by omega
    clear c1
    have H := ak h
    have HL := ak hlen
    clear h hlen
    have hM := World.ownsMap_made w Try.prog 60 (plainElem (H := Unit) Try.prog 4)
    have HB0 := ak (wA (Below.refl w.heap.size w) (.map #[] 0))
    have HM := ak hM
    clear hM
    go_enter Try.func12, Try.ntmps12
    have hmk := run_makeMap (P := Try.prog) 57 w
    go_wp2
    clear hmk
    go_loopw [14] (fun v14 wr => ∃ (i : Nat) (seen : List (ByteArray × ByteArray)), v14 = .int .i64 (i : Int) ∧ i ≤ l0.length ∧ Aside0 (binds_Check.go (l0.drop i) i seen = some (r1, r2)) ∧ Aside0 (Below w.heap.size w wr) ∧ Aside0 (wr.ownsMap Try.prog 60 (plainElem Try.prog 4) w.heap.size i (Sc.met seen)) ∧ Aside0 (Sc.small seen) ∧ Aside0 (w.heap.size < wr.heap.size))
      (fun v14 _ => l0.length - (intOf v14).toNat)
    case atStart => exact ⟨0, [], rfl, Nat.zero_le _, H, HB0, HM, ⟨by intro x hx; cases hx⟩, ⟨by simp⟩⟩
    case round =>
      clear HB0 HM H
      obtain ⟨i, seen, rfl, hi, H, HB, HM, HS, HZ⟩ := hrel
      by_cases hlt : i < l0.length
      · have h0 := H.out
        clear H
        rw [List.drop_eq_getElem_cons hlt] at h0
        unfold binds_Check.go at h0
        obtain ⟨hsz, h1⟩ : (l0[i].f0.size ≤ maxLen ∧ l0[i].f1.size ≤ maxLen) ∧ _ = some (r1, r2) := by
          by_cases hsz : l0[i].f0.size ≤ maxLen ∧ l0[i].f1.size ≤ maxLen
          · rw [if_pos hsz] at h0; exact ⟨hsz, h0⟩
          · rw [if_neg hsz] at h0; cases h0
        clear h0
        obtain ⟨e, hce, h⟩ := Option.bind_eq_some_iff.1 h1
        clear h1
        obtain ⟨ad, rfl, hx0, hx1, hx2, hx3⟩ := at_T24 HR0.out (i : Int) (by omega) (by omega)
        have hrd : rd_T24 l0 (i : Int) = l0[i] := by simp [rd_T24, hlt]
        rw [hrd] at hx0 hx1 hx2 hx3
        simp only [Int.toNat_natCast] at hx0 hx1 hx2 hx3
        replace hx0 := (HB.out.cell (World.block_lt_of_cell? w _ hx0)).trans hx0
        replace hx1 := (HB.out.cell (World.block_lt_of_cell? w _ hx1)).trans hx1
        replace hx2 := (HB.out.cell (World.block_lt_of_cell? w _ hx2)).trans hx2
        replace hx3 := (HB.out.cell (World.block_lt_of_cell? w _ hx3)).trans hx3
        clear hrd
        generalize l0[i] = b at hsz hce h hx0 hx1 hx2 hx3
        obtain ⟨b0, b1, b2, b3⟩ := b
        dsimp only at hsz hce h hx0 hx1 hx2 hx3
        have hlt' : (i : Int) < (l0.length : Int) := by omega
        have HSZ := ak hsz
        have HCE := ak hce
        have H := ak h
        have HL2 := ak hlt
        clear h hsz hce hlt
        by_cases he : e = 0
        · subst he
          have h := H.out
          rw [if_pos rfl] at h
          clear H
          obtain ⟨hk, hhk⟩ : ∃ hk, Sc.hasKey seen b0 b1 = hk := ⟨_, rfl⟩
          rw [hhk] at h
          have HH := ak hhk
          have H := ak h
          clear h hhk
          have C4 := ak (Sc.cell4 wr 24 (.string b0) (.string b1) (.int .i64 b2) (.int .i64 b3))
          have hof : binds_of.f b0 b1 b2 b3 = some (b0, b1) := rfl
          have HOF := ak hof
          clear hof
          have HI : Aside0 (i < maxLen) := ⟨by have := HL.out; unfold maxLen; omega⟩
          cases hk with
          | true =>
            obtain ⟨rfl, rfl⟩ := Prod.mk.inj (Option.some.inj H.out)
            clear H
            go_wp2_with (first
              | (go_at_call 31; refine (binds_check.calls b0 b1 b2 b3 _ _ HCE.out).mono ?_; rintro e' w2 ⟨rfl, hb⟩; have y0 := (hb.cell (p := ⟨wr.heap.size, 0, none⟩) (by simp)).trans C4.out.1; have y1 := (hb.cell (p := ⟨wr.heap.size, 1, none⟩) (by simp)).trans C4.out.2.1; have y2 := (hb.cell (p := ⟨wr.heap.size, 2, none⟩) (by simp)).trans C4.out.2.2.1; have y3 := (hb.cell (p := ⟨wr.heap.size, 3, none⟩) (by simp)).trans C4.out.2.2.2; have HB2 := ak (below_step (wA HB.out _) hb); have HM2 := ak (Sc.ownsMap_below (HM.out.alloc _) hb (Nat.lt_trans HZ.out (by simp))); have HZ2 := ak (Nat.lt_of_lt_of_le (Nat.lt_trans HZ.out (by simp)) hb.size); clear hb)
              | (go_at_call 32; refine (binds_of.calls b0 b1 b2 b3 _ _ _ HOF.out).mono ?_; rintro e' w3 ⟨rfl, hb⟩; replace y0 := (hb.cell (World.block_lt_of_cell? _ _ y0)).trans y0; replace y1 := (hb.cell (World.block_lt_of_cell? _ _ y1)).trans y1; replace y2 := (hb.cell (World.block_lt_of_cell? _ _ y2)).trans y2; replace y3 := (hb.cell (World.block_lt_of_cell? _ _ y3)).trans y3; have n1_ := ak (below_step HB2.out hb); have n2_ := ak (Sc.ownsMap_below HM2.out hb HZ2.out); have n3_ := ak (Nat.lt_of_lt_of_le HZ2.out hb.size); clear HB2 HM2 HZ2 hb; have HB2 := n1_; have HM2 := n2_; have HZ2 := n3_; clear n1_ n2_ n3_)
              | (at_lookup; refine Sc.lookup60 rfl _ _ rfl _ _ seen rfl HM2.out b0 b1 rfl HSZ.out.1 HSZ.out.2 HS.out ?_; rw [HH.out]))
            go_ret2
            exact ⟨rfl, HB2.out⟩
          | false =>
            have H2 : Aside0 (binds_Check.go (l0.drop (i + 1)) ((i + 1 : Nat) : Int) ((b0, b1) :: seen) = some (r1, r2)) := ⟨by have := H.out; simpa using this⟩
            have HS2 : Aside0 (Sc.small ((b0, b1) :: seen)) := ⟨fun x hx => by
              rcases List.mem_cons.1 hx with rfl | hx
              · exact HSZ.out
              · exact HS.out x hx⟩
            clear H
            go_wp2_with (first
              | (go_at_call 31; refine (binds_check.calls b0 b1 b2 b3 _ _ HCE.out).mono ?_; rintro e' w2 ⟨rfl, hb⟩; have y0 := (hb.cell (p := ⟨wr.heap.size, 0, none⟩) (by simp)).trans C4.out.1; have y1 := (hb.cell (p := ⟨wr.heap.size, 1, none⟩) (by simp)).trans C4.out.2.1; have y2 := (hb.cell (p := ⟨wr.heap.size, 2, none⟩) (by simp)).trans C4.out.2.2.1; have y3 := (hb.cell (p := ⟨wr.heap.size, 3, none⟩) (by simp)).trans C4.out.2.2.2; have HB2 := ak (below_step (wA HB.out _) hb); have HM2 := ak (Sc.ownsMap_below (HM.out.alloc _) hb (Nat.lt_trans HZ.out (by simp))); have HZ2 := ak (Nat.lt_of_lt_of_le (Nat.lt_trans HZ.out (by simp)) hb.size); clear hb)
              | (go_at_call 32; refine (binds_of.calls b0 b1 b2 b3 _ _ _ HOF.out).mono ?_; rintro e' w3 ⟨rfl, hb⟩; replace y0 := (hb.cell (World.block_lt_of_cell? _ _ y0)).trans y0; replace y1 := (hb.cell (World.block_lt_of_cell? _ _ y1)).trans y1; replace y2 := (hb.cell (World.block_lt_of_cell? _ _ y2)).trans y2; replace y3 := (hb.cell (World.block_lt_of_cell? _ _ y3)).trans y3; have n1_ := ak (below_step HB2.out hb); have n2_ := ak (Sc.ownsMap_below HM2.out hb HZ2.out); have n3_ := ak (Nat.lt_of_lt_of_le HZ2.out hb.size); clear HB2 HM2 HZ2 hb; have HB2 := n1_; have HM2 := n2_; have HZ2 := n3_; clear n1_ n2_ n3_)
              | (at_lookup; refine Sc.lookup60 rfl _ _ rfl _ _ seen rfl HM2.out b0 b1 rfl HSZ.out.1 HSZ.out.2 HS.out ?_; rw [HH.out])
              | (at_mapUpdate; refine wpList_mapUpdate_own _ rfl _ _ _ 57 rfl 60 4 Sc.law60 Try.underlying57 _ w.heap.size i _ rfl HM2.out HI.out _ _ (Sc.kl b0 b1) rfl rfl (Sc.keyOf60 HSZ.out.1 HSZ.out.2) (.lit (.bool true)) [] (plainElem_bool Try.underlying4 true) ?_; intro w5 hown5 hg5; have n1_ := ak (HB2.out.grown hg5 HB2.out.size (fun k e => by cases e; exact Nat.le_refl _)); have n2_ : Aside0 (w5.ownsMap Try.prog 60 (plainElem Try.prog 4) w.heap.size (i + 1) (Sc.met ((b0, b1) :: seen))) := ⟨by rw [Sc.met_cons]; exact hown5⟩; have n3_ := ak (Nat.lt_of_lt_of_le HZ2.out hg5.size); clear HB2 HM2 HZ2 hg5 hown5; have HB2 := n1_; have HM2 := n2_; have HZ2 := n3_; clear n1_ n2_ n3_))
            have hl2 := HL2.out
            have hw : wrap64 ((i : Int) + 1) = ((i + 1 : Nat) : Int) := by have := HL.out; unfold wrap64; omega
            go_roundw
            case rel => exact ⟨i + 1, (b0, b1) :: seen, by rw [← hw], by omega, H2, HB2, HM2, HS2, HZ2⟩
            case measure =>
              exact Sc.meas i l0.length hl2 HL.out
        · have heb : (e != 0) = true := bne_iff_ne.mpr he
          have h := H.out
          rw [if_neg he] at h
          obtain ⟨rfl, rfl⟩ := Prod.mk.inj (Option.some.inj h)
          clear h H he HM HS
          go_wp2_with (go_at_call 31; refine (binds_check.calls b0 b1 b2 b3 _ _ HCE.out).mono ?_; rintro e' w2 ⟨rfl, hb⟩)
          go_ret2
          exact ⟨rfl, below_step (wA HB.out _) hb⟩
      · obtain rfl : i = l0.length := by omega
        have h := H.out
        rw [List.drop_length] at h
        obtain ⟨rfl, rfl⟩ := Prod.mk.inj (Option.some.inj h)
        clear h H HM HS
        go_wp2
        go_ret2
        exact ⟨rfl, HB.out⟩
end Go.Proofs.Ytpjcahjpjeiicaa.P
namespace Go.Proofs.Ytpjcahjpjeiicaa.P
open Go.RowKit Go.Proofs.YtpjcahjpjeiicaaW.PrintWords Go.Proofs.YtpjcahjpjeiicaaW.PrintLast Go.Proofs.YtpjcahjpjeiicaaW.PrintMore
attribute [local go_sem] max2_int min2_int max_two min_two max_three min_three max_four min_four   -- for this text's walks alone
set_option linter.unusedVariables false
set_option linter.unusedSimpArgs false
def binds_Candidates.l0 : Nat → ByteArray → ByteArray → List Int → List (S24) → Int → Int → Option (List Int × Int)
  | 0, _, _, _, _, _, _ => none
  | k + 1, x1, x2, x11, x29, x30, x31 => if x31 < x30 then (if 0 ≤ x31 then (if x31 < (x29.length : Int) then ((scopes_Sub.f k ((rd_T24 x29 x31).f1) x2).bind fun bt179 => (if ((rd_T24 x29 x31).f0).toList = x1.toList then (if bt179.1 = true then (if x11.length < 17592186044416 then (binds_Candidates.l0 k x1 x2 (x11 ++ [x31]) x29 x30 (wrap64 (x31 + 1))) else (none)) else (binds_Candidates.l0 k x1 x2 x11 x29 x30 (wrap64 (x31 + 1)))) else (binds_Candidates.l0 k x1 x2 x11 x29 x30 (wrap64 (x31 + 1))))) else (none)) else (none)) else (some (x11, 0))
def binds_Candidates.f (k : Nat) (l0 : List (S24)) (a1 : ByteArray) (a2 : ByteArray) : Option (List Int × Int) := (binds_Check.f l0).bind fun bt174 => (if bt174.2 = 0 then ((scopes_Check.f a2).bind fun t176 => (if t176 = 0 then (binds_Candidates.l0 k a1 a2 ([] : List Int) l0 (l0.length : Int) 0) else (some (([] : List Int), t176)))) else (some (([] : List Int), bt174.2)))
set_option maxHeartbeats 8000000 in
set_option maxRecDepth 100000 in
theorem binds_Candidates.calls (k : Nat) (A0 : Option Addr) (c0 : Nat) (l0 : List (S24)) (a1 : ByteArray) (a2 : ByteArray) (r1 : List Int) (r2 : Int) (w : World) (hr0 : Kd.C k24 w A0 l0.length l0) (hc0 : l0.length ≤ c0) (h : binds_Candidates.f k l0 a1 a2 = some (r1, r2)) :
    Calls Try.prog 17 #[.slice A0 l0.length c0, .string a1, .string a2] w fun e w' => ∃ v0_ : Value, e = .returned (.tuple #[v0_, .int .i64 r2]) ∧ Kd.R (Kd.int .i64) 3 w' w.heap.size (fun _ => True) v0_ r1 ∧ Below w.heap.size w w' := by
  have hu24 := Try.underlying24
  have HR0 := ak hr0
  have HC0 := ak hc0
  clear hr0 hc0
  have HB := ak (Below.refl w.heap.size w)
  have H : ((binds_Check.f l0).bind fun bt174 => (if bt174.2 = 0 then ((scopes_Check.f a2).bind fun t176 => (if t176 = 0 then (binds_Candidates.l0 k a1 a2 ([] : List Int) l0 (l0.length : Int) 0) else (some (([] : List Int), t176)))) else (some (([] : List Int), bt174.2)))) = some (r1, r2) := h
  clear h
  replace H := Option.bind_eq_some_iff.mp H
  obtain ⟨⟨t174, t175⟩, A40, H⟩ := H
  replace H : (if t175 = 0 then ((scopes_Check.f a2).bind fun t176 => (if t176 = 0 then (binds_Candidates.l0 k a1 a2 ([] : List Int) l0 (l0.length : Int) 0) else (some (([] : List Int), t176)))) else (some (([] : List Int), t175))) = some (r1, r2) := H
  have A4 := ak A40
  clear A40
  by_cases c5 : t175 = 0
  · rw [if_pos c5] at H
    have c5b0 : (t175 == 0) = true := beq_iff_eq.mpr c5
    have c5b1 : (t175 != 0) = false := bne_eq_false_iff_eq.mpr c5
    clear c5
    replace H := Option.bind_eq_some_iff.mp H
    obtain ⟨t176, A60, H⟩ := H
    replace H : (if t176 = 0 then (binds_Candidates.l0 k a1 a2 ([] : List Int) l0 (l0.length : Int) 0) else (some (([] : List Int), t176))) = some (r1, r2) := H
    have A6 := ak A60
    clear A60
    by_cases c7 : t176 = 0
    · rw [if_pos c7] at H
      have c7b0 : (t176 == 0) = true := beq_iff_eq.mpr c7
      have c7b1 : (t176 != 0) = false := bne_eq_false_iff_eq.mpr c7
      clear c7
      have H' := ak H
      clear H
      go_enter Try.func17, Try.ntmps17
      go_wp2_with (first | ((with_reducible refine gate_callee (f := 12) rfl ?_); refine goesL_ (some 18) rfl rfl Try.func12 (by kernel_rfl) rfl #[.slice A0 l0.length c0] rfl (by (try simp only [List.map_toArray, List.map_cons, List.map_nil]); first | done | rfl | (simp only [List.length_drop, List.length_take]; rfl)) ?_; (with_reducible refine (binds_Check.calls _ _ l0 t174 t175 _ ?side1 ?side2 A4.out).mono ?_); (case side1 => repeat (first | exact HR0.out | (with_reducible refine Kd.C_alloc ?_ _) | (with_reducible refine Kd.C_drewN ?_ _) | (with_reducible refine Kd.C_drew ?_))); (case side2 => exact HC0.out); rintro e w8 ⟨rfl, hb⟩; refine ⟨_, rfl, ?_⟩; have n0_ := ak (below_step (by repeat (first | (with_reducible first | exact HB.out | apply wA | apply wN | apply wD) | exact HB.out)) hb); clear HB; have HB := n0_; clear n0_; (try clear hb); (try clear hb2); (try clear hk); (try clear hi)) | ((with_reducible refine gate_callee (f := 35) rfl ?_); refine goesL_ (some 25) rfl rfl Try.func35 (by kernel_rfl) rfl #[.string a2] rfl (by (try simp only [List.map_toArray, List.map_cons, List.map_nil]); first | done | rfl | (simp only [List.length_drop, List.length_take]; rfl)) ?_; (with_reducible refine (scopes_Check.calls a2 t176 _ A6.out).mono ?_); rintro e w9 ⟨rfl, hb⟩; refine ⟨_, rfl, ?_⟩; have n0_ := ak (below_step (by repeat (first | (with_reducible first | exact HB.out | apply wA | apply wN | apply wD) | exact HB.out)) hb); clear HB; have HB := n0_; clear n0_; (try clear hb); (try clear hb2); (try clear hk); (try clear hi)))
      go_loopg [11, 31] k (fun kq v11 v31 w' => ∃ (x11_1 : List Int) (x31_1 : Int), v31 = .int .i64 x31_1 ∧ Aside0 (binds_Candidates.l0 kq a1 a2 x11_1 l0 (l0.length : Int) x31_1 = some (r1, r2)) ∧ Aside0 (kq ≤ k) ∧ Aside0 (Kd.R (Kd.int .i64) 3 w' w.heap.size (fun _ => True) v11 x11_1) ∧ Aside0 (Below w.heap.size w w'))
      case atStart => exact ⟨(([] : List Int)), (0), (by first | rfl | (simp; done) | (simp [*]; done)), H', ⟨Nat.le_refl _⟩, ⟨by first | exact Kd.R_nil _ _ _ _ _ | exact Kd.N_nil _ _ _ _ _ | exact Kd.V_nil _ _ _ _ _ | exact Kd.Q_nil _ _ _ _ _ | exact Kd.S_nil _ _ _ _ _⟩, ⟨by repeat (first | (with_reducible first | exact HB.out | apply wA | apply wN | apply wD) | exact HB.out)⟩⟩
      case round =>
        clear H'
        try clear c1
        try clear p2
        try clear c3
        try clear c5
        try clear c5b0
        try clear c5b1
        try clear c7
        try clear c7b0
        try clear c7b1
        obtain ⟨x11_1, x31_1, rfl, HA, HK1, HO_11, HB⟩ := hrel
        cases gk with
        | zero => exact absurd HA.out (by simp [binds_Candidates.l0])
        | succ k1 =>
          have H := HA.out
          clear HA
          simp only [binds_Candidates.l0] at H
          by_cases c10 : x31_1 < (l0.length : Int)
          · rw [if_pos c10] at H
            have c10b0 : decide (x31_1 < (l0.length : Int)) = true := decide_eq_true c10
            clear c10
            by_cases c11 : 0 ≤ x31_1
            · rw [if_pos c11] at H
              have c11b0 : decide (0 ≤ x31_1) = true := decide_eq_true c11
              clear c11
              by_cases c12 : x31_1 < (l0.length : Int)
              · rw [if_pos c12] at H
                have c12b0 : decide (x31_1 < (l0.length : Int)) = true := decide_eq_true c12
                clear c12
                replace H := Option.bind_eq_some_iff.mp H
                obtain ⟨⟨t179, t180⟩, A130, H⟩ := H
                replace H : (if ((rd_T24 l0 x31_1).f0).toList = a1.toList then (if t179 = true then (if x11_1.length < 17592186044416 then (binds_Candidates.l0 k1 a1 a2 (x11_1 ++ [x31_1]) l0 (l0.length : Int) (wrap64 (x31_1 + 1))) else (none)) else (binds_Candidates.l0 k1 a1 a2 x11_1 l0 (l0.length : Int) (wrap64 (x31_1 + 1)))) else (binds_Candidates.l0 k1 a1 a2 x11_1 l0 (l0.length : Int) (wrap64 (x31_1 + 1)))) = some (r1, r2) := H
                have A13 := ak A130
                clear A130
                by_cases c14 : ((rd_T24 l0 x31_1).f0).toList = a1.toList
                · rw [if_pos c14] at H
                  have c14b0 : (((rd_T24 l0 x31_1).f0).toList == a1.toList) = true := beq_iff_eq.mpr c14
                  have c14b1 : (((rd_T24 l0 x31_1).f0).toList != a1.toList) = false := bne_eq_false_iff_eq.mpr c14
                  clear c14
                  by_cases c15 : t179 = true
                  · subst c15
                    have H1 : (if x11_1.length < 17592186044416 then (binds_Candidates.l0 k1 a1 a2 (x11_1 ++ [x31_1]) l0 (l0.length : Int) (wrap64 (x31_1 + 1))) else (none)) = some (r1, r2) := by rw [if_pos rfl] at H; exact H
                    clear H
                    have H := H1
                    clear H1
                    by_cases c16 : x11_1.length < 17592186044416
                    · rw [if_pos c16] at H
                      have LMc16 := ak c16
                      clear c16
                      obtain ⟨y181, hy181⟩ : ∃ y_ : List Int, y_ = (x11_1 ++ [x31_1]) := ⟨_, rfl⟩
                      replace H : (binds_Candidates.l0 k1 a1 a2 y181 l0 (l0.length : Int) (wrap64 (x31_1 + 1))) = some (r1, r2) := by first | (rw [hy181]; with_reducible exact H) | (have H2_ := (Option.bind_some _ _).symm.trans H; rw [hy181]; with_reducible exact H2_) | (have H2_ := (Option.bind_some _ _).symm.trans H; with_reducible exact H2_) | with_reducible exact H | (rw [hy181]; exact H) | exact H
                      have Ny181 := ak hy181
                      clear hy181
                      have H' := ak H
                      clear H
                      have p177 : 0 ≤ (x31_1 : Int) := of_decide_eq_true (by first | (with_reducible assumption) | assumption)
                      have q177 : x31_1 < (l0.length : Int) := of_decide_eq_true (by first | (with_reducible assumption) | assumption)
                      obtain ⟨ad177, e177, hx177_0, hx177_1, hx177_2, hx177_3⟩ := at_T24 HR0.out x31_1 p177 q177
                      cases e177
                      replace hx177_0 := (HB.out.cell (World.block_lt_of_cell? w _ hx177_0)).trans hx177_0
                      replace hx177_1 := (HB.out.cell (World.block_lt_of_cell? w _ hx177_1)).trans hx177_1
                      replace hx177_2 := (HB.out.cell (World.block_lt_of_cell? w _ hx177_2)).trans hx177_2
                      replace hx177_3 := (HB.out.cell (World.block_lt_of_cell? w _ hx177_3)).trans hx177_3
                      replace p177 := eq_true p177
                      replace q177 := eq_true q177
                      go_wp2_with (first | ((with_reducible refine gate_dst (N := 13) rfl ?_); refine box_event ?hg (N := 13) ?hd (cs := #[.string (⟨#[]⟩ : ByteArray), .string (⟨#[]⟩ : ByteArray), .int .i64 0, .int .i64 0]) (t := 24) ?hr ?_; (case hd => rfl); (case hg => rfl); (case hr => first | (go_simp; done) | (go_simp; rfl)); intro gb178 hg w17 hbox hb; have n0_ := ak (Kd.R_below (by (with_reducible repeat (first | apply Kd.R_alloc | apply Kd.R_drewN | apply Kd.R_drew)); exact HO_11.out) hb); have n1_ := ak (below_step (by repeat (first | (with_reducible first | exact HB.out | apply wA | apply wN | apply wD) | exact HB.out)) hb); have n2_ := ak (hbox); have n3_ := ak ((by rw [hg]; exact (below_size (by repeat (first | (with_reducible first | exact HB.out | apply wA | apply wN | apply wD) | exact HB.out))) : w.heap.size ≤ gb178)); have n4_ := ak ((by rw [hg]; exact (below_size (by repeat (first | (with_reducible first | exact HB.out | apply wA | apply wN | apply wD) | exact HB.out))) : w.heap.size ≤ gb178)); clear HO_11; clear HB; have HO_11 := n0_; have HB := n1_; have BK178 := n2_; have GW178 := n3_; have GE178 := n4_; clear n0_ n1_ n2_ n3_ n4_; clear hb hbox hg; have hcz18_0 : w17.cell? ⟨gb178, 0, none⟩ = some (.string (⟨#[]⟩ : ByteArray)) := (blk_cell BK178.out 0).trans rfl; have hcz18_1 : w17.cell? ⟨gb178, 1, none⟩ = some (.string (⟨#[]⟩ : ByteArray)) := (blk_cell BK178.out 1).trans rfl; have hcz18_2 : w17.cell? ⟨gb178, 2, none⟩ = some (.int .i64 0) := (blk_cell BK178.out 2).trans rfl; have hcz18_3 : w17.cell? ⟨gb178, 3, none⟩ = some (.int .i64 0) := (blk_cell BK178.out 3).trans rfl; have hfz18_0 := blk_frozen BK178.out 0; have hfz18_1 := blk_frozen BK178.out 1; have hfz18_2 := blk_frozen BK178.out 2; have hfz18_3 := blk_frozen BK178.out 3) | ((with_reducible refine gate_callee (f := 36) rfl ?_); refine goesL_ (some 40) rfl rfl Try.func36 (by kernel_rfl) rfl #[.string ((rd_T24 l0 x31_1).f1), .string a2] rfl (by (try simp only [List.map_toArray, List.map_cons, List.map_nil]); first | done | rfl | (simp only [List.length_drop, List.length_take]; rfl)) ?_; (with_reducible refine (scopes_Sub.calls k1 ((rd_T24 l0 x31_1).f1) a2 true t180 _ A13.out).mono ?_); rintro e w19 ⟨rfl, hb⟩; refine ⟨_, rfl, ?_⟩; have n0_ := ak (Kd.R_below (by (with_reducible repeat (first | apply Kd.R_alloc | apply Kd.R_drewN | apply Kd.R_drew)); exact (Kd.R_mono (Kd.R_far (p := ⟨gb178, 3, none⟩) (Kd.R_far (p := ⟨gb178, 2, none⟩) (Kd.R_far (p := ⟨gb178, 1, none⟩) (Kd.R_far (p := ⟨gb178, 0, none⟩) (Kd.R_types HO_11.out BK178.out (by decide)) (fun _ hk => hk.2) (.string ((rd_T24 l0 x31_1).f0))) (fun _ hk => hk.2) (.string ((rd_T24 l0 x31_1).f1))) (fun _ hk => hk.2) (.int .i64 ((rd_T24 l0 x31_1).f2))) (fun _ hk => hk.2) (.int .i64 ((rd_T24 l0 x31_1).f3))) (fun _ h_ => h_.1))) hb); have n1_ := ak (blk_below (g := gb178) (o := .cells #[.string ((rd_T24 l0 x31_1).f0), .string ((rd_T24 l0 x31_1).f1), .int .i64 ((rd_T24 l0 x31_1).f2), .int .i64 ((rd_T24 l0 x31_1).f3)] 24 (0, 0)) (by (with_reducible repeat (first | refine bN ?_ _ | refine bD ?_ | refine bA ?_ _)); refine blk_put (cs := #[.string ((rd_T24 l0 x31_1).f0), .string ((rd_T24 l0 x31_1).f1), .int .i64 ((rd_T24 l0 x31_1).f2), .int .i64 0]) ?_ 3 _ rfl; (with_reducible repeat (first | refine bN ?_ _ | refine bD ?_ | refine bA ?_ _)); refine blk_put (cs := #[.string ((rd_T24 l0 x31_1).f0), .string ((rd_T24 l0 x31_1).f1), .int .i64 0, .int .i64 0]) ?_ 2 _ rfl; (with_reducible repeat (first | refine bN ?_ _ | refine bD ?_ | refine bA ?_ _)); refine blk_put (cs := #[.string ((rd_T24 l0 x31_1).f0), .string (⟨#[]⟩ : ByteArray), .int .i64 0, .int .i64 0]) ?_ 1 _ rfl; (with_reducible repeat (first | refine bN ?_ _ | refine bD ?_ | refine bA ?_ _)); refine blk_put (cs := #[.string (⟨#[]⟩ : ByteArray), .string (⟨#[]⟩ : ByteArray), .int .i64 0, .int .i64 0]) ?_ 0 _ rfl; (with_reducible repeat (first | refine bN ?_ _ | refine bD ?_ | refine bA ?_ _)); exact BK178.out) hb); have n2_ := ak (below_step (by repeat (first | (with_reducible first | exact HB.out | apply wA | apply wN | apply wD | refine below_set ?_ GE178.out) | exact HB.out)) hb); clear HO_11; clear BK178; clear HB; have HO_11 := n0_; have BK178 := n1_; have HB := n2_; clear n0_ n1_ n2_; (try clear hb); (try clear hb2); (try clear hk); (try clear hi); have hcz20_0 : w19.cell? ⟨gb178, 0, none⟩ = some (.string ((rd_T24 l0 x31_1).f0)) := (blk_cell BK178.out 0).trans rfl; have hcz20_1 : w19.cell? ⟨gb178, 1, none⟩ = some (.string ((rd_T24 l0 x31_1).f1)) := (blk_cell BK178.out 1).trans rfl; have hcz20_2 : w19.cell? ⟨gb178, 2, none⟩ = some (.int .i64 ((rd_T24 l0 x31_1).f2)) := (blk_cell BK178.out 2).trans rfl; have hcz20_3 : w19.cell? ⟨gb178, 3, none⟩ = some (.int .i64 ((rd_T24 l0 x31_1).f3)) := (blk_cell BK178.out 3).trans rfl; have hfz20_0 := blk_frozen BK178.out 0; have hfz20_1 := blk_frozen BK178.out 1; have hfz20_2 := blk_frozen BK178.out 2; have hfz20_3 := blk_frozen BK178.out 3) | ((with_reducible refine gate_builtin (b := .append) (xs := #[.tmp 50, .tmp 52]) rfl ?_); at_builtin; refine Kd.R_append (Kd.int .i64) (w0 := w) w.heap.size rfl (.tmp 50) (.tmp 52) 34 3 (.int .i64 0) 8 rfl Try.underlying34 info3 rfl (by decide) (by omega) u11 x11_1 x31_1 [.int .i64 x31_1] (fun _ => True) (fun _ => False) rfl rfl ?aP (fun _ hk => hk.elim) ?aF ?aO ?aB ?aS ?aL ?_; (case aP => exact rfl); (case aB => exact (by repeat (first | (with_reducible first | exact HB.out | apply wA | apply wN | apply wD | refine below_set ?_ GE178.out) | exact HB.out))); (case aF => exact (fun _ _ => trivial)); (case aO => exact (by (with_reducible repeat (first | apply Kd.R_alloc | apply Kd.R_drewN | apply Kd.R_drew)); exact HO_11.out)); (case aS => exact (below_size (by repeat (first | (with_reducible first | exact HB.out | apply wA | apply wN | apply wD | refine below_set ?_ GE178.out) | exact HB.out)))); (case aL => have := LMc16.out; omega); intro v182 w21 ho hb hg hat; rw [← Ny181.out] at ho; have n0_ := ak (blk_grown (g := gb178) (o := .cells #[.string ((rd_T24 l0 x31_1).f0), .string ((rd_T24 l0 x31_1).f1), .int .i64 ((rd_T24 l0 x31_1).f2), .int .i64 ((rd_T24 l0 x31_1).f3)] 24 (0, 0)) (by (with_reducible repeat (first | refine bN ?_ _ | refine bD ?_ | refine bA ?_ _)); exact BK178.out) hg (Kd.R_ne HO_11.out BK178.out (by decide))); have n1_ := ak (hb); have n2_ := ak (ho); clear BK178; clear HB; clear HO_11; have BK178 := n0_; have HB := n1_; have HO183 := n2_; clear n0_ n1_ n2_; clear ho hb hg hat))
                      go_roundg k1
                      case measure => have := HK1.out; omega
                      case rel => exact ⟨(y181), (wrap64 (x31_1 + 1)), (by first | rfl | (simp; done) | (simp [*]; done)), H', ⟨by have := HK1.out; omega⟩, ⟨by (with_reducible repeat (first | apply Kd.R_alloc | apply Kd.R_drewN | apply Kd.R_drew)); exact HO183.out⟩, ⟨by repeat (first | (with_reducible first | exact HB.out | apply wA | apply wN | apply wD | refine below_set ?_ GE178.out) | exact HB.out)⟩⟩
                    · rw [if_neg c16] at H
                      exact absurd H (by simp)
                  · replace c15 := Bool.eq_false_iff.mpr c15
                    subst c15
                    have H1 : (binds_Candidates.l0 k1 a1 a2 x11_1 l0 (l0.length : Int) (wrap64 (x31_1 + 1))) = some (r1, r2) := by rw [if_neg (show ¬ (false = true) by decide)] at H; exact H
                    clear H
                    have H := H1
                    clear H1
                    have H' := ak H
                    clear H
                    have p177 : 0 ≤ (x31_1 : Int) := of_decide_eq_true (by first | (with_reducible assumption) | assumption)
                    have q177 : x31_1 < (l0.length : Int) := of_decide_eq_true (by first | (with_reducible assumption) | assumption)
                    obtain ⟨ad177, e177, hx177_0, hx177_1, hx177_2, hx177_3⟩ := at_T24 HR0.out x31_1 p177 q177
                    cases e177
                    replace hx177_0 := (HB.out.cell (World.block_lt_of_cell? w _ hx177_0)).trans hx177_0
                    replace hx177_1 := (HB.out.cell (World.block_lt_of_cell? w _ hx177_1)).trans hx177_1
                    replace hx177_2 := (HB.out.cell (World.block_lt_of_cell? w _ hx177_2)).trans hx177_2
                    replace hx177_3 := (HB.out.cell (World.block_lt_of_cell? w _ hx177_3)).trans hx177_3
                    replace p177 := eq_true p177
                    replace q177 := eq_true q177
                    go_wp2_with (first | ((with_reducible refine gate_dst (N := 13) rfl ?_); refine box_event ?hg (N := 13) ?hd (cs := #[.string (⟨#[]⟩ : ByteArray), .string (⟨#[]⟩ : ByteArray), .int .i64 0, .int .i64 0]) (t := 24) ?hr ?_; (case hd => rfl); (case hg => rfl); (case hr => first | (go_simp; done) | (go_simp; rfl)); intro gb178 hg w22 hbox hb; have n0_ := ak (Kd.R_below (by (with_reducible repeat (first | apply Kd.R_alloc | apply Kd.R_drewN | apply Kd.R_drew)); exact HO_11.out) hb); have n1_ := ak (below_step (by repeat (first | (with_reducible first | exact HB.out | apply wA | apply wN | apply wD) | exact HB.out)) hb); have n2_ := ak (hbox); have n3_ := ak ((by rw [hg]; exact (below_size (by repeat (first | (with_reducible first | exact HB.out | apply wA | apply wN | apply wD) | exact HB.out))) : w.heap.size ≤ gb178)); have n4_ := ak ((by rw [hg]; exact (below_size (by repeat (first | (with_reducible first | exact HB.out | apply wA | apply wN | apply wD) | exact HB.out))) : w.heap.size ≤ gb178)); clear HO_11; clear HB; have HO_11 := n0_; have HB := n1_; have BK178 := n2_; have GW178 := n3_; have GE178 := n4_; clear n0_ n1_ n2_ n3_ n4_; clear hb hbox hg; have hcz23_0 : w22.cell? ⟨gb178, 0, none⟩ = some (.string (⟨#[]⟩ : ByteArray)) := (blk_cell BK178.out 0).trans rfl; have hcz23_1 : w22.cell? ⟨gb178, 1, none⟩ = some (.string (⟨#[]⟩ : ByteArray)) := (blk_cell BK178.out 1).trans rfl; have hcz23_2 : w22.cell? ⟨gb178, 2, none⟩ = some (.int .i64 0) := (blk_cell BK178.out 2).trans rfl; have hcz23_3 : w22.cell? ⟨gb178, 3, none⟩ = some (.int .i64 0) := (blk_cell BK178.out 3).trans rfl; have hfz23_0 := blk_frozen BK178.out 0; have hfz23_1 := blk_frozen BK178.out 1; have hfz23_2 := blk_frozen BK178.out 2; have hfz23_3 := blk_frozen BK178.out 3) | ((with_reducible refine gate_callee (f := 36) rfl ?_); refine goesL_ (some 40) rfl rfl Try.func36 (by kernel_rfl) rfl #[.string ((rd_T24 l0 x31_1).f1), .string a2] rfl (by (try simp only [List.map_toArray, List.map_cons, List.map_nil]); first | done | rfl | (simp only [List.length_drop, List.length_take]; rfl)) ?_; (with_reducible refine (scopes_Sub.calls k1 ((rd_T24 l0 x31_1).f1) a2 false t180 _ A13.out).mono ?_); rintro e w24 ⟨rfl, hb⟩; refine ⟨_, rfl, ?_⟩; have n0_ := ak (Kd.R_below (by (with_reducible repeat (first | apply Kd.R_alloc | apply Kd.R_drewN | apply Kd.R_drew)); exact (Kd.R_mono (Kd.R_far (p := ⟨gb178, 3, none⟩) (Kd.R_far (p := ⟨gb178, 2, none⟩) (Kd.R_far (p := ⟨gb178, 1, none⟩) (Kd.R_far (p := ⟨gb178, 0, none⟩) (Kd.R_types HO_11.out BK178.out (by decide)) (fun _ hk => hk.2) (.string ((rd_T24 l0 x31_1).f0))) (fun _ hk => hk.2) (.string ((rd_T24 l0 x31_1).f1))) (fun _ hk => hk.2) (.int .i64 ((rd_T24 l0 x31_1).f2))) (fun _ hk => hk.2) (.int .i64 ((rd_T24 l0 x31_1).f3))) (fun _ h_ => h_.1))) hb); have n1_ := ak (blk_below (g := gb178) (o := .cells #[.string ((rd_T24 l0 x31_1).f0), .string ((rd_T24 l0 x31_1).f1), .int .i64 ((rd_T24 l0 x31_1).f2), .int .i64 ((rd_T24 l0 x31_1).f3)] 24 (0, 0)) (by (with_reducible repeat (first | refine bN ?_ _ | refine bD ?_ | refine bA ?_ _)); refine blk_put (cs := #[.string ((rd_T24 l0 x31_1).f0), .string ((rd_T24 l0 x31_1).f1), .int .i64 ((rd_T24 l0 x31_1).f2), .int .i64 0]) ?_ 3 _ rfl; (with_reducible repeat (first | refine bN ?_ _ | refine bD ?_ | refine bA ?_ _)); refine blk_put (cs := #[.string ((rd_T24 l0 x31_1).f0), .string ((rd_T24 l0 x31_1).f1), .int .i64 0, .int .i64 0]) ?_ 2 _ rfl; (with_reducible repeat (first | refine bN ?_ _ | refine bD ?_ | refine bA ?_ _)); refine blk_put (cs := #[.string ((rd_T24 l0 x31_1).f0), .string (⟨#[]⟩ : ByteArray), .int .i64 0, .int .i64 0]) ?_ 1 _ rfl; (with_reducible repeat (first | refine bN ?_ _ | refine bD ?_ | refine bA ?_ _)); refine blk_put (cs := #[.string (⟨#[]⟩ : ByteArray), .string (⟨#[]⟩ : ByteArray), .int .i64 0, .int .i64 0]) ?_ 0 _ rfl; (with_reducible repeat (first | refine bN ?_ _ | refine bD ?_ | refine bA ?_ _)); exact BK178.out) hb); have n2_ := ak (below_step (by repeat (first | (with_reducible first | exact HB.out | apply wA | apply wN | apply wD | refine below_set ?_ GE178.out) | exact HB.out)) hb); clear HO_11; clear BK178; clear HB; have HO_11 := n0_; have BK178 := n1_; have HB := n2_; clear n0_ n1_ n2_; (try clear hb); (try clear hb2); (try clear hk); (try clear hi); have hcz25_0 : w24.cell? ⟨gb178, 0, none⟩ = some (.string ((rd_T24 l0 x31_1).f0)) := (blk_cell BK178.out 0).trans rfl; have hcz25_1 : w24.cell? ⟨gb178, 1, none⟩ = some (.string ((rd_T24 l0 x31_1).f1)) := (blk_cell BK178.out 1).trans rfl; have hcz25_2 : w24.cell? ⟨gb178, 2, none⟩ = some (.int .i64 ((rd_T24 l0 x31_1).f2)) := (blk_cell BK178.out 2).trans rfl; have hcz25_3 : w24.cell? ⟨gb178, 3, none⟩ = some (.int .i64 ((rd_T24 l0 x31_1).f3)) := (blk_cell BK178.out 3).trans rfl; have hfz25_0 := blk_frozen BK178.out 0; have hfz25_1 := blk_frozen BK178.out 1; have hfz25_2 := blk_frozen BK178.out 2; have hfz25_3 := blk_frozen BK178.out 3))
                    go_roundg k1
                    case measure => have := HK1.out; omega
                    case rel => exact ⟨(x11_1), (wrap64 (x31_1 + 1)), (by first | rfl | (simp; done) | (simp [*]; done)), H', ⟨by have := HK1.out; omega⟩, ⟨by (with_reducible repeat (first | apply Kd.R_alloc | apply Kd.R_drewN | apply Kd.R_drew)); exact HO_11.out⟩, ⟨by repeat (first | (with_reducible first | exact HB.out | apply wA | apply wN | apply wD | refine below_set ?_ GE178.out) | exact HB.out)⟩⟩
                · rw [if_neg c14] at H
                  have c14b0 : (((rd_T24 l0 x31_1).f0).toList == a1.toList) = false := beq_eq_false_iff_ne.mpr c14
                  have c14b1 : (((rd_T24 l0 x31_1).f0).toList != a1.toList) = true := bne_iff_ne.mpr c14
                  have H' := ak H
                  clear H
                  have p177 : 0 ≤ (x31_1 : Int) := of_decide_eq_true (by first | (with_reducible assumption) | assumption)
                  have q177 : x31_1 < (l0.length : Int) := of_decide_eq_true (by first | (with_reducible assumption) | assumption)
                  obtain ⟨ad177, e177, hx177_0, hx177_1, hx177_2, hx177_3⟩ := at_T24 HR0.out x31_1 p177 q177
                  cases e177
                  replace hx177_0 := (HB.out.cell (World.block_lt_of_cell? w _ hx177_0)).trans hx177_0
                  replace hx177_1 := (HB.out.cell (World.block_lt_of_cell? w _ hx177_1)).trans hx177_1
                  replace hx177_2 := (HB.out.cell (World.block_lt_of_cell? w _ hx177_2)).trans hx177_2
                  replace hx177_3 := (HB.out.cell (World.block_lt_of_cell? w _ hx177_3)).trans hx177_3
                  replace p177 := eq_true p177
                  replace q177 := eq_true q177
                  go_wp2_with (first | ((with_reducible refine gate_dst (N := 13) rfl ?_); refine box_event ?hg (N := 13) ?hd (cs := #[.string (⟨#[]⟩ : ByteArray), .string (⟨#[]⟩ : ByteArray), .int .i64 0, .int .i64 0]) (t := 24) ?hr ?_; (case hd => rfl); (case hg => rfl); (case hr => first | (go_simp; done) | (go_simp; rfl)); intro gb178 hg w26 hbox hb; have n0_ := ak (Kd.R_below (by (with_reducible repeat (first | apply Kd.R_alloc | apply Kd.R_drewN | apply Kd.R_drew)); exact HO_11.out) hb); have n1_ := ak (below_step (by repeat (first | (with_reducible first | exact HB.out | apply wA | apply wN | apply wD) | exact HB.out)) hb); have n2_ := ak (hbox); have n3_ := ak ((by rw [hg]; exact (below_size (by repeat (first | (with_reducible first | exact HB.out | apply wA | apply wN | apply wD) | exact HB.out))) : w.heap.size ≤ gb178)); have n4_ := ak ((by rw [hg]; exact (below_size (by repeat (first | (with_reducible first | exact HB.out | apply wA | apply wN | apply wD) | exact HB.out))) : w.heap.size ≤ gb178)); clear HO_11; clear HB; have HO_11 := n0_; have HB := n1_; have BK178 := n2_; have GW178 := n3_; have GE178 := n4_; clear n0_ n1_ n2_ n3_ n4_; clear hb hbox hg; have hcz27_0 : w26.cell? ⟨gb178, 0, none⟩ = some (.string (⟨#[]⟩ : ByteArray)) := (blk_cell BK178.out 0).trans rfl; have hcz27_1 : w26.cell? ⟨gb178, 1, none⟩ = some (.string (⟨#[]⟩ : ByteArray)) := (blk_cell BK178.out 1).trans rfl; have hcz27_2 : w26.cell? ⟨gb178, 2, none⟩ = some (.int .i64 0) := (blk_cell BK178.out 2).trans rfl; have hcz27_3 : w26.cell? ⟨gb178, 3, none⟩ = some (.int .i64 0) := (blk_cell BK178.out 3).trans rfl; have hfz27_0 := blk_frozen BK178.out 0; have hfz27_1 := blk_frozen BK178.out 1; have hfz27_2 := blk_frozen BK178.out 2; have hfz27_3 := blk_frozen BK178.out 3) | ((with_reducible refine gate_callee (f := 36) rfl ?_); refine goesL_ (some 40) rfl rfl Try.func36 (by kernel_rfl) rfl #[.string ((rd_T24 l0 x31_1).f1), .string a2] rfl (by (try simp only [List.map_toArray, List.map_cons, List.map_nil]); first | done | rfl | (simp only [List.length_drop, List.length_take]; rfl)) ?_; (with_reducible refine (scopes_Sub.calls k1 ((rd_T24 l0 x31_1).f1) a2 t179 t180 _ A13.out).mono ?_); rintro e w28 ⟨rfl, hb⟩; refine ⟨_, rfl, ?_⟩; have n0_ := ak (Kd.R_below (by (with_reducible repeat (first | apply Kd.R_alloc | apply Kd.R_drewN | apply Kd.R_drew)); exact (Kd.R_mono (Kd.R_far (p := ⟨gb178, 3, none⟩) (Kd.R_far (p := ⟨gb178, 2, none⟩) (Kd.R_far (p := ⟨gb178, 1, none⟩) (Kd.R_far (p := ⟨gb178, 0, none⟩) (Kd.R_types HO_11.out BK178.out (by decide)) (fun _ hk => hk.2) (.string ((rd_T24 l0 x31_1).f0))) (fun _ hk => hk.2) (.string ((rd_T24 l0 x31_1).f1))) (fun _ hk => hk.2) (.int .i64 ((rd_T24 l0 x31_1).f2))) (fun _ hk => hk.2) (.int .i64 ((rd_T24 l0 x31_1).f3))) (fun _ h_ => h_.1))) hb); have n1_ := ak (blk_below (g := gb178) (o := .cells #[.string ((rd_T24 l0 x31_1).f0), .string ((rd_T24 l0 x31_1).f1), .int .i64 ((rd_T24 l0 x31_1).f2), .int .i64 ((rd_T24 l0 x31_1).f3)] 24 (0, 0)) (by (with_reducible repeat (first | refine bN ?_ _ | refine bD ?_ | refine bA ?_ _)); refine blk_put (cs := #[.string ((rd_T24 l0 x31_1).f0), .string ((rd_T24 l0 x31_1).f1), .int .i64 ((rd_T24 l0 x31_1).f2), .int .i64 0]) ?_ 3 _ rfl; (with_reducible repeat (first | refine bN ?_ _ | refine bD ?_ | refine bA ?_ _)); refine blk_put (cs := #[.string ((rd_T24 l0 x31_1).f0), .string ((rd_T24 l0 x31_1).f1), .int .i64 0, .int .i64 0]) ?_ 2 _ rfl; (with_reducible repeat (first | refine bN ?_ _ | refine bD ?_ | refine bA ?_ _)); refine blk_put (cs := #[.string ((rd_T24 l0 x31_1).f0), .string (⟨#[]⟩ : ByteArray), .int .i64 0, .int .i64 0]) ?_ 1 _ rfl; (with_reducible repeat (first | refine bN ?_ _ | refine bD ?_ | refine bA ?_ _)); refine blk_put (cs := #[.string (⟨#[]⟩ : ByteArray), .string (⟨#[]⟩ : ByteArray), .int .i64 0, .int .i64 0]) ?_ 0 _ rfl; (with_reducible repeat (first | refine bN ?_ _ | refine bD ?_ | refine bA ?_ _)); exact BK178.out) hb); have n2_ := ak (below_step (by repeat (first | (with_reducible first | exact HB.out | apply wA | apply wN | apply wD | refine below_set ?_ GE178.out) | exact HB.out)) hb); clear HO_11; clear BK178; clear HB; have HO_11 := n0_; have BK178 := n1_; have HB := n2_; clear n0_ n1_ n2_; (try clear hb); (try clear hb2); (try clear hk); (try clear hi); have hcz29_0 : w28.cell? ⟨gb178, 0, none⟩ = some (.string ((rd_T24 l0 x31_1).f0)) := (blk_cell BK178.out 0).trans rfl; have hcz29_1 : w28.cell? ⟨gb178, 1, none⟩ = some (.string ((rd_T24 l0 x31_1).f1)) := (blk_cell BK178.out 1).trans rfl; have hcz29_2 : w28.cell? ⟨gb178, 2, none⟩ = some (.int .i64 ((rd_T24 l0 x31_1).f2)) := (blk_cell BK178.out 2).trans rfl; have hcz29_3 : w28.cell? ⟨gb178, 3, none⟩ = some (.int .i64 ((rd_T24 l0 x31_1).f3)) := (blk_cell BK178.out 3).trans rfl; have hfz29_0 := blk_frozen BK178.out 0; have hfz29_1 := blk_frozen BK178.out 1; have hfz29_2 := blk_frozen BK178.out 2; have hfz29_3 := blk_frozen BK178.out 3))
                  go_roundg k1
                  case measure => have := HK1.out; omega
                  case rel => exact ⟨(x11_1), (wrap64 (x31_1 + 1)), (by first | rfl | (simp; done) | (simp [*]; done)), H', ⟨by have := HK1.out; omega⟩, ⟨by (with_reducible repeat (first | apply Kd.R_alloc | apply Kd.R_drewN | apply Kd.R_drew)); exact HO_11.out⟩, ⟨by repeat (first | (with_reducible first | exact HB.out | apply wA | apply wN | apply wD | refine below_set ?_ GE178.out) | exact HB.out)⟩⟩
              · rw [if_neg c12] at H
                exact absurd H (by simp)
            · rw [if_neg c11] at H
              exact absurd H (by simp)
          · rw [if_neg c10] at H
            have c10b0 : decide (x31_1 < (l0.length : Int)) = false := decide_eq_false c10
            clear c10
            simp only [Option.some.injEq, Prod.mk.injEq] at H
            obtain ⟨rfl, rfl⟩ := H
            go_wp2
            go_ret2
            exact ⟨_, by first | rfl | (simp [errW_none, errW_some] <;> rfl) | (simp [*, errW_none, errW_some] <;> rfl), by (with_reducible repeat (first | apply Kd.R_alloc | apply Kd.R_drewN | apply Kd.R_drew)); exact HO_11.out, by repeat (first | (with_reducible first | exact HB.out | apply wA | apply wN | apply wD) | exact HB.out)⟩
    · rw [if_neg c7] at H
      have c7b0 : (t176 == 0) = false := beq_eq_false_iff_ne.mpr c7
      have c7b1 : (t176 != 0) = true := bne_iff_ne.mpr c7
      simp only [Option.some.injEq, Prod.mk.injEq] at H
      obtain ⟨rfl, rfl⟩ := H
      go_enter Try.func17, Try.ntmps17
      go_wp2_with (first | ((with_reducible refine gate_callee (f := 12) rfl ?_); refine goesL_ (some 18) rfl rfl Try.func12 (by kernel_rfl) rfl #[.slice A0 l0.length c0] rfl (by (try simp only [List.map_toArray, List.map_cons, List.map_nil]); first | done | rfl | (simp only [List.length_drop, List.length_take]; rfl)) ?_; (with_reducible refine (binds_Check.calls _ _ l0 t174 t175 _ ?side1 ?side2 A4.out).mono ?_); (case side1 => repeat (first | exact HR0.out | (with_reducible refine Kd.C_alloc ?_ _) | (with_reducible refine Kd.C_drewN ?_ _) | (with_reducible refine Kd.C_drew ?_))); (case side2 => exact HC0.out); rintro e w30 ⟨rfl, hb⟩; refine ⟨_, rfl, ?_⟩; have n0_ := ak (below_step (by repeat (first | (with_reducible first | exact HB.out | apply wA | apply wN | apply wD) | exact HB.out)) hb); clear HB; have HB := n0_; clear n0_; (try clear hb); (try clear hb2); (try clear hk); (try clear hi)) | ((with_reducible refine gate_callee (f := 35) rfl ?_); refine goesL_ (some 25) rfl rfl Try.func35 (by kernel_rfl) rfl #[.string a2] rfl (by (try simp only [List.map_toArray, List.map_cons, List.map_nil]); first | done | rfl | (simp only [List.length_drop, List.length_take]; rfl)) ?_; (with_reducible refine (scopes_Check.calls a2 t176 _ A6.out).mono ?_); rintro e w31 ⟨rfl, hb⟩; refine ⟨_, rfl, ?_⟩; have n0_ := ak (below_step (by repeat (first | (with_reducible first | exact HB.out | apply wA | apply wN | apply wD) | exact HB.out)) hb); clear HB; have HB := n0_; clear n0_; (try clear hb); (try clear hb2); (try clear hk); (try clear hi)))
      go_ret2
      exact ⟨_, by first | rfl | (simp [errW_none, errW_some] <;> rfl) | (simp [*, errW_none, errW_some] <;> rfl), by first | exact Kd.R_nil _ _ _ _ _ | exact Kd.N_nil _ _ _ _ _ | exact Kd.V_nil _ _ _ _ _ | exact Kd.Q_nil _ _ _ _ _ | exact Kd.S_nil _ _ _ _ _, by repeat (first | (with_reducible first | exact HB.out | apply wA | apply wN | apply wD) | exact HB.out)⟩
  · rw [if_neg c5] at H
    have c5b0 : (t175 == 0) = false := beq_eq_false_iff_ne.mpr c5
    have c5b1 : (t175 != 0) = true := bne_iff_ne.mpr c5
    simp only [Option.some.injEq, Prod.mk.injEq] at H
    obtain ⟨rfl, rfl⟩ := H
    go_enter Try.func17, Try.ntmps17
    go_wp2_with (first | ((with_reducible refine gate_callee (f := 12) rfl ?_); refine goesL_ (some 18) rfl rfl Try.func12 (by kernel_rfl) rfl #[.slice A0 l0.length c0] rfl (by (try simp only [List.map_toArray, List.map_cons, List.map_nil]); first | done | rfl | (simp only [List.length_drop, List.length_take]; rfl)) ?_; (with_reducible refine (binds_Check.calls _ _ l0 t174 t175 _ ?side1 ?side2 A4.out).mono ?_); (case side1 => repeat (first | exact HR0.out | (with_reducible refine Kd.C_alloc ?_ _) | (with_reducible refine Kd.C_drewN ?_ _) | (with_reducible refine Kd.C_drew ?_))); (case side2 => exact HC0.out); rintro e w32 ⟨rfl, hb⟩; refine ⟨_, rfl, ?_⟩; have n0_ := ak (below_step (by repeat (first | (with_reducible first | exact HB.out | apply wA | apply wN | apply wD) | exact HB.out)) hb); clear HB; have HB := n0_; clear n0_; (try clear hb); (try clear hb2); (try clear hk); (try clear hi)))
    go_ret2
    exact ⟨_, by first | rfl | (simp [errW_none, errW_some] <;> rfl) | (simp [*, errW_none, errW_some] <;> rfl), by first | exact Kd.R_nil _ _ _ _ _ | exact Kd.N_nil _ _ _ _ _ | exact Kd.V_nil _ _ _ _ _ | exact Kd.Q_nil _ _ _ _ _ | exact Kd.S_nil _ _ _ _ _, by repeat (first | (with_reducible first | exact HB.out | apply wA | apply wN | apply wD) | exact HB.out)⟩
end Go.Proofs.Ytpjcahjpjeiicaa.P
namespace Go.Proofs.Ytpjcahjpjeiicaa.P
open Go.RowKit Go.Proofs.YtpjcahjpjeiicaaW.PrintWords Go.Proofs.YtpjcahjpjeiicaaW.PrintLast Go.Proofs.YtpjcahjpjeiicaaW.PrintMore
attribute [local go_sem] max2_int min2_int max_two min_two max_three min_three max_four min_four   -- for this text's walks alone
set_option linter.unusedVariables false
set_option linter.unusedSimpArgs false
theorem Rs.meas (i n : Nat) (h : i < n) (hn : n ≤ 1000000) : n - (intOf (Value.int IntKind.i64 (wrap64 ((i : Int) + 1)))).toNat < n - (intOf (Value.int IntKind.i64 ((i : Nat) : Int))).toNat := by
  have hw : wrap64 ((i : Int) + 1) = ((i + 1 : Nat) : Int) := by unfold wrap64; omega
  rw [hw]
  show n - (i + 1) < n - i
  omega
/-- Is the set of the candidate a above that of b? -/
def Rs.above (k : Nat) (l0 : List S24) (a b : Int) : Option Bool := if 0 ≤ a ∧ a < (l0.length : Int) ∧ 0 ≤ b ∧ b < (l0.length : Int) then (scopes_Sub.f k (rd_T24 l0 b).f1 (rd_T24 l0 a).f1).bind fun t => some t.1 else none
def Rs.g1 (k : Nat) (l0 : List S24) : List Int → Int → Bool → Option (Int × Bool)
  | [], f, s => some (f, s)
  | x :: r, f, s => if s = true then (Rs.above k l0 x f).bind fun t => (if t = true then Rs.g1 k l0 r x true else Rs.g1 k l0 r f true) else Rs.g1 k l0 r x true
def Rs.g2 (k : Nat) (l0 : List S24) : List Int → Int → Bool → Option Bool
  | [], _, s => some s
  | x :: r, f, s => if s = true then (Rs.above k l0 f x).bind fun t => Rs.g2 k l0 r f t else Rs.g2 k l0 r f false
def binds_Resolve.f (k : Nat) (l0 : List S24) (a1 a2 : ByteArray) : Option (Int × Int) :=
  (binds_Candidates.f k l0 a1 a2).bind fun t => (if t.2 = 0 then (if (t.1.length : Int) = 0 then some (0, 10) else (if t.1.length ≤ 1000000 then ((Rs.g1 k l0 t.1 0 false).bind fun p => (Rs.g2 k l0 t.1 p.1 p.2).bind fun s => (if s = true then some (p.1, 0) else some (0, 11))) else none)) else some (0, t.2))
set_option maxHeartbeats 1000000 in
set_option maxRecDepth 100000 in
theorem Rs.above_calls (k : Nat) (A0 : Option Addr) (c0 : Nat) (l0 : List S24) (a b : Int) (bx : Nat) (r : Bool) (w : World) (HR0 : Aside0 (Kd.C k24 w A0 l0.length l0)) (hbx : w.cell? ⟨bx, 0, none⟩ = some (.slice A0 l0.length c0)) (h : Rs.above k l0 a b = some r) :
    Calls Try.prog 40 #[.int .i64 a, .int .i64 b, .pointer (some ⟨bx, 0, none⟩)] w fun e w' => e = .returned (.bool r) ∧ Below w.heap.size w w' := by
  unfold Rs.above at h
  by_cases hc : 0 ≤ a ∧ a < (l0.length : Int) ∧ 0 ≤ b ∧ b < (l0.length : Int)
  · rw [if_pos hc] at h
    obtain ⟨⟨t1, t2⟩, hs, h⟩ := Option.bind_eq_some_iff.1 h
    obtain rfl := Option.some.inj h
    obtain ⟨ha0, ha1, hb0, hb1⟩ := hc
    obtain ⟨ad, e1, _, ya, _, _⟩ := at_T24 HR0.out a ha0 ha1
    obtain ⟨ad', e2, _, yb, _, _⟩ := at_T24 HR0.out b hb0 hb1
    subst e1
    obtain rfl : ad = ad' := Option.some.inj e2
    clear e2
    have HS := ak hs
    clear hs
    generalize (rd_T24 l0 a).f1 = sa at ya HS
    generalize (rd_T24 l0 b).f1 = sb at yb HS
    dsimp only
    go_enter Try.func40, Try.ntmps40
    go_wp2
    go_region_held3 (fun w' => w'.cell? ⟨bx, 0, none⟩ = some (.slice (some ad) l0.length c0) ∧ w'.cell? ⟨(ad.add (b.toNat * 4)).block, (ad.add (b.toNat * 4)).off + 1, none⟩ = some (.string sb) ∧ w'.cell? ⟨(ad.add (a.toNat * 4)).block, (ad.add (a.toNat * 4)).off + 1, none⟩ = some (.string sa)) (first | go_keep | exact ⟨(hb.cell (World.block_lt_of_cell? w _ hbx)).trans hbx, (hb.cell (World.block_lt_of_cell? w _ yb)).trans yb, (hb.cell (World.block_lt_of_cell? w _ ya)).trans ya⟩)
      ((go_at_call 36; refine (scopes_Sub.calls k sb sa _ _ _ HS.out).mono ?_; rintro e w2 ⟨rfl, hb⟩))
    go_wp2
    go_ret
    exact ⟨rfl, ((Below.refl _ w).drew).trans hb⟩
  · rw [if_neg hc] at h; cases h
set_option maxHeartbeats 2000000 in
set_option maxRecDepth 100000 in
theorem Rs.greatest_calls (k : Nat) (A0 : Option Addr) (c0 : Nat) (l0 : List S24) (bx : Nat) (Av : Option Addr) (cv : Nat) (lv : List Int) (fo : Int) (so s : Bool) (w : World) (HR0 : Aside0 (Kd.C k24 w A0 l0.length l0)) (hbx : w.cell? ⟨bx, 0, none⟩ = some (.slice A0 l0.length c0))
    (HV : Aside0 (Kd.C (Kd.int .i64) w Av lv.length lv)) (HN : Aside0 (lv.length ≤ 1000000)) (H1 : Aside0 (Rs.g1 k l0 lv 0 false = some (fo, so))) (H2 : Aside0 (Rs.g2 k l0 lv fo so = some s)) :
    Calls Try.prog 39 #[.slice Av lv.length cv, .func (.func 40) #[] #[.pointer (some ⟨bx, 0, none⟩)]] w fun e w' => e = .returned (.tuple #[.int .i64 fo, .bool s]) ∧ Below w.heap.size w w' := by
  have HX := ak hbx
  clear hbx
  go_enter Try.func39, Try.ntmps39
  go_wp2
  go_loopw [4, 5, 12] (fun v4 v5 v12 wr => ∃ (i : Nat) (f : Int) (b : Bool), v4 = .int .i64 f ∧ v5 = .bool b ∧ v12 = .int .i64 (i : Int) ∧ i ≤ lv.length ∧ Aside0 (Rs.g1 k l0 (lv.drop i) f b = some (fo, so)) ∧ Aside0 (Below w.heap.size w wr))
    (fun _ _ v12 _ => lv.length - (intOf v12).toNat)
  case atStart => exact ⟨0, 0, false, rfl, rfl, rfl, Nat.zero_le _, H1, ⟨Below.refl _ _⟩⟩
  case round =>
    clear H1
    obtain ⟨i, f, b, rfl, rfl, rfl, hi, H, HB⟩ := hrel
    by_cases hlt : i < lv.length
    · have h0 := H.out
      clear H
      rw [List.drop_eq_getElem_cons hlt] at h0
      unfold Rs.g1 at h0
      obtain ⟨ad, rfl, hx0⟩ := Kd.at_int HV.out (i : Int) (by omega) (by omega)
      have hrd : rd lv (i : Int) = lv[i] := by simp [rd, hlt]
      rw [hrd] at hx0
      simp only [Int.toNat_natCast] at hx0
      replace hx0 := (HB.out.cell (World.block_lt_of_cell? w _ hx0)).trans hx0
      have HX2 := (HB.out.cell (World.block_lt_of_cell? w _ HX.out)).trans HX.out
      have HR2 := ak (Kd.C_below HR0.out HB.out)
      clear hrd
      generalize lv[i] = x at h0 hx0
      have hlt' : (i : Int) < (lv.length : Int) := by omega
      have HL2 := ak hlt
      have HM := ak (Rs.meas i lv.length hlt HN.out)
      have hw : ((i + 1 : Nat) : Int) = wrap64 ((i : Int) + 1) := by have := HN.out; unfold wrap64; omega
      have HW := ak hw
      clear hw hlt
      cases b with
      | false =>
        rw [if_neg (by decide)] at h0
        have H := ak h0
        clear h0
        go_wp2
        go_roundw
        case rel => exact ⟨i + 1, x, true, rfl, rfl, by rw [HW.out], by have := HL2.out; omega, H, HB⟩
        case measure => exact HM.out
      | true =>
        rw [if_pos rfl] at h0
        obtain ⟨t, ht, h0⟩ := Option.bind_eq_some_iff.1 h0
        have HT := ak ht
        have H := ak h0
        clear h0 ht
        cases t with
        | true =>
          rw [if_pos rfl] at H
          go_wp2_with (go_at_call 40; refine (Rs.above_calls k A0 c0 l0 x f bx true _ HR2 HX2 HT.out).mono ?_; rintro e w2 ⟨rfl, hb⟩; have HB2 := ak (below_step HB.out hb); clear hb)
          go_roundw
          case rel => exact ⟨i + 1, x, true, rfl, rfl, by rw [HW.out], by have := HL2.out; omega, H, HB2⟩
          case measure => exact HM.out
        | false =>
          rw [if_neg (by decide)] at H
          go_wp2_with (go_at_call 40; refine (Rs.above_calls k A0 c0 l0 x f bx false _ HR2 HX2 HT.out).mono ?_; rintro e w2 ⟨rfl, hb⟩; have HB2 := ak (below_step HB.out hb); clear hb)
          go_roundw
          case rel => exact ⟨i + 1, f, true, rfl, rfl, by rw [HW.out], by have := HL2.out; omega, H, HB2⟩
          case measure => exact HM.out
    · obtain rfl : i = lv.length := by omega
      have h := H.out
      rw [List.drop_length] at h
      obtain ⟨rfl, rfl⟩ := Prod.mk.inj (Option.some.inj h)
      clear h H
      go_wp2
      go_loopw [5, 28] (fun v5 v28 w2 => ∃ (i : Nat) (b : Bool), v5 = .bool b ∧ v28 = .int .i64 (i : Int) ∧ i ≤ lv.length ∧ Aside0 (Rs.g2 k l0 (lv.drop i) f b = some s) ∧ Aside0 (Below w.heap.size w w2))
        (fun _ v28 _ => lv.length - (intOf v28).toNat)
      case atStart => exact ⟨0, b, rfl, rfl, Nat.zero_le _, H2, HB⟩
      case round =>
        clear H2 HB
        obtain ⟨i, b2, rfl, rfl, hi, H, HB⟩ := hrel
        by_cases hlt : i < lv.length
        · have h0 := H.out
          clear H
          rw [List.drop_eq_getElem_cons hlt] at h0
          unfold Rs.g2 at h0
          obtain ⟨ad, rfl, hx0⟩ := Kd.at_int HV.out (i : Int) (by omega) (by omega)
          have hrd : rd lv (i : Int) = lv[i] := by simp [rd, hlt]
          rw [hrd] at hx0
          simp only [Int.toNat_natCast] at hx0
          replace hx0 := (HB.out.cell (World.block_lt_of_cell? w _ hx0)).trans hx0
          have HX2 := (HB.out.cell (World.block_lt_of_cell? w _ HX.out)).trans HX.out
          have HR2 := ak (Kd.C_below HR0.out HB.out)
          clear hrd
          generalize lv[i] = x at h0 hx0
          have hlt' : (i : Int) < (lv.length : Int) := by omega
          have HL2 := ak hlt
          have HM := ak (Rs.meas i lv.length hlt HN.out)
          have hw : ((i + 1 : Nat) : Int) = wrap64 ((i : Int) + 1) := by have := HN.out; unfold wrap64; omega
          have HW := ak hw
          clear hw hlt
          cases b2 with
          | false =>
            rw [if_neg (by decide)] at h0
            have H := ak h0
            clear h0
            go_wp2
            go_roundw
            case rel => exact ⟨i + 1, false, rfl, by rw [HW.out], by have := HL2.out; omega, H, HB⟩
            case measure => exact HM.out
          | true =>
            rw [if_pos rfl] at h0
            obtain ⟨t, ht, h0⟩ := Option.bind_eq_some_iff.1 h0
            have HT := ak ht
            have H := ak h0
            clear h0 ht
            go_wp2_with (go_at_call 40; refine (Rs.above_calls k A0 c0 l0 f x bx t _ HR2 HX2 HT.out).mono ?_; rintro e w2 ⟨rfl, hb⟩; have HB2 := ak (below_step HB.out hb); clear hb)
            go_roundw
            case rel => exact ⟨i + 1, t, rfl, by rw [HW.out], by have := HL2.out; omega, H, HB2⟩
            case measure => exact HM.out
        · obtain rfl : i = lv.length := by omega
          have h := H.out
          rw [List.drop_length] at h
          obtain rfl := Option.some.inj h
          clear h H
          go_wp2
          go_ret2
          exact ⟨rfl, HB.out⟩
set_option maxHeartbeats 2000000 in
set_option maxRecDepth 100000 in
theorem binds_Resolve.calls (k : Nat) (A0 : Option Addr) (c0 : Nat) (l0 : List S24) (a1 a2 : ByteArray) (r1 r2 : Int) (w : World) (hr0 : Kd.C k24 w A0 l0.length l0) (hc0 : l0.length ≤ c0) (h : binds_Resolve.f k l0 a1 a2 = some (r1, r2)) :
    Calls Try.prog 19 #[.slice A0 l0.length c0, .string a1, .string a2] w fun e w' => e = .returned (.tuple #[.int .i64 r1, .int .i64 r2]) ∧ Below w.heap.size w w' := by
  unfold binds_Resolve.f at h
  obtain ⟨⟨t1, t2⟩, hC, h⟩ := Option.bind_eq_some_iff.1 h
  dsimp only at h
  have HC := ak hC
  have HB0 := ak (wA (Below.refl w.heap.size w) (.cells #[.slice A0 l0.length c0] 22))
  have HR0 := ak (Kd.C_below hr0 HB0.out)
  have HX := ak (show (w.alloc (.cells #[.slice A0 l0.length c0] 22)).cell? ⟨w.heap.size, 0, none⟩ = some (.slice A0 l0.length c0) from by unfold World.cell?; rw [World.alloc_heap_new w (.cells #[.slice A0 l0.length c0] 22)]; rfl)
  have hx := HX.out
  have HC0 := ak hc0
  clear hC hr0 hc0
  by_cases h2 : t2 = 0
  · subst h2
    rw [if_pos rfl] at h
    by_cases hn : (t1.length : Int) = 0
    · rw [if_pos hn] at h
      obtain ⟨rfl, rfl⟩ := Prod.mk.inj (Option.some.inj h)
      have hnb : ((t1.length : Int) == 0) = true := beq_iff_eq.mpr hn
      clear h hn
      go_enter Try.func19, Try.ntmps19
      go_wp2_with (go_at_call 17; refine (binds_Candidates.calls k A0 c0 l0 a1 a2 _ _ _ HR0.out HC0.out HC.out).mono ?_; rintro e w2 ⟨v, rfl, ho, hb⟩; obtain ⟨Av, cv, rfl⟩ := Kd.R_slice ho; have HB2 := ak (below_step HB0.out hb); clear ho hb)
      go_ret2
      exact ⟨rfl, HB2.out⟩
    · rw [if_neg hn] at h
      have hnb : ((t1.length : Int) == 0) = false := beq_eq_false_iff_ne.mpr hn
      clear hn
      by_cases hm : t1.length ≤ 1000000
      · rw [if_pos hm] at h
        obtain ⟨⟨fo, so⟩, h1, h⟩ := Option.bind_eq_some_iff.1 h
        obtain ⟨s, h2, h⟩ := Option.bind_eq_some_iff.1 h
        dsimp only at h2 h
        have HM := ak hm
        have H1 := ak h1
        have H2 := ak h2
        clear h1 h2 hm
        cases s with
        | true =>
          rw [if_pos rfl] at h
          obtain ⟨rfl, rfl⟩ := Prod.mk.inj (Option.some.inj h)
          clear h
          go_enter Try.func19, Try.ntmps19
          go_wp2_with (first
            | (go_at_call 17; refine (binds_Candidates.calls k A0 c0 l0 a1 a2 _ _ _ HR0.out HC0.out HC.out).mono ?_; rintro e w2 ⟨v, rfl, ho, hb⟩; obtain ⟨Av, cv, rfl⟩ := Kd.R_slice ho; have HV := ak (Kd.R_reads' ho).2.2; have HB2 := ak (below_step HB0.out hb); have HR2 := ak (Kd.C_below HR0.out hb); have HX2 := ak ((hb.cell (World.block_lt_of_cell? _ _ HX.out)).trans HX.out); clear ho hb)
            | (go_at_call 39; refine (Rs.greatest_calls k A0 c0 l0 w.heap.size Av cv t1 _ so true _ HR2 HX2.out HV HM H1 H2).mono ?_; rintro e w3 ⟨rfl, hb⟩; have HB3 := ak (below_step HB2.out hb); clear hb))
          go_ret2
          exact ⟨rfl, HB3.out⟩
        | false =>
          rw [if_neg (by decide)] at h
          obtain ⟨rfl, rfl⟩ := Prod.mk.inj (Option.some.inj h)
          clear h
          go_enter Try.func19, Try.ntmps19
          go_wp2_with (first
            | (go_at_call 17; refine (binds_Candidates.calls k A0 c0 l0 a1 a2 _ _ _ HR0.out HC0.out HC.out).mono ?_; rintro e w2 ⟨v, rfl, ho, hb⟩; obtain ⟨Av, cv, rfl⟩ := Kd.R_slice ho; have HV := ak (Kd.R_reads' ho).2.2; have HB2 := ak (below_step HB0.out hb); have HR2 := ak (Kd.C_below HR0.out hb); have HX2 := ak ((hb.cell (World.block_lt_of_cell? _ _ HX.out)).trans HX.out); clear ho hb)
            | (go_at_call 39; refine (Rs.greatest_calls k A0 c0 l0 w.heap.size Av cv t1 fo so false _ HR2 HX2.out HV HM H1 H2).mono ?_; rintro e w3 ⟨rfl, hb⟩; have HB3 := ak (below_step HB2.out hb); clear hb))
          go_ret2
          exact ⟨rfl, HB3.out⟩
      · rw [if_neg hm] at h; cases h
  · rw [if_neg h2] at h
    obtain ⟨rfl, rfl⟩ := Prod.mk.inj (Option.some.inj h)
    have h2b : (t2 != 0) = true := bne_iff_ne.mpr h2
    clear h h2
    go_enter Try.func19, Try.ntmps19
    go_wp2_with (go_at_call 17; refine (binds_Candidates.calls k A0 c0 l0 a1 a2 _ _ _ HR0.out HC0.out HC.out).mono ?_; rintro e w2 ⟨v, rfl, ho, hb⟩; have HB2 := ak (below_step HB0.out hb); clear ho hb)
    go_ret2
    exact ⟨rfl, HB2.out⟩
end Go.Proofs.Ytpjcahjpjeiicaa.P
