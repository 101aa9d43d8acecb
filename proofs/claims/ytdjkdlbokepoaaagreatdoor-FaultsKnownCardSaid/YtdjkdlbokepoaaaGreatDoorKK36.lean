import Derived.Test.YtdjkdlbokepoaaaGreatDoorProg
import Derived.Below
import Derived.Deep.Draws
import Derived.Deep.AppendLies
import Derived.Maps.AppendAt
import Derived.OwnWalk
import Derived.Laws.BytesArg
import Derived.Laws.MakeOwn
import Derived.Laws.OwnMore
import Derived.Deep.OwnRows
import Derived.Tactics
import Derived.Lib.ConvBytes
import Derived.Laws.Slices
import Derived.WalkKit
import Derived.KernelRfl
import Derived.RowKit3
import Derived.Deep.LoopGhost
import Derived.Deep.QuietTactic
import Derived.BigQuiet
import Derived.WideLaws
import Derived.Deep.DeepCutAuto
import Derived.Deep.CutBlock
import Derived.Deep.RegionHeld3
import Derived.Laws.Rows
import Derived.Lib.AppendStr
import Derived.ArgAppend
import Derived.Laws.IdiomCopy
import Derived.OrdersHeld
import Derived.Laws.BitsLemmas
import Derived.RowKit
import Derived.Lib.LazyBuf
import Derived.Carry
import Derived.Laws.Cover1
import Derived.Test.YtdjkdlbokepoaaaGreatDoorKK28
import Derived.OwnWalkIn
import Derived.Shelf.Abstract
import Derived.Shelf.RegionOpen
import Derived.Test.YtdjkdlbokepoaaaGreatDoorKK2
import Derived.Test.YtdjkdlbokepoaaaGreatDoorKK3
import Derived.Test.YtdjkdlbokepoaaaGreatDoorKK5
import Derived.Test.YtdjkdlbokepoaaaGreatDoorKK8
import Derived.Test.YtdjkdlbokepoaaaGreatDoorKK9
import Derived.Test.YtdjkdlbokepoaaaGreatDoorKK10
import Derived.Test.YtdjkdlbokepoaaaGreatDoorKK11
import Derived.Test.YtdjkdlbokepoaaaGreatDoorKK32
import Derived.Test.YtdjkdlbokepoaaaGreatDoorKK33
import Derived.Test.YtdjkdlbokepoaaaGreatDoorKK13
namespace Go.Proofs.YtdjkdlbokepoaaaGreatDoor.P
open Go.RowKit Go.Proofs.YtdjkdlbokepoaaaGreatDoorW.PrintWords Go.Proofs.YtdjkdlbokepoaaaGreatDoorW.PrintLast Go.Proofs.YtdjkdlbokepoaaaGreatDoorW.PrintMore
attribute [local go_sem] max2_int min2_int max_two min_two max_three min_three max_four min_four   -- for this text's walks alone
set_option linter.unusedVariables false
set_option linter.unusedSimpArgs false
def errW : Option Int → Value
  | none => .nilIface
  | some c => .iface 0 (.int .i64 c)
theorem errW_none : errW none = .nilIface := rfl
theorem errW_some (c : Int) : errW (some c) = .iface 0 (.int .i64 c) := rfl
theorem info5 : (Tryz.prog.info? 5).map (fun i => (i.zero, i.size, i.bytes)) = some (some (.int .u8 0), 1, 1) := by kernel_rfl
structure S39 where
  f0 : Int
  f1 : Int
def z39 : S39 := ⟨(0 : Int), (0 : Int)⟩
def k39 : Kd S39 := Kd.iso (Kd.pair (Kd.int .i64) (Kd.int .i64)) (fun x : S39 => (x.f0, x.f1))
theorem k39_open {w : World} {x : S39} {cs : List Value} (h : k39.K w x cs) : cs = [.int .i64 x.f0, .int .i64 x.f1] := by
  obtain ⟨_, _, rfl, rfl, rfl⟩ := h
  exact rfl
theorem k39_mkM (w : World) (base : Nat) (ok : Nat → Prop) (x : S39)  : k39.M w base ok x [.int .i64 x.f0, .int .i64 x.f1] := ⟨[.int .i64 x.f0], [.int .i64 x.f1], rfl, rfl, rfl⟩
structure S41 where
  f0 : Int
  f1 : Int
  f2 : S39
  f3 : ByteArray
  f4 : Int
def z41 : S41 := ⟨(0 : Int), (0 : Int), z39, (⟨#[]⟩ : ByteArray), (0 : Int)⟩
def k41 : Kd S41 := Kd.iso (Kd.pair (Kd.int .i64) (Kd.pair (Kd.int .i64) (Kd.pair k39 (Kd.pair Kd.string (Kd.int .i64))))) (fun x : S41 => (x.f0, x.f1, x.f2, x.f3, x.f4))
theorem k41_open {w : World} {x : S41} {cs : List Value} (h : k41.K w x cs) : cs = [.int .i64 x.f0, .int .i64 x.f1, .int .i64 x.f2.f0, .int .i64 x.f2.f1, .string x.f3, .int .i64 x.f4] := by
  obtain ⟨_, _, rfl, rfl, ⟨_, _, rfl, rfl, ⟨_, _, rfl, s2, ⟨_, _, rfl, rfl, rfl⟩⟩⟩⟩ := h
  obtain rfl := k39_open s2
  exact rfl
theorem k41_mkM (w : World) (base : Nat) (ok : Nat → Prop) (x : S41)  : k41.M w base ok x [.int .i64 x.f0, .int .i64 x.f1, .int .i64 x.f2.f0, .int .i64 x.f2.f1, .string x.f3, .int .i64 x.f4] := ⟨[.int .i64 x.f0], [.int .i64 x.f1, .int .i64 x.f2.f0, .int .i64 x.f2.f1, .string x.f3, .int .i64 x.f4], rfl, rfl, ⟨[.int .i64 x.f1], [.int .i64 x.f2.f0, .int .i64 x.f2.f1, .string x.f3, .int .i64 x.f4], rfl, rfl, ⟨[.int .i64 x.f2.f0, .int .i64 x.f2.f1], [.string x.f3, .int .i64 x.f4], rfl, (k39_mkM w base ok x.f2 ), ⟨[.string x.f3], [.int .i64 x.f4], rfl, rfl, rfl⟩⟩⟩⟩
def rd_T41 (xs : List S41) (i : Int) : S41 := xs.getD i.toNat z41
theorem at_T41 {w : World} {A : Option Addr} {n : Nat} {xs : List S41} (h : Kd.C k41 w A n xs) (i : Int) (h0 : 0 ≤ i) (h1 : i < n) : ∃ ad , A = some ad ∧ w.cell? (ad.add (i.toNat * 6)) = some (.int .i64 (rd_T41 xs i).f0) ∧ w.cell? ⟨(ad.add (i.toNat * 6)).block, (ad.add (i.toNat * 6)).off + 1, none⟩ = some (.int .i64 (rd_T41 xs i).f1) ∧ w.cell? ⟨(ad.add (i.toNat * 6)).block, (ad.add (i.toNat * 6)).off + 2, none⟩ = some (.int .i64 (rd_T41 xs i).f2.f0) ∧ w.cell? ⟨(ad.add (i.toNat * 6)).block, (ad.add (i.toNat * 6)).off + 3, none⟩ = some (.int .i64 (rd_T41 xs i).f2.f1) ∧ w.cell? ⟨(ad.add (i.toNat * 6)).block, (ad.add (i.toNat * 6)).off + 4, none⟩ = some (.string (rd_T41 xs i).f3) ∧ w.cell? ⟨(ad.add (i.toNat * 6)).block, (ad.add (i.toNat * 6)).off + 5, none⟩ = some (.int .i64 (rd_T41 xs i).f4) := by
  obtain ⟨ad, c, e, _, hK, hc0⟩ := Kd.C_get h z41 i h0 h1
  have hc : ∀ j u, c[j]? = some u → w.cell? (ad.add (i.toNat * 6 + j)) = some u := hc0
  obtain rfl := k41_open hK
  exact ⟨ad, e, hc 0 _ rfl, by rw [← add_field _ _ 1 (by omega)]; exact hc 1 _ rfl, by rw [← add_field _ _ 2 (by omega)]; exact hc 2 _ rfl, by rw [← add_field _ _ 3 (by omega)]; exact hc 3 _ rfl, by rw [← add_field _ _ 4 (by omega)]; exact hc 4 _ rfl, by rw [← add_field _ _ 5 (by omega)]; exact hc 5 _ rfl⟩
abbrev Y : Bool := true
theorem ak {p : Prop} (h : p) : Aside0 p := ⟨h⟩
theorem bN {W : World} {g : Nat} {o : Obj} (h : W.heap[g]? = some o) (m : Nat) : (W.drewN m).heap[g]? = some o := blk_drewN h m
theorem bD {W : World} {g : Nat} {o : Obj} (h : W.heap[g]? = some o) : W.drew.heap[g]? = some o := blk_drew h
theorem bA {W : World} {g : Nat} {o : Obj} (h : W.heap[g]? = some o) (o' : Obj) : (W.alloc o').heap[g]? = some o := blk_alloc h o'
theorem wA {w W : World} (h : Below w.heap.size w W) (o : Obj) : Below w.heap.size w (W.alloc o) := below_alloc h o
theorem wN {B : Nat} {w W : World} (h : Below B w W) (n : Nat) : Below B w (W.drewN n) := pw_below_drewN h n
theorem wD {B : Nat} {w W : World} (h : Below B w W) : Below B w W.drew := below_drew1 h
end Go.Proofs.YtdjkdlbokepoaaaGreatDoor.P
namespace Go.Proofs.YtdjkdlbokepoaaaGreatDoor.P
open Go.RowKit Go.Proofs.YtdjkdlbokepoaaaGreatDoorW.PrintWords Go.Proofs.YtdjkdlbokepoaaaGreatDoorW.PrintLast Go.Proofs.YtdjkdlbokepoaaaGreatDoorW.PrintMore
attribute [local go_sem] max2_int min2_int max_two min_two max_three min_three max_four min_four   -- for this text's walks alone
set_option linter.unusedVariables false
set_option linter.unusedSimpArgs false
def conv9to29.f (a0 : ByteArray) : Option (List Int) := Ft.convF a0
instance instS41 : Inhabited S41 := ⟨z41⟩
def cells41 (x : S41) : List Value := [.int .i64 x.f0, .int .i64 x.f1, .int .i64 x.f2.f0, .int .i64 x.f2.f1, .string x.f3, .int .i64 x.f4]
/-- The chain of a fault, its own index first. -/
def chainG (l : List S41) : Nat → Int → List Int
  | 0, _ => []
  | k + 1, i => if i < 0 then [] else i :: chainG l k (rd_T41 l i).f4
/-- Each cause is an earlier fault, or none. -/
def Downs (l : List S41) : Prop := ∀ i : Nat, i < l.length → -1 ≤ (rd_T41 l i).f4 ∧ (rd_T41 l i).f4 < (i : Int)
def linkOf (l : List S41) (i : Int) : Int × Int := (i, (rd_T41 l i).f0)
/-- Is each cause an earlier fault, or none? -/
def downsB (l : List S41) : Bool := (List.range l.length).all fun i => decide (-1 ≤ (rd_T41 l i).f4 ∧ (rd_T41 l i).f4 < (i : Int))
theorem downs_of {l : List S41} (h : downsB l = true) : Downs l := fun i hi => of_decide_eq_true (List.all_eq_true.1 h i (List.mem_range.2 hi))
def runes_Check.f (l0 : List Int) : Option (Int × Int) := Sc.checkL l0
theorem runes_Check.calls (A0 : Option Addr) (c0 : Nat) (l0 : List Int) (r1 : Int) (r2 : Int) (w : World) (hr0 : Kd.C (Kd.int .u8) w A0 l0.length l0) (hc0 : l0.length ≤ c0) (h : runes_Check.f l0 = some (r1, r2)) (HT : Aside0 (Ft.All w)) :
    Calls Tryz.prog 45 #[.slice A0 l0.length c0] w fun e w' => e = .returned (.tuple #[.int .i64 r1, .int .i64 r2]) ∧ Below w.heap.size w w' :=
  Sc.check_all l0 A0 c0 r1 r2 w hr0 hc0 h HT.out.tab
end Go.Proofs.YtdjkdlbokepoaaaGreatDoor.P
namespace Go.Proofs.YtdjkdlbokepoaaaGreatDoor.P
open Go.RowKit Go.Proofs.YtdjkdlbokepoaaaGreatDoorW.PrintWords Go.Proofs.YtdjkdlbokepoaaaGreatDoorW.PrintLast Go.Proofs.YtdjkdlbokepoaaaGreatDoorW.PrintMore
attribute [local go_sem] max2_int min2_int max_two min_two max_three min_three max_four min_four   -- for this text's walks alone
set_option linter.unusedVariables false
set_option linter.unusedSimpArgs false
def utf8_RuneStart.f (a0 : Int) : Option Bool := if 0 ≤ a0 ∧ a0 < 256 then some (Lib.runeStart a0) else none
theorem utf8_RuneStart.calls (a0 : Int) (r : Bool) (w : World) (h : utf8_RuneStart.f a0 = some r) :
    Calls Tryz.prog 80 #[.int .u8 a0] w fun e w' => e = .returned (.bool r) ∧ w' = w := by
  unfold utf8_RuneStart.f at h
  by_cases hs : 0 ≤ a0 ∧ a0 < 256
  · rw [if_pos hs] at h
    obtain rfl := Option.some.inj h
    exact Tryz.utf8_RuneStart a0 w hs.1 hs.2
  · rw [if_neg hs] at h; cases h
end Go.Proofs.YtdjkdlbokepoaaaGreatDoor.P
namespace Go.Proofs.YtdjkdlbokepoaaaGreatDoor.P
open Go.RowKit Go.Proofs.YtdjkdlbokepoaaaGreatDoorW.PrintWords Go.Proofs.YtdjkdlbokepoaaaGreatDoorW.PrintLast Go.Proofs.YtdjkdlbokepoaaaGreatDoorW.PrintMore
attribute [local go_sem] max2_int min2_int max_two min_two max_three min_three max_four min_four   -- for this text's walks alone
set_option linter.unusedVariables false
set_option linter.unusedSimpArgs false
mutual
def runes_Back.j0 : Nat → List Int → Int → Bool → Option (Int × Int)
  | 0, _, _, _ => none
  | k + 1, x0, x1, x23 => if x23 = true then (some (0, 7)) else (runes_Back.l0 k x0 x1)
def runes_Back.l0 : Nat → List Int → Int → Option (Int × Int)
  | 0, _, _ => none
  | k + 1, x0, x1 => if x1 < (x0.length : Int) then (if x1 > 0 then (if 0 ≤ x1 then ((utf8_RuneStart.f (rd x0 x1)).bind fun t105 => (if t105 = true then (some (x1, 0)) else (runes_Back.l0 k x0 (wrap64 (x1 - 1))))) else (none)) else (some (x1, 0))) else (some (x1, 0))
end
def runes_Back.f (k : Nat) (l0 : List Int) (a1 : Int) : Option (Int × Int) := (runes_Check.f l0).bind fun bt102 => (if bt102.2 = 0 then (if a1 < 0 then (runes_Back.j0 k l0 a1 true) else (runes_Back.j0 k l0 a1 (decide (a1 > (l0.length : Int))))) else (some (0, bt102.2)))
set_option maxHeartbeats 8000000 in
set_option maxRecDepth 100000 in
theorem runes_Back.calls (k : Nat) (A0 : Option Addr) (c0 : Nat) (l0 : List Int) (a1 : Int) (r1 : Int) (r2 : Int) (w : World) (hr0 : Kd.C (Kd.int .u8) w A0 l0.length l0) (hc0 : l0.length ≤ c0) (h : runes_Back.f k l0 a1 = some (r1, r2)) (HT : Aside0 (Ft.All w)) :
    Calls Tryz.prog 46 #[.slice A0 l0.length c0, .int .i64 a1] w fun e w' => e = .returned (.tuple #[.int .i64 r1, .int .i64 r2]) ∧ Below w.heap.size w w' := by
  have HR0 := ak hr0
  have HC0 := ak hc0
  clear hr0 hc0
  have HB := ak (Below.refl w.heap.size w)
  have H : ((runes_Check.f l0).bind fun bt102 => (if bt102.2 = 0 then (if a1 < 0 then (runes_Back.j0 k l0 a1 true) else (runes_Back.j0 k l0 a1 (decide (a1 > (l0.length : Int))))) else (some (0, bt102.2)))) = some (r1, r2) := h
  clear h
  replace H := Option.bind_eq_some_iff.mp H
  obtain ⟨⟨t102, t103⟩, A30, H⟩ := H
  replace H : (if t103 = 0 then (if a1 < 0 then (runes_Back.j0 k l0 a1 true) else (runes_Back.j0 k l0 a1 (decide (a1 > (l0.length : Int))))) else (some (0, t103))) = some (r1, r2) := H
  have A3 := ak A30
  clear A30
  by_cases c4 : t103 = 0
  · rw [if_pos c4] at H
    have c4b0 : (t103 == 0) = true := beq_iff_eq.mpr c4
    have c4b1 : (t103 != 0) = false := bne_eq_false_iff_eq.mpr c4
    clear c4
    have HC5 := ak H
    clear H
    go_enter Tryz.func46, Tryz.ntmps46
    go_upto_region 4 with (first | ((with_reducible refine gate_callee (f := 45) rfl ?_); refine goesL_ (some 10) rfl rfl Tryz.func45 (by kernel_rfl) rfl #[.slice A0 l0.length c0] rfl (by (try simp only [List.map_toArray, List.map_cons, List.map_nil]); first | done | rfl | (simp only [List.length_drop, List.length_take]; rfl)) ?_; (with_reducible refine (runes_Check.calls _ _ l0 t102 t103 _ ?side1 ?side2 A3.out ⟨Ft.All.stay HT.out (by repeat (first | (with_reducible first | exact HB.out | apply wA | apply wN | apply wD) | exact HB.out | (refine below_set ?_ (by assumption)) | (refine below_set ?_ (Aside0.out (by assumption)))))⟩).mono ?_); (case side1 => repeat (first | exact HR0.out | (with_reducible refine Kd.C_alloc ?_ _) | (with_reducible refine Kd.C_drewN ?_ _) | (with_reducible refine Kd.C_drew ?_))); (case side2 => exact HC0.out); rintro e w6 ⟨rfl, hb⟩; refine ⟨_, rfl, ?_⟩; have n0_ := ak (below_step (by repeat (first | (with_reducible first | exact HB.out | apply wA | apply wN | apply wD) | exact HB.out)) hb); clear HB; have HB := n0_; clear n0_; (try clear hb); (try clear hb2); (try clear hk); (try clear hi)))
    (try simp only [Act.put, List.setIfInBounds_toArray, List.set_cons_zero, List.set_cons_succ])
    go_cut [23] (fun v23 wc => ∃ (kq : Nat) (x23_4 : Bool), v23 = .bool x23_4 ∧ Aside0 (runes_Back.j0 kq l0 a1 x23_4 = some (r1, r2)) ∧ Aside0 (kq ≤ k) ∧ Aside0 (Below w.heap.size w wc))
    case first =>
      have H := HC5.out
      clear HC5
      by_cases c7 : a1 < 0
      · rw [if_pos c7] at H
        have c7b0 : decide (a1 < 0) = true := decide_eq_true c7
        clear c7
        (first | rw [c7b0] | (simp only [i64_w, i32_w]; rw [c7b0]) | skip)
        have H' := ak H
        clear H
        go_wp2
        go_meet
        case rel => exact ⟨_, (true), (by first | rfl | (simp; done) | (simp [*]; done)), H', ⟨by first | omega | exact Nat.le_refl _⟩, ⟨by repeat (first | (with_reducible first | exact HB.out | apply wA | apply wN | apply wD) | exact HB.out)⟩⟩
      · rw [if_neg c7] at H
        have c7b0 : decide (a1 < 0) = false := decide_eq_false c7
        clear c7
        (first | rw [c7b0] | (simp only [i64_w, i32_w]; rw [c7b0]) | skip)
        have H' := ak H
        clear H
        go_wp2
        go_meet
        case rel => exact ⟨_, (decide (a1 > (l0.length : Int))), (by first | rfl | (simp; done) | (simp [*]; done)), H', ⟨by first | omega | exact Nat.le_refl _⟩, ⟨by repeat (first | (with_reducible first | exact HB.out | apply wA | apply wN | apply wD) | exact HB.out)⟩⟩
    case rest =>
      clear HC5
      try clear p2
      try clear c4
      try clear c4b0
      try clear c4b1
      try clear c7
      try clear c7b0
      obtain ⟨kq, x23_4, rfl, HA, HJ4, HB⟩ := hcut
      cases kq with
      | zero => exact absurd HA.out (by simp [runes_Back.j0])
      | succ kj4 =>
        have H := HA.out
        clear HA
        simp only [runes_Back.j0] at H
        by_cases c8 : x23_4 = true
        · subst c8
          have H1 : (some (0, 7)) = some (r1, r2) := by rw [if_pos rfl] at H; exact H
          clear H
          have H := H1
          clear H1
          simp only [Option.some.injEq, Prod.mk.injEq] at H
          obtain ⟨rfl, rfl⟩ := H
          go_wp2
          go_ret2
          exact ⟨by first | rfl | (simp [errW_none, errW_some] <;> rfl) | (simp [*, errW_none, errW_some] <;> rfl), by repeat (first | (with_reducible first | exact HB.out | apply wA | apply wN | apply wD) | exact HB.out)⟩
        · replace c8 := Bool.eq_false_iff.mpr c8
          subst c8
          have H1 : (runes_Back.l0 kj4 l0 a1) = some (r1, r2) := by rw [if_neg (show ¬ (false = true) by decide)] at H; exact H
          clear H
          have H := H1
          clear H1
          have H' := ak H
          clear H
          go_wp2
          go_loopg [1] kj4 (fun kq v1 w' => ∃ (x1_2 : Int), v1 = .int .i64 x1_2 ∧ Aside0 (runes_Back.l0 kq l0 x1_2 = some (r1, r2)) ∧ Aside0 (kq ≤ kj4) ∧ Aside0 (Below w.heap.size w w'))
          case atStart => exact ⟨(a1), (by first | rfl | (simp; done) | (simp [*]; done)), H', ⟨Nat.le_refl _⟩, ⟨by repeat (first | (with_reducible first | exact HB.out | apply wA | apply wN | apply wD) | exact HB.out)⟩⟩
          case round =>
            clear H'
            try clear p2
            try clear c4
            try clear c4b0
            try clear c4b1
            try clear c7
            try clear c7b0
            try clear c8
            try clear p2
            obtain ⟨x1_2, rfl, HA, HK2, HB⟩ := hrel
            cases gk with
            | zero => exact absurd HA.out (by simp [runes_Back.l0])
            | succ k2 =>
              have H := HA.out
              clear HA
              simp only [runes_Back.l0] at H
              by_cases c9 : x1_2 < (l0.length : Int)
              · rw [if_pos c9] at H
                have c9b0 : decide (x1_2 < (l0.length : Int)) = true := decide_eq_true c9
                clear c9
                by_cases c10 : x1_2 > 0
                · rw [if_pos c10] at H
                  have c10b0 : decide (0 < x1_2) = true := decide_eq_true c10
                  clear c10
                  by_cases c11 : 0 ≤ x1_2
                  · rw [if_pos c11] at H
                    have c11b0 : decide (0 ≤ x1_2) = true := decide_eq_true c11
                    clear c11
                    replace H := Option.bind_eq_some_iff.mp H
                    obtain ⟨t105, A120, H⟩ := H
                    replace H : (if t105 = true then (some (x1_2, 0)) else (runes_Back.l0 k2 l0 (wrap64 (x1_2 - 1)))) = some (r1, r2) := H
                    have A12 := ak A120
                    clear A120
                    by_cases c13 : t105 = true
                    · subst c13
                      have H1 : (some (x1_2, 0)) = some (r1, r2) := by rw [if_pos rfl] at H; exact H
                      clear H
                      have H := H1
                      clear H1
                      simp only [Option.some.injEq, Prod.mk.injEq] at H
                      obtain ⟨rfl, rfl⟩ := H
                      have p104 : 0 ≤ (x1_2 : Int) := of_decide_eq_true (by first | (with_reducible assumption) | assumption)
                      have q104 : x1_2 < (l0.length : Int) := of_decide_eq_true (by first | (with_reducible assumption) | assumption)
                      obtain ⟨ad104, e104, hx104_0⟩ := Kd.at_int HR0.out x1_2 p104 q104
                      cases e104
                      replace hx104_0 := (HB.out.cell (World.block_lt_of_cell? w _ hx104_0)).trans hx104_0
                      replace p104 := eq_true p104
                      replace q104 := eq_true q104
                      go_wp2_with (first | (go_at_call 80; (with_reducible refine (utf8_RuneStart.calls (rd l0 x1_2) true _ A12.out).mono ?_); rintro e w' ⟨rfl, ⟨nd, rfl⟩⟩))
                      go_ret2
                      exact ⟨by first | rfl | (simp [errW_none, errW_some] <;> rfl) | (simp [*, errW_none, errW_some] <;> rfl), by repeat (first | (with_reducible first | exact HB.out | apply wA | apply wN | apply wD) | exact HB.out)⟩
                    · replace c13 := Bool.eq_false_iff.mpr c13
                      subst c13
                      have H1 : (runes_Back.l0 k2 l0 (wrap64 (x1_2 - 1))) = some (r1, r2) := by rw [if_neg (show ¬ (false = true) by decide)] at H; exact H
                      clear H
                      have H := H1
                      clear H1
                      have H' := ak H
                      clear H
                      have p104 : 0 ≤ (x1_2 : Int) := of_decide_eq_true (by first | (with_reducible assumption) | assumption)
                      have q104 : x1_2 < (l0.length : Int) := of_decide_eq_true (by first | (with_reducible assumption) | assumption)
                      obtain ⟨ad104, e104, hx104_0⟩ := Kd.at_int HR0.out x1_2 p104 q104
                      cases e104
                      replace hx104_0 := (HB.out.cell (World.block_lt_of_cell? w _ hx104_0)).trans hx104_0
                      replace p104 := eq_true p104
                      replace q104 := eq_true q104
                      go_wp2_with (first | (go_at_call 80; (with_reducible refine (utf8_RuneStart.calls (rd l0 x1_2) false _ A12.out).mono ?_); rintro e w' ⟨rfl, ⟨nd, rfl⟩⟩))
                      go_roundg k2
                      case measure => have := HJ4.out; have := HK2.out; omega
                      case rel => exact ⟨(wrap64 (x1_2 - 1)), (by first | rfl | (simp; done) | (simp [*]; done)), H', ⟨by have := HJ4.out; have := HK2.out; omega⟩, ⟨by repeat (first | (with_reducible first | exact HB.out | apply wA | apply wN | apply wD) | exact HB.out)⟩⟩
                  · rw [if_neg c11] at H
                    exact absurd H (by simp)
                · rw [if_neg c10] at H
                  have c10b0 : decide (0 < x1_2) = false := decide_eq_false c10
                  clear c10
                  simp only [Option.some.injEq, Prod.mk.injEq] at H
                  obtain ⟨rfl, rfl⟩ := H
                  go_wp2
                  go_ret2
                  exact ⟨by first | rfl | (simp [errW_none, errW_some] <;> rfl) | (simp [*, errW_none, errW_some] <;> rfl), by repeat (first | (with_reducible first | exact HB.out | apply wA | apply wN | apply wD) | exact HB.out)⟩
              · rw [if_neg c9] at H
                have c9b0 : decide (x1_2 < (l0.length : Int)) = false := decide_eq_false c9
                clear c9
                simp only [Option.some.injEq, Prod.mk.injEq] at H
                obtain ⟨rfl, rfl⟩ := H
                go_wp2
                go_ret2
                exact ⟨by first | rfl | (simp [errW_none, errW_some] <;> rfl) | (simp [*, errW_none, errW_some] <;> rfl), by repeat (first | (with_reducible first | exact HB.out | apply wA | apply wN | apply wD) | exact HB.out)⟩
  · rw [if_neg c4] at H
    have c4b0 : (t103 == 0) = false := beq_eq_false_iff_ne.mpr c4
    have c4b1 : (t103 != 0) = true := bne_iff_ne.mpr c4
    simp only [Option.some.injEq, Prod.mk.injEq] at H
    obtain ⟨rfl, rfl⟩ := H
    go_enter Tryz.func46, Tryz.ntmps46
    go_wp2_with (first | ((with_reducible refine gate_callee (f := 45) rfl ?_); refine goesL_ (some 10) rfl rfl Tryz.func45 (by kernel_rfl) rfl #[.slice A0 l0.length c0] rfl (by (try simp only [List.map_toArray, List.map_cons, List.map_nil]); first | done | rfl | (simp only [List.length_drop, List.length_take]; rfl)) ?_; (with_reducible refine (runes_Check.calls _ _ l0 t102 t103 _ ?side1 ?side2 A3.out ⟨Ft.All.stay HT.out (by repeat (first | (with_reducible first | exact HB.out | apply wA | apply wN | apply wD) | exact HB.out | (refine below_set ?_ (by assumption)) | (refine below_set ?_ (Aside0.out (by assumption)))))⟩).mono ?_); (case side1 => repeat (first | exact HR0.out | (with_reducible refine Kd.C_alloc ?_ _) | (with_reducible refine Kd.C_drewN ?_ _) | (with_reducible refine Kd.C_drew ?_))); (case side2 => exact HC0.out); rintro e w14 ⟨rfl, hb⟩; refine ⟨_, rfl, ?_⟩; have n0_ := ak (below_step (by repeat (first | (with_reducible first | exact HB.out | apply wA | apply wN | apply wD) | exact HB.out)) hb); clear HB; have HB := n0_; clear n0_; (try clear hb); (try clear hb2); (try clear hk); (try clear hi)))
    go_ret2
    exact ⟨by first | rfl | (simp [errW_none, errW_some] <;> rfl) | (simp [*, errW_none, errW_some] <;> rfl), by repeat (first | (with_reducible first | exact HB.out | apply wA | apply wN | apply wD) | exact HB.out)⟩
end Go.Proofs.YtdjkdlbokepoaaaGreatDoor.P
namespace Go.Proofs.YtdjkdlbokepoaaaGreatDoor.P
open Go.RowKit Go.Proofs.YtdjkdlbokepoaaaGreatDoorW.PrintWords Go.Proofs.YtdjkdlbokepoaaaGreatDoorW.PrintLast Go.Proofs.YtdjkdlbokepoaaaGreatDoorW.PrintMore
attribute [local go_sem] max2_int min2_int max_two min_two max_three min_three max_four min_four   -- for this text's walks alone
set_option linter.unusedVariables false
set_option linter.unusedSimpArgs false
def runes_Runes.f (l0 : List Int) : Option (List Int × Int) := (Sc.goodRuns l0).map fun rs => (rs.map (fun x => ((x.2 : Nat) : Int)), 0)
theorem runes_Runes.calls (A0 : Option Addr) (c0 : Nat) (l0 : List Int) (r1 : List Int) (r2 : Int) (w : World) (hr0 : Kd.C (Kd.int .u8) w A0 l0.length l0) (hc0 : l0.length ≤ c0) (h : runes_Runes.f l0 = some (r1, r2)) (HT : Aside0 (Ft.All w)) :
    Calls Tryz.prog 81 #[.slice A0 l0.length c0] w fun e w' => ∃ v0_ : Value, e = .returned (.tuple #[v0_, .int .i64 r2]) ∧ Kd.R (Kd.int .i32) 21 w' w.heap.size (fun _ => True) v0_ r1 ∧ Below w.heap.size w w' := by
  unfold runes_Runes.f at h
  obtain ⟨rs, h1, h2⟩ := Option.map_eq_some_iff.mp h
  cases h2
  exact (Sc.runes_calls l0 A0 c0 rs w hr0 hc0 h1 HT.out.tab).mono fun e W' ⟨v, he, hrow, hb⟩ => ⟨v, he, Kd.R_of_own hrow (fun _ _ => trivial), hb⟩
def runes_Count.f (l0 : List Int) : Option (Int × Int) := (runes_Runes.f l0).bind fun bt106 => (some ((bt106.1.length : Int), bt106.2))
set_option maxHeartbeats 8000000 in
set_option maxRecDepth 100000 in
theorem runes_Count.calls (A0 : Option Addr) (c0 : Nat) (l0 : List Int) (r1 : Int) (r2 : Int) (w : World) (hr0 : Kd.C (Kd.int .u8) w A0 l0.length l0) (hc0 : l0.length ≤ c0) (h : runes_Count.f l0 = some (r1, r2)) (HT : Aside0 (Ft.All w)) :
    Calls Tryz.prog 47 #[.slice A0 l0.length c0] w fun e w' => e = .returned (.tuple #[.int .i64 r1, .int .i64 r2]) ∧ Below w.heap.size w w' := by
  have HR0 := ak hr0
  have HC0 := ak hc0
  clear hr0 hc0
  have HB := ak (Below.refl w.heap.size w)
  have H : ((runes_Runes.f l0).bind fun bt106 => (some ((bt106.1.length : Int), bt106.2))) = some (r1, r2) := h
  clear h
  replace H := Option.bind_eq_some_iff.mp H
  obtain ⟨⟨t106, t107⟩, A20, H⟩ := H
  replace H : (some ((t106.length : Int), t107)) = some (r1, r2) := H
  have A2 := ak A20
  clear A20
  simp only [Option.some.injEq, Prod.mk.injEq] at H
  obtain ⟨rfl, rfl⟩ := H
  go_enter Tryz.func47, Tryz.ntmps47
  go_wp2_with (first | ((with_reducible refine gate_callee (f := 81) rfl ?_); refine goesL_ (some 8) rfl rfl Tryz.func81 (by kernel_rfl) rfl #[.slice A0 l0.length c0] rfl (by (try simp only [List.map_toArray, List.map_cons, List.map_nil]); first | done | rfl | (simp only [List.length_drop, List.length_take]; rfl)) ?_; (with_reducible refine (runes_Runes.calls _ _ l0 t106 t107 _ ?side1 ?side2 A2.out ⟨Ft.All.stay HT.out (by repeat (first | (with_reducible first | exact HB.out | apply wA | apply wN | apply wD) | exact HB.out | (refine below_set ?_ (by assumption)) | (refine below_set ?_ (Aside0.out (by assumption)))))⟩).mono ?_); (case side1 => repeat (first | exact HR0.out | (with_reducible refine Kd.C_alloc ?_ _) | (with_reducible refine Kd.C_drewN ?_ _) | (with_reducible refine Kd.C_drew ?_))); (case side2 => exact HC0.out); rintro e w3 ⟨v108, rfl, ho0, hb⟩; refine ⟨_, rfl, ?_⟩; have n0_ := ak (Kd.R_lower ho0 (below_size (by repeat (first | (with_reducible first | exact HB.out | apply wA | apply wN | apply wD) | exact HB.out)))); have n1_ := ak (below_step (by repeat (first | (with_reducible first | exact HB.out | apply wA | apply wN | apply wD) | exact HB.out)) hb); clear HB; have HO109 := n0_; have HB := n1_; clear n0_ n1_; (try clear hb); (try clear hb2); (try clear hk); (try clear hi); (try clear ho0); obtain ⟨Ao4, co4, eo4⟩ := Kd.R_slice HO109.out; subst eo4))
  go_ret2
  exact ⟨by first | rfl | (simp [errW_none, errW_some] <;> rfl) | (simp [*, errW_none, errW_some] <;> rfl), by repeat (first | (with_reducible first | exact HB.out | apply wA | apply wN | apply wD) | exact HB.out)⟩
def bytealg_LastIndexByte.l0 : Nat → List Int → Int → Int → Option (Int)
  | 0, _, _, _ => none
  | k + 1, x0, x1, x5 => if x5 ≥ 0 then (if 0 ≤ x5 then (if x5 < (x0.length : Int) then (if (rd x0 x5) = x1 then (some x5) else (bytealg_LastIndexByte.l0 k x0 x1 (wrap64 (x5 - 1)))) else (none)) else (none)) else (some (-1))
def bytealg_LastIndexByte.f (k : Nat) (l0 : List Int) (a1 : Int) : Option (Int) := bytealg_LastIndexByte.l0 k l0 a1 (wrap64 ((l0.length : Int) - 1))
set_option maxHeartbeats 8000000 in
set_option maxRecDepth 100000 in
theorem bytealg_LastIndexByte.calls (k : Nat) (A0 : Option Addr) (c0 : Nat) (l0 : List Int) (a1 : Int) (r : Int) (w : World) (hr0 : Kd.C (Kd.int .u8) w A0 l0.length l0) (hc0 : l0.length ≤ c0) (h : bytealg_LastIndexByte.f k l0 a1 = some r) :
    Calls Tryz.prog 82 #[.slice A0 l0.length c0, .int .u8 a1] w fun e w' => e = .returned (.int .i64 r) ∧ Drawn0 w w' := by
  have HR0 := ak hr0
  have HC0 := ak hc0
  clear hr0 hc0
  have H : (bytealg_LastIndexByte.l0 k l0 a1 (wrap64 ((l0.length : Int) - 1))) = some r := h
  clear h
  have H' := ak H
  clear H
  go_enter Tryz.func82, Tryz.ntmps82
  go_wp2
  go_loopg [5] k (fun kq v5 w' => ∃ (x5_1 : Int), v5 = .int .i64 x5_1 ∧ Aside0 (bytealg_LastIndexByte.l0 kq l0 a1 x5_1 = some r) ∧ Aside0 (kq ≤ k) ∧ Drawn0 w w')
  case atStart => exact ⟨(wrap64 ((l0.length : Int) - 1)), (by first | rfl | (simp; done) | (simp [*]; done)), H', ⟨Nat.le_refl _⟩, by repeat (first | exact Drawn0.refl _ | apply Drawn0.step)⟩
  case round =>
    clear H'
    try clear p2
    obtain ⟨x5_1, rfl, HA, HK1, ⟨m1, rfl⟩⟩ := hrel
    cases gk with
    | zero => exact absurd HA.out (by simp [bytealg_LastIndexByte.l0])
    | succ k1 =>
      have H := HA.out
      clear HA
      simp only [bytealg_LastIndexByte.l0] at H
      by_cases c3 : x5_1 ≥ 0
      · rw [if_pos c3] at H
        have c3b0 : decide (0 ≤ x5_1) = true := decide_eq_true c3
        clear c3
        by_cases c4 : 0 ≤ x5_1
        · rw [if_pos c4] at H
          have c4b0 : decide (0 ≤ x5_1) = true := decide_eq_true c4
          clear c4
          by_cases c5 : x5_1 < (l0.length : Int)
          · rw [if_pos c5] at H
            have c5b0 : decide (x5_1 < (l0.length : Int)) = true := decide_eq_true c5
            clear c5
            by_cases c6 : (rd l0 x5_1) = a1
            · rw [if_pos c6] at H
              have c6b0 : ((rd l0 x5_1) == a1) = true := beq_iff_eq.mpr c6
              have c6b1 : ((rd l0 x5_1) != a1) = false := bne_eq_false_iff_eq.mpr c6
              clear c6
              obtain rfl := Option.some.inj H
              have p110 : 0 ≤ (x5_1 : Int) := of_decide_eq_true (by first | (with_reducible assumption) | assumption)
              have q110 : x5_1 < (l0.length : Int) := of_decide_eq_true (by first | (with_reducible assumption) | assumption)
              obtain ⟨ad110, e110, hx110_0⟩ := Kd.at_int HR0.out x5_1 p110 q110
              cases e110
              replace p110 := eq_true p110
              replace q110 := eq_true q110
              go_wp2
              go_ret
              exact ⟨by first | rfl | (simp; done) | (simp [*]; done), by repeat (first | exact Drawn0.refl _ | apply Drawn0.step)⟩
            · rw [if_neg c6] at H
              have c6b0 : ((rd l0 x5_1) == a1) = false := beq_eq_false_iff_ne.mpr c6
              have c6b1 : ((rd l0 x5_1) != a1) = true := bne_iff_ne.mpr c6
              have H' := ak H
              clear H
              have p110 : 0 ≤ (x5_1 : Int) := of_decide_eq_true (by first | (with_reducible assumption) | assumption)
              have q110 : x5_1 < (l0.length : Int) := of_decide_eq_true (by first | (with_reducible assumption) | assumption)
              obtain ⟨ad110, e110, hx110_0⟩ := Kd.at_int HR0.out x5_1 p110 q110
              cases e110
              replace p110 := eq_true p110
              replace q110 := eq_true q110
              go_wp2
              go_roundg k1
              case measure => have := HK1.out; omega
              case rel => exact ⟨(wrap64 (x5_1 - 1)), (by first | rfl | (simp; done) | (simp [*]; done)), H', ⟨by have := HK1.out; omega⟩, by repeat (first | exact Drawn0.refl _ | apply Drawn0.step)⟩
          · rw [if_neg c5] at H
            exact absurd H (by simp)
        · rw [if_neg c4] at H
          exact absurd H (by simp)
      · rw [if_neg c3] at H
        have c3b0 : decide (0 ≤ x5_1) = false := decide_eq_false c3
        clear c3
        obtain rfl := Option.some.inj H
        go_wp2
        go_ret
        exact ⟨by first | rfl | (simp; done) | (simp [*]; done), by repeat (first | exact Drawn0.refl _ | apply Drawn0.step)⟩
end Go.Proofs.YtdjkdlbokepoaaaGreatDoor.P
namespace Go.Proofs.YtdjkdlbokepoaaaGreatDoor.P
open Go.RowKit Go.Proofs.YtdjkdlbokepoaaaGreatDoorW.PrintWords Go.Proofs.YtdjkdlbokepoaaaGreatDoorW.PrintLast Go.Proofs.YtdjkdlbokepoaaaGreatDoorW.PrintMore
attribute [local go_sem] max2_int min2_int max_two min_two max_three min_three max_four min_four   -- for this text's walks alone
set_option linter.unusedVariables false
set_option linter.unusedSimpArgs false
def bytes_LastIndexByte.f (k : Nat) (l0 : List Int) (a1 : Int) : Option (Int) := (bytealg_LastIndexByte.f k l0 a1).bind fun t111 => (some t111)
set_option maxHeartbeats 8000000 in
set_option maxRecDepth 100000 in
theorem bytes_LastIndexByte.calls (k : Nat) (A0 : Option Addr) (c0 : Nat) (l0 : List Int) (a1 : Int) (r : Int) (w : World) (hr0 : Kd.C (Kd.int .u8) w A0 l0.length l0) (hc0 : l0.length ≤ c0) (h : bytes_LastIndexByte.f k l0 a1 = some r) :
    Calls Tryz.prog 48 #[.slice A0 l0.length c0, .int .u8 a1] w fun e w' => e = .returned (.int .i64 r) ∧ Drawn0 w w' := by
  have HR0 := ak hr0
  have HC0 := ak hc0
  clear hr0 hc0
  have H : ((bytealg_LastIndexByte.f k l0 a1).bind fun t111 => (some t111)) = some r := h
  clear h
  replace H := Option.bind_eq_some_iff.mp H
  obtain ⟨t111, A30, H⟩ := H
  replace H : (some t111) = some r := H
  have A3 := ak A30
  clear A30
  obtain rfl := Option.some.inj H
  go_enter Tryz.func48, Tryz.ntmps48
  go_wp2_with (first | ((with_reducible refine gate_callee (f := 82) rfl ?_); refine goesL_ (some 7) rfl rfl Tryz.func82 (by kernel_rfl) rfl #[.slice A0 l0.length c0, .int .u8 a1] rfl (by (try simp only [List.map_toArray, List.map_cons, List.map_nil]); first | done | rfl | (simp only [List.length_drop, List.length_take]; rfl)) ?_; (with_reducible refine (bytealg_LastIndexByte.calls k _ _ l0 a1 t111 _ ?side1 ?side2 A3.out).mono ?_); (case side1 => repeat (first | exact HR0.out | (with_reducible refine Kd.C_alloc ?_ _) | (with_reducible refine Kd.C_drewN ?_ _) | (with_reducible refine Kd.C_drew ?_))); (case side2 => exact HC0.out); rintro e w' ⟨rfl, ⟨nd, rfl⟩⟩; refine ⟨_, rfl, ?_⟩))
  go_ret
  exact ⟨by first | rfl | (simp; done) | (simp [*]; done), by repeat (first | exact Drawn0.refl _ | apply Drawn0.step)⟩
def bytes_Count.f (l0 l1 : List Int) : Option Int := if Sc.InB l0 = true ∧ l1 = [10] ∧ l0.length ≤ 1000000 then some (Lib.countByte (Lib.bytesOf l0) 10 : Nat) else none
theorem bytes_Count.calls (A0 : Option Addr) (c0 : Nat) (l0 : List Int) (A1 : Option Addr) (c1 : Nat) (l1 : List Int) (r : Int) (w : World) (hr0 : Kd.C (Kd.int .u8) w A0 l0.length l0) (hc0 : l0.length ≤ c0) (hr1 : Kd.C (Kd.int .u8) w A1 l1.length l1) (hc1 : l1.length ≤ c1) (h : bytes_Count.f l0 l1 = some r) :
    Calls Tryz.prog 49 #[.slice A0 l0.length c0, .slice A1 l1.length c1] w fun e w' => e = .returned (.int .i64 r) ∧ Below w.heap.size w w' := by
  unfold bytes_Count.f at h
  by_cases hs : Sc.InB l0 = true ∧ l1 = [10] ∧ l0.length ≤ 1000000
  · rw [if_pos hs] at h
    obtain rfl := Option.some.inj h
    obtain ⟨hI, rfl, hl⟩ := hs
    exact Ft.count_calls A0 c0 l0 A1 c1 w hr0 hr1
  · rw [if_neg hs] at h; cases h
end Go.Proofs.YtdjkdlbokepoaaaGreatDoor.P
namespace Go.Proofs.YtdjkdlbokepoaaaGreatDoor.P
open Go.RowKit Go.Proofs.YtdjkdlbokepoaaaGreatDoorW.PrintWords Go.Proofs.YtdjkdlbokepoaaaGreatDoorW.PrintLast Go.Proofs.YtdjkdlbokepoaaaGreatDoorW.PrintMore
attribute [local go_sem] max2_int min2_int max_two min_two max_three min_three max_four min_four   -- for this text's walks alone
set_option linter.unusedVariables false
set_option linter.unusedSimpArgs false
def faults_Place.j0 : Nat → List Int → Int → Bool → Option (Int × Int × Int)
  | 0, _, _, _ => none
  | k + 1, x0, x1, x26 => if x26 = true then (some (0, 0, 7)) else ((runes_Back.f k x0 x1).bind fun bt114 => (if bt114.2 = 0 then (if 0 ≤ bt114.1 then (if bt114.1 ≤ (x0.length : Int) then ((bytes_LastIndexByte.f k (x0.take (bt114.1 : Int).toNat) 10).bind fun t117 => (if 0 ≤ (wrap64 (t117 + 1)) then (if (wrap64 (t117 + 1)) ≤ ((x0.take (bt114.1 : Int).toNat).length : Int) then ((runes_Count.f ((x0.take (bt114.1 : Int).toNat).drop ((wrap64 (t117 + 1)) : Int).toNat)).bind fun bt119 => ((bytes_Count.f (x0.take (bt114.1 : Int).toNat) (([10] : List Int))).bind fun t124 => (some (wrap64 (t124 + 1), wrap64 (bt119.1 + 1), bt119.2)))) else (none)) else (none))) else (none)) else (none)) else (some (0, 0, bt114.2))))
def faults_Place.f (k : Nat) (l0 : List Int) (a1 : Int) : Option (Int × Int × Int) := (runes_Check.f l0).bind fun bt112 => (if bt112.2 = 0 then (if a1 < 0 then (faults_Place.j0 k l0 a1 true) else (faults_Place.j0 k l0 a1 (decide (a1 > (l0.length : Int))))) else (some (0, 0, bt112.2)))
set_option maxHeartbeats 8000000 in
set_option maxRecDepth 100000 in
theorem faults_Place.calls (k : Nat) (A0 : Option Addr) (c0 : Nat) (l0 : List Int) (a1 : Int) (r1 : Int) (r2 : Int) (r3 : Int) (w : World) (hr0 : Kd.C (Kd.int .u8) w A0 l0.length l0) (hc0 : l0.length ≤ c0) (h : faults_Place.f k l0 a1 = some (r1, r2, r3)) (HT : Aside0 (Ft.All w)) :
    Calls Tryz.prog 15 #[.slice A0 l0.length c0, .int .i64 a1] w fun e w' => e = .returned (.tuple #[.int .i64 r1, .int .i64 r2, .int .i64 r3]) ∧ Below w.heap.size w w' := by
  have HR0 := ak hr0
  have HC0 := ak hc0
  clear hr0 hc0
  have HB := ak (Below.refl w.heap.size w)
  have H : ((runes_Check.f l0).bind fun bt112 => (if bt112.2 = 0 then (if a1 < 0 then (faults_Place.j0 k l0 a1 true) else (faults_Place.j0 k l0 a1 (decide (a1 > (l0.length : Int))))) else (some (0, 0, bt112.2)))) = some (r1, r2, r3) := h
  clear h
  replace H := Option.bind_eq_some_iff.mp H
  obtain ⟨⟨t112, t113⟩, A30, H⟩ := H
  replace H : (if t113 = 0 then (if a1 < 0 then (faults_Place.j0 k l0 a1 true) else (faults_Place.j0 k l0 a1 (decide (a1 > (l0.length : Int))))) else (some (0, 0, t113))) = some (r1, r2, r3) := H
  have A3 := ak A30
  clear A30
  by_cases c4 : t113 = 0
  · rw [if_pos c4] at H
    have c4b0 : (t113 == 0) = true := beq_iff_eq.mpr c4
    have c4b1 : (t113 != 0) = false := bne_eq_false_iff_eq.mpr c4
    clear c4
    have HC5 := ak H
    clear H
    go_enter Tryz.func15, Tryz.ntmps15
    go_upto_region 4 with (first | ((with_reducible refine gate_callee (f := 45) rfl ?_); refine goesL_ (some 13) rfl rfl Tryz.func45 (by kernel_rfl) rfl #[.slice A0 l0.length c0] rfl (by (try simp only [List.map_toArray, List.map_cons, List.map_nil]); first | done | rfl | (simp only [List.length_drop, List.length_take]; rfl)) ?_; (with_reducible refine (runes_Check.calls _ _ l0 t112 t113 _ ?side1 ?side2 A3.out ⟨Ft.All.stay HT.out (by repeat (first | (with_reducible first | exact HB.out | apply wA | apply wN | apply wD) | exact HB.out | (refine below_set ?_ (by assumption)) | (refine below_set ?_ (Aside0.out (by assumption)))))⟩).mono ?_); (case side1 => repeat (first | exact HR0.out | (with_reducible refine Kd.C_alloc ?_ _) | (with_reducible refine Kd.C_drewN ?_ _) | (with_reducible refine Kd.C_drew ?_))); (case side2 => exact HC0.out); rintro e w6 ⟨rfl, hb⟩; refine ⟨_, rfl, ?_⟩; have n0_ := ak (below_step (by repeat (first | (with_reducible first | exact HB.out | apply wA | apply wN | apply wD) | exact HB.out)) hb); clear HB; have HB := n0_; clear n0_; (try clear hb); (try clear hb2); (try clear hk); (try clear hi)))
    (try simp only [Act.put, List.setIfInBounds_toArray, List.set_cons_zero, List.set_cons_succ])
    go_cut [26] (fun v26 wc => ∃ (kq : Nat) (x26_4 : Bool), v26 = .bool x26_4 ∧ Aside0 (faults_Place.j0 kq l0 a1 x26_4 = some (r1, r2, r3)) ∧ Aside0 (kq ≤ k) ∧ Aside0 (Below w.heap.size w wc))
    case first =>
      have H := HC5.out
      clear HC5
      by_cases c7 : a1 < 0
      · rw [if_pos c7] at H
        have c7b0 : decide (a1 < 0) = true := decide_eq_true c7
        clear c7
        (first | rw [c7b0] | (simp only [i64_w, i32_w]; rw [c7b0]) | skip)
        have H' := ak H
        clear H
        go_wp2
        go_meet
        case rel => exact ⟨_, (true), (by first | rfl | (simp; done) | (simp [*]; done)), H', ⟨by first | omega | exact Nat.le_refl _⟩, ⟨by repeat (first | (with_reducible first | exact HB.out | apply wA | apply wN | apply wD) | exact HB.out)⟩⟩
      · rw [if_neg c7] at H
        have c7b0 : decide (a1 < 0) = false := decide_eq_false c7
        clear c7
        (first | rw [c7b0] | (simp only [i64_w, i32_w]; rw [c7b0]) | skip)
        have H' := ak H
        clear H
        go_wp2
        go_meet
        case rel => exact ⟨_, (decide (a1 > (l0.length : Int))), (by first | rfl | (simp; done) | (simp [*]; done)), H', ⟨by first | omega | exact Nat.le_refl _⟩, ⟨by repeat (first | (with_reducible first | exact HB.out | apply wA | apply wN | apply wD) | exact HB.out)⟩⟩
    case rest =>
      clear HC5
      try clear c1
      try clear p2
      try clear c4
      try clear c4b0
      try clear c4b1
      try clear c7
      try clear c7b0
      obtain ⟨kq, x26_4, rfl, HA, HJ4, HB⟩ := hcut
      cases kq with
      | zero => exact absurd HA.out (by simp [faults_Place.j0])
      | succ kj4 =>
        have H := HA.out
        clear HA
        simp only [faults_Place.j0] at H
        by_cases c8 : x26_4 = true
        · subst c8
          have H1 : (some (0, 0, 7)) = some (r1, r2, r3) := by rw [if_pos rfl] at H; exact H
          clear H
          have H := H1
          clear H1
          simp only [Option.some.injEq, Prod.mk.injEq] at H
          obtain ⟨rfl, rfl, rfl⟩ := H
          go_wp2
          go_ret3
          exact ⟨by first | rfl | (simp [errW_none, errW_some] <;> rfl) | (simp [*, errW_none, errW_some] <;> rfl), by repeat (first | (with_reducible first | exact HB.out | apply wA | apply wN | apply wD) | exact HB.out)⟩
        · replace c8 := Bool.eq_false_iff.mpr c8
          subst c8
          have H1 : ((runes_Back.f kj4 l0 a1).bind fun bt114 => (if bt114.2 = 0 then (if 0 ≤ bt114.1 then (if bt114.1 ≤ (l0.length : Int) then ((bytes_LastIndexByte.f kj4 (l0.take (bt114.1 : Int).toNat) 10).bind fun t117 => (if 0 ≤ (wrap64 (t117 + 1)) then (if (wrap64 (t117 + 1)) ≤ ((l0.take (bt114.1 : Int).toNat).length : Int) then ((runes_Count.f ((l0.take (bt114.1 : Int).toNat).drop ((wrap64 (t117 + 1)) : Int).toNat)).bind fun bt119 => ((bytes_Count.f (l0.take (bt114.1 : Int).toNat) (([10] : List Int))).bind fun t124 => (some (wrap64 (t124 + 1), wrap64 (bt119.1 + 1), bt119.2)))) else (none)) else (none))) else (none)) else (none)) else (some (0, 0, bt114.2)))) = some (r1, r2, r3) := by rw [if_neg (show ¬ (false = true) by decide)] at H; exact H
          clear H
          have H := H1
          clear H1
          replace H := Option.bind_eq_some_iff.mp H
          obtain ⟨⟨t114, t115⟩, A90, H⟩ := H
          replace H : (if t115 = 0 then (if 0 ≤ t114 then (if t114 ≤ (l0.length : Int) then ((bytes_LastIndexByte.f kj4 (l0.take (t114 : Int).toNat) 10).bind fun t117 => (if 0 ≤ (wrap64 (t117 + 1)) then (if (wrap64 (t117 + 1)) ≤ ((l0.take (t114 : Int).toNat).length : Int) then ((runes_Count.f ((l0.take (t114 : Int).toNat).drop ((wrap64 (t117 + 1)) : Int).toNat)).bind fun bt119 => ((bytes_Count.f (l0.take (t114 : Int).toNat) (([10] : List Int))).bind fun t124 => (some (wrap64 (t124 + 1), wrap64 (bt119.1 + 1), bt119.2)))) else (none)) else (none))) else (none)) else (none)) else (some (0, 0, t115))) = some (r1, r2, r3) := H
          have A9 := ak A90
          clear A90
          by_cases c10 : t115 = 0
          · rw [if_pos c10] at H
            have c10b0 : (t115 == 0) = true := beq_iff_eq.mpr c10
            have c10b1 : (t115 != 0) = false := bne_eq_false_iff_eq.mpr c10
            clear c10
            by_cases c11 : 0 ≤ t114
            · rw [if_pos c11] at H
              have c11b0 := eq_true c11
              have c11b1 : decide (0 ≤ t114) = true := decide_eq_true c11
              clear c11
              by_cases c12 : t114 ≤ (l0.length : Int)
              · rw [if_pos c12] at H
                have c12b0 := eq_true c12
                have c12b1 : decide (t114 ≤ (l0.length : Int)) = true := decide_eq_true c12
                clear c12
                replace H := Option.bind_eq_some_iff.mp H
                obtain ⟨t117, A130, H⟩ := H
                replace H : (if 0 ≤ (wrap64 (t117 + 1)) then (if (wrap64 (t117 + 1)) ≤ ((l0.take (t114 : Int).toNat).length : Int) then ((runes_Count.f ((l0.take (t114 : Int).toNat).drop ((wrap64 (t117 + 1)) : Int).toNat)).bind fun bt119 => ((bytes_Count.f (l0.take (t114 : Int).toNat) (([10] : List Int))).bind fun t124 => (some (wrap64 (t124 + 1), wrap64 (bt119.1 + 1), bt119.2)))) else (none)) else (none)) = some (r1, r2, r3) := H
                have A13 := ak A130
                clear A130
                obtain ⟨ji14, hji14⟩ : ∃ j_ : Int, (wrap64 (t117 + 1)) = j_ := ⟨_, rfl⟩
                replace H : (if 0 ≤ (ji14) then (if (ji14) ≤ ((l0.take (t114 : Int).toNat).length : Int) then ((runes_Count.f ((l0.take (t114 : Int).toNat).drop ((ji14) : Int).toNat)).bind fun bt119 => ((bytes_Count.f (l0.take (t114 : Int).toNat) (([10] : List Int))).bind fun t124 => (some (wrap64 (t124 + 1), wrap64 (bt119.1 + 1), bt119.2)))) else (none)) else (none)) = some (r1, r2, r3) := by first | (rw [hji14] at H; exact H) | (simp only [hji14] at H ⊢; exact H)
                (try rw [hji14] at A9)
                (try rw [hji14] at A13)
                have hji14w : (IntKind.i64.wrap (t117 + 1)) = ji14 := (i64_w _).trans hji14
                by_cases c15 : 0 ≤ (ji14)
                · rw [if_pos c15] at H
                  have c15b0 := eq_true c15
                  have c15b1 : decide (0 ≤ (ji14)) = true := decide_eq_true c15
                  clear c15
                  by_cases c16 : (ji14) ≤ ((l0.take (t114 : Int).toNat).length : Int)
                  · rw [if_pos c16] at H
                    have c16b0 := eq_true c16
                    have c16b1 : decide ((ji14) ≤ ((l0.take (t114 : Int).toNat).length : Int)) = true := decide_eq_true c16
                    clear c16
                    replace H := Option.bind_eq_some_iff.mp H
                    obtain ⟨⟨t119, t120⟩, A170, H⟩ := H
                    replace H : ((bytes_Count.f (l0.take (t114 : Int).toNat) (([10] : List Int))).bind fun t124 => (some (wrap64 (t124 + 1), wrap64 (t119 + 1), t120))) = some (r1, r2, r3) := H
                    have A17 := ak A170
                    clear A170
                    obtain ⟨y121, hy121⟩ : ∃ y_ : List Int, y_ = (([10] : List Int)) := ⟨_, rfl⟩
                    replace H : ((bytes_Count.f (l0.take (t114 : Int).toNat) y121).bind fun t124 => (some (wrap64 (t124 + 1), wrap64 (t119 + 1), t120))) = some (r1, r2, r3) := by first | (rw [hy121]; with_reducible exact H) | (have H2_ := (Option.bind_some _ _).symm.trans H; rw [hy121]; with_reducible exact H2_) | (have H2_ := (Option.bind_some _ _).symm.trans H; with_reducible exact H2_) | with_reducible exact H | (rw [hy121]; exact H) | exact H
                    have Ny121 := ak hy121
                    clear hy121
                    replace H := Option.bind_eq_some_iff.mp H
                    obtain ⟨t124, A180, H⟩ := H
                    replace H : (some (wrap64 (t124 + 1), wrap64 (t119 + 1), t120)) = some (r1, r2, r3) := H
                    have A18 := ak A180
                    clear A180
                    simp only [Option.some.injEq, Prod.mk.injEq] at H
                    obtain ⟨rfl, rfl, rfl⟩ := H
                    go_wp2_with (first | ((with_reducible refine gate_callee (f := 46) rfl ?_); refine goesL_ (some 30) rfl rfl Tryz.func46 (by kernel_rfl) rfl #[.slice A0 l0.length c0, .int .i64 a1] rfl (by (try simp only [List.map_toArray, List.map_cons, List.map_nil]); first | done | rfl | (simp only [List.length_drop, List.length_take]; rfl)) ?_; (with_reducible refine (runes_Back.calls kj4 _ _ l0 a1 t114 t115 _ ?side1 ?side2 A9.out ⟨Ft.All.stay HT.out (by repeat (first | (with_reducible first | exact HB.out | apply wA | apply wN | apply wD) | exact HB.out | (refine below_set ?_ (by assumption)) | (refine below_set ?_ (Aside0.out (by assumption)))))⟩).mono ?_); (case side1 => repeat (first | exact (Kd.C_below HR0.out HB.out) | (with_reducible refine Kd.C_alloc ?_ _) | (with_reducible refine Kd.C_drewN ?_ _) | (with_reducible refine Kd.C_drew ?_))); (case side2 => exact HC0.out); rintro e w19 ⟨rfl, hb⟩; refine ⟨_, rfl, ?_⟩; have n0_ := ak (below_step (by repeat (first | (with_reducible first | exact HB.out | apply wA | apply wN | apply wD) | exact HB.out)) hb); clear HB; have HB := n0_; clear n0_; (try clear hb); (try clear hb2); (try clear hk); (try clear hi); obtain ⟨i020, hi020, _, hsz20, _⟩ := info_parts info5; obtain ⟨hcut20, hA20, hC20⟩ := print_take_of (P := Tryz.prog) (Value.int .u8) 0 29 5 .i64 Tryz.underlying29 hi020 hsz20 A0 c0 l0 t114 (of_decide_eq_true (by first | (with_reducible assumption) | assumption)) (of_decide_eq_true (by first | (with_reducible assumption) | assumption)) HC0.out; have HR116 := ak (Kd.C_of_reads (h1 := fun _ => rfl) (hA20 _ (Kd.reads_of_C HR0.out))); have HC116 := ak hC20; clear hA20 hC20 hi020 hsz20) | ((with_reducible refine gate_callee (f := 48) rfl ?_); refine goesL_ (some 42) rfl rfl Tryz.func48 (by kernel_rfl) rfl #[.slice A0 (l0.take (t114 : Int).toNat).length c0, .int .u8 10] rfl (by (try simp only [List.map_toArray, List.map_cons, List.map_nil]); first | done | (rw [show (l0.take (t114 : Int).toNat).length = t114.toNat from (by rw [List.length_take]; have h_ : (t114 : Int) ≤ (l0.length : Int) := of_decide_eq_true (by first | (with_reducible assumption) | assumption); omega)] <;> rfl) | rfl | (simp only [List.length_drop, List.length_take]; rfl)) ?_; (with_reducible refine (bytes_LastIndexByte.calls kj4 _ _ (l0.take (t114 : Int).toNat) 10 t117 _ ?side1 ?side2 A13.out).mono ?_); (case side1 => repeat (first | exact (Kd.C_below HR116.out HB.out) | (with_reducible refine Kd.C_alloc ?_ _) | (with_reducible refine Kd.C_drewN ?_ _) | (with_reducible refine Kd.C_drew ?_))); (case side2 => exact HC116.out); rintro e w' ⟨rfl, ⟨nd, rfl⟩⟩; refine ⟨_, rfl, ?_⟩; obtain ⟨i021, hi021, _, hsz21, _⟩ := info_parts info5; obtain ⟨A21, hcut21, hA21, hC21⟩ := print_drop_of (P := Tryz.prog) (Value.int .u8) 0 29 5 .i64 Tryz.underlying29 hi021 hsz21 A0 c0 (l0.take (t114 : Int).toNat) (ji14) (of_decide_eq_true (by first | (with_reducible assumption) | assumption)) (of_decide_eq_true (by first | (with_reducible assumption) | assumption)) HC116.out; rw [show (l0.take (t114 : Int).toNat).length = t114.toNat from (by rw [List.length_take]; have h_ : (t114 : Int) ≤ (l0.length : Int) := of_decide_eq_true (by first | (with_reducible assumption) | assumption); omega)] at hcut21; have HR118 := ak (Kd.C_of_reads (h1 := fun _ => rfl) (hA21 _ (Kd.reads_of_C HR116.out))); have HC118 := ak hC21; clear hA21 hC21 hi021 hsz21) | ((with_reducible refine gate_callee (f := 47) rfl ?_); refine goesL_ (some 45) rfl rfl Tryz.func47 (by kernel_rfl) rfl #[.slice A21 ((l0.take (t114 : Int).toNat).drop ((ji14) : Int).toNat).length (c0 - (ji14).toNat)] rfl (by (try simp only [List.map_toArray, List.map_cons, List.map_nil]); first | done | (rw [List.length_drop, show (l0.take (t114 : Int).toNat).length = t114.toNat from (by rw [List.length_take]; have h_ : (t114 : Int) ≤ (l0.length : Int) := of_decide_eq_true (by first | (with_reducible assumption) | assumption); omega)] <;> rfl) | (rw [show ((l0.take (t114 : Int).toNat).drop ((ji14) : Int).toNat).length = ((l0.take (t114 : Int).toNat).length - (ji14).toNat) from List.length_drop] <;> rfl) | (simp only [hji14]; rfl) | rfl | (simp only [List.length_drop, List.length_take]; rfl)) ?_; (with_reducible refine (runes_Count.calls _ _ ((l0.take (t114 : Int).toNat).drop ((ji14) : Int).toNat) t119 t120 _ ?side1 ?side2 A17.out ⟨Ft.All.stay HT.out (by repeat (first | (with_reducible first | exact HB.out | apply wA | apply wN | apply wD) | exact HB.out | (refine below_set ?_ (by assumption)) | (refine below_set ?_ (Aside0.out (by assumption)))))⟩).mono ?_); (case side1 => repeat (first | exact (Kd.C_below HR118.out (by repeat (first | (with_reducible first | exact HB.out | apply wA | apply wN | apply wD) | exact HB.out))) | (with_reducible refine Kd.C_alloc ?_ _) | (with_reducible refine Kd.C_drewN ?_ _) | (with_reducible refine Kd.C_drew ?_))); (case side2 => exact HC118.out); rintro e w22 ⟨rfl, hb⟩; refine ⟨_, rfl, ?_⟩; have n0_ := ak (below_step (by repeat (first | (with_reducible first | exact HB.out | apply wA | apply wN | apply wD) | exact HB.out)) hb); clear HB; have HB := n0_; clear n0_; (try clear hb); (try clear hb2); (try clear hk); (try clear hi)) | ((with_reducible refine gate_dst (N := 49) rfl ?_); (try (refine gate_guard (by rfl) ?_; dsimp only)); refine Kd.R_lit (Kd.int .u8) _ 5 ?hg (N := 49) ?hd (xs := ([10] : List Int)) (inner := [.int .u8 10]) (ok := fun _ => True) (okp := fun _ => True) ?hr ?hp (fun _ hk => hk) trivial (Below.refl _ _) (Nat.le_refl _) (by simp) ?_; (case hd => rfl); (case hg => rfl); (case hr => first | (go_simp; done) | (go_simp; rfl)); (case hp => exact (Reps.one (show Kd.M (Kd.int .u8) _ _ _ 10 [.int .u8 10] from rfl) (Reps.none _ _))); intro v122 w23 ho24 hb hg_ hnew_; clear hg_ hnew_; (first | rw [← Ny121.out] at ho24 | (simp only [Int.reduceToNat] at ho24; rw [← Ny121.out] at ho24)); have n0_ := ak (Kd.R_lower ho24 (below_size (by repeat (first | (with_reducible first | exact HB.out | apply wA | apply wN | apply wD) | exact HB.out)))); have n1_ := ak (below_step (by repeat (first | (with_reducible first | exact HB.out | apply wA | apply wN | apply wD) | exact HB.out)) hb); clear HB; have HO123 := n0_; have HB := n1_; clear n0_ n1_; clear hb ho24; obtain ⟨Ao25, co25, eo25⟩ := Kd.R_slice HO123.out; subst eo25) | ((with_reducible refine gate_callee (f := 49) rfl ?_); refine goesL_ (some 50) rfl rfl Tryz.func49 (by kernel_rfl) rfl #[.slice A0 (l0.take (t114 : Int).toNat).length c0, .slice Ao25 y121.length co25] rfl (by (try simp only [List.map_toArray, List.map_cons, List.map_nil]); first | done | (rw [show (l0.take (t114 : Int).toNat).length = t114.toNat from (by rw [List.length_take]; have h_ : (t114 : Int) ≤ (l0.length : Int) := of_decide_eq_true (by first | (with_reducible assumption) | assumption); omega)] <;> rfl) | rfl | (simp only [List.length_drop, List.length_take]; rfl)) ?_; (with_reducible refine (bytes_Count.calls _ _ (l0.take (t114 : Int).toNat) _ _ y121 t124 _ ?side1 ?side2 ?side3 ?side4 A18.out).mono ?_); (case side1 => repeat (first | exact (Kd.C_below HR116.out HB.out) | (with_reducible refine Kd.C_alloc ?_ _) | (with_reducible refine Kd.C_drewN ?_ _) | (with_reducible refine Kd.C_drew ?_))); (case side2 => exact HC116.out); (case side3 => repeat (first | exact (Kd.R_reads' HO123.out).2.2 | (with_reducible refine Kd.C_alloc ?_ _) | (with_reducible refine Kd.C_drewN ?_ _) | (with_reducible refine Kd.C_drew ?_))); (case side4 => exact (Kd.R_reads' HO123.out).2.1); rintro e w26 ⟨rfl, hb⟩; refine ⟨_, rfl, ?_⟩; have n0_ := ak (Kd.R_below (by (with_reducible repeat (first | apply Kd.R_alloc | apply Kd.R_drewN | apply Kd.R_drew)); exact HO123.out) hb); have n1_ := ak (below_step (by repeat (first | (with_reducible first | exact HB.out | apply wA | apply wN | apply wD) | exact HB.out)) hb); clear HO123; clear HB; have HO123 := n0_; have HB := n1_; clear n0_ n1_; (try clear hb); (try clear hb2); (try clear hk); (try clear hi)))
                    go_ret3
                    exact ⟨by first | rfl | (simp [errW_none, errW_some] <;> rfl) | (simp only [← hji14]; first | rfl | (simp [errW_none, errW_some] <;> rfl)) | (simp [*, errW_none, errW_some] <;> rfl), by repeat (first | (with_reducible first | exact HB.out | apply wA | apply wN | apply wD) | exact HB.out)⟩
                  · rw [if_neg c16] at H
                    exact absurd H (by simp)
                · rw [if_neg c15] at H
                  exact absurd H (by simp)
              · rw [if_neg c12] at H
                exact absurd H (by simp)
            · rw [if_neg c11] at H
              exact absurd H (by simp)
          · rw [if_neg c10] at H
            have c10b0 : (t115 == 0) = false := beq_eq_false_iff_ne.mpr c10
            have c10b1 : (t115 != 0) = true := bne_iff_ne.mpr c10
            simp only [Option.some.injEq, Prod.mk.injEq] at H
            obtain ⟨rfl, rfl, rfl⟩ := H
            go_wp2_with (first | ((with_reducible refine gate_callee (f := 46) rfl ?_); refine goesL_ (some 30) rfl rfl Tryz.func46 (by kernel_rfl) rfl #[.slice A0 l0.length c0, .int .i64 a1] rfl (by (try simp only [List.map_toArray, List.map_cons, List.map_nil]); first | done | rfl | (simp only [List.length_drop, List.length_take]; rfl)) ?_; (with_reducible refine (runes_Back.calls kj4 _ _ l0 a1 t114 t115 _ ?side1 ?side2 A9.out ⟨Ft.All.stay HT.out (by repeat (first | (with_reducible first | exact HB.out | apply wA | apply wN | apply wD) | exact HB.out | (refine below_set ?_ (by assumption)) | (refine below_set ?_ (Aside0.out (by assumption)))))⟩).mono ?_); (case side1 => repeat (first | exact (Kd.C_below HR0.out HB.out) | (with_reducible refine Kd.C_alloc ?_ _) | (with_reducible refine Kd.C_drewN ?_ _) | (with_reducible refine Kd.C_drew ?_))); (case side2 => exact HC0.out); rintro e w27 ⟨rfl, hb⟩; refine ⟨_, rfl, ?_⟩; have n0_ := ak (below_step (by repeat (first | (with_reducible first | exact HB.out | apply wA | apply wN | apply wD) | exact HB.out)) hb); clear HB; have HB := n0_; clear n0_; (try clear hb); (try clear hb2); (try clear hk); (try clear hi)))
            go_ret3
            exact ⟨by first | rfl | (simp [errW_none, errW_some] <;> rfl) | (simp [*, errW_none, errW_some] <;> rfl), by repeat (first | (with_reducible first | exact HB.out | apply wA | apply wN | apply wD) | exact HB.out)⟩
  · rw [if_neg c4] at H
    have c4b0 : (t113 == 0) = false := beq_eq_false_iff_ne.mpr c4
    have c4b1 : (t113 != 0) = true := bne_iff_ne.mpr c4
    simp only [Option.some.injEq, Prod.mk.injEq] at H
    obtain ⟨rfl, rfl, rfl⟩ := H
    go_enter Tryz.func15, Tryz.ntmps15
    go_wp2_with (first | ((with_reducible refine gate_callee (f := 45) rfl ?_); refine goesL_ (some 13) rfl rfl Tryz.func45 (by kernel_rfl) rfl #[.slice A0 l0.length c0] rfl (by (try simp only [List.map_toArray, List.map_cons, List.map_nil]); first | done | rfl | (simp only [List.length_drop, List.length_take]; rfl)) ?_; (with_reducible refine (runes_Check.calls _ _ l0 t112 t113 _ ?side1 ?side2 A3.out ⟨Ft.All.stay HT.out (by repeat (first | (with_reducible first | exact HB.out | apply wA | apply wN | apply wD) | exact HB.out | (refine below_set ?_ (by assumption)) | (refine below_set ?_ (Aside0.out (by assumption)))))⟩).mono ?_); (case side1 => repeat (first | exact HR0.out | (with_reducible refine Kd.C_alloc ?_ _) | (with_reducible refine Kd.C_drewN ?_ _) | (with_reducible refine Kd.C_drew ?_))); (case side2 => exact HC0.out); rintro e w28 ⟨rfl, hb⟩; refine ⟨_, rfl, ?_⟩; have n0_ := ak (below_step (by repeat (first | (with_reducible first | exact HB.out | apply wA | apply wN | apply wD) | exact HB.out)) hb); clear HB; have HB := n0_; clear n0_; (try clear hb); (try clear hb2); (try clear hk); (try clear hi)))
    go_ret3
    exact ⟨by first | rfl | (simp [errW_none, errW_some] <;> rfl) | (simp [*, errW_none, errW_some] <;> rfl), by repeat (first | (with_reducible first | exact HB.out | apply wA | apply wN | apply wD) | exact HB.out)⟩
end Go.Proofs.YtdjkdlbokepoaaaGreatDoor.P
namespace Go.Proofs.YtdjkdlbokepoaaaGreatDoor.P
open Go.RowKit Go.Proofs.YtdjkdlbokepoaaaGreatDoorW.PrintWords Go.Proofs.YtdjkdlbokepoaaaGreatDoorW.PrintLast Go.Proofs.YtdjkdlbokepoaaaGreatDoorW.PrintMore
attribute [local go_sem] max2_int min2_int max_two min_two max_three min_three max_four min_four   -- for this text's walks alone
set_option linter.unusedVariables false
set_option linter.unusedSimpArgs false
def strings_ContainsFunc.f (a0 : ByteArray) : Option Bool := some (decide (0 ≤ Lib.idxFunc (fun r => decide (r < 32)) true a0))
theorem strings_ContainsFunc.calls (a0 : ByteArray) (r : Bool) (w : World) (h : strings_ContainsFunc.f a0 = some r) :
    Calls Tryz.prog 75 #[.string a0, .func (.func 76) #[] #[]] w fun e w' => e = .returned (.bool r) ∧ Below w.heap.size w w' := by
  unfold strings_ContainsFunc.f at h
  obtain rfl := Option.some.inj h
  exact Ft.contains_calls a0 w
def faults_plain.f (a0 : ByteArray) : Option (Bool) := (conv9to29.f a0).bind fun t125 => ((runes_Check.f t125).bind fun bt128 => (if bt128.2 = 0 then ((strings_ContainsFunc.f a0).bind fun t130 => (some (!t130))) else (some false)))
set_option maxHeartbeats 8000000 in
set_option maxRecDepth 100000 in
theorem faults_plain.calls (a0 : ByteArray) (r : Bool) (w : World) (h : faults_plain.f a0 = some r) (HT : Aside0 (Ft.All w)) :
    Calls Tryz.prog 43 #[.string a0] w fun e w' => e = .returned (.bool r) ∧ Below w.heap.size w w' := by
  have HB := ak (Below.refl w.heap.size w)
  have H : ((conv9to29.f a0).bind fun t125 => ((runes_Check.f t125).bind fun bt128 => (if bt128.2 = 0 then ((strings_ContainsFunc.f a0).bind fun t130 => (some (!t130))) else (some false)))) = some r := h
  clear h
  replace H := Option.bind_eq_some_iff.mp H
  obtain ⟨t125, A20, H⟩ := H
  replace H : ((runes_Check.f t125).bind fun bt128 => (if bt128.2 = 0 then ((strings_ContainsFunc.f a0).bind fun t130 => (some (!t130))) else (some false))) = some r := H
  have A2 := ak A20
  clear A20
  replace H := Option.bind_eq_some_iff.mp H
  obtain ⟨⟨t128, t129⟩, A30, H⟩ := H
  replace H : (if t129 = 0 then ((strings_ContainsFunc.f a0).bind fun t130 => (some (!t130))) else (some false)) = some r := H
  have A3 := ak A30
  clear A30
  by_cases c4 : t129 = 0
  · rw [if_pos c4] at H
    have c4b0 : (t129 == 0) = true := beq_iff_eq.mpr c4
    have c4b1 : (t129 != 0) = false := bne_eq_false_iff_eq.mpr c4
    clear c4
    replace H := Option.bind_eq_some_iff.mp H
    obtain ⟨t130, A50, H⟩ := H
    replace H : (some (!t130)) = some r := H
    have A5 := ak A50
    clear A50
    obtain rfl := Option.some.inj H
    go_enter Tryz.func43, Tryz.ntmps43
    go_wp2
    refine Ft.upC_ a0 t125 A2.out ?_
    intro v126 w6 ho0 hb
    have n0_ := ak (Ft.Cv_lower ho0 (below_size (by repeat (first | (with_reducible first | exact HB.out | apply wA | apply wN | apply wD) | exact HB.out)))); have n1_ := ak (below_step (by repeat (first | (with_reducible first | exact HB.out | apply wA | apply wN | apply wD) | exact HB.out)) hb); clear HB; have HO127 := n0_; have HB := n1_; clear n0_ n1_; (try clear hb); (try clear hb2); (try clear hk); (try clear hi); (try clear ho0); obtain ⟨Ao7, co7, eo7⟩ := Ft.Cv_slice HO127.out; subst eo7
    go_wp2_with (first | ((with_reducible refine gate_callee (f := 45) rfl ?_); refine goesL_ (some 8) rfl rfl Tryz.func45 (by kernel_rfl) rfl #[.slice Ao7 t125.length co7] rfl (by (try simp only [List.map_toArray, List.map_cons, List.map_nil]); first | done | rfl | (simp only [List.length_drop, List.length_take]; rfl)) ?_; (with_reducible refine (runes_Check.calls _ _ t125 t128 t129 _ ?side1 ?side2 A3.out ⟨Ft.All.stay HT.out (by repeat (first | (with_reducible first | exact HB.out | apply wA | apply wN | apply wD) | exact HB.out | (refine below_set ?_ (by assumption)) | (refine below_set ?_ (Aside0.out (by assumption)))))⟩).mono ?_); (case side1 => repeat (first | exact (Ft.Cv_reads' HO127.out).2.2 | (with_reducible refine Kd.C_alloc ?_ _) | (with_reducible refine Kd.C_drewN ?_ _) | (with_reducible refine Kd.C_drew ?_))); (case side2 => exact (Ft.Cv_reads' HO127.out).2.1); rintro e w8 ⟨rfl, hb⟩; refine ⟨_, rfl, ?_⟩; have n0_ := ak (Ft.Cv_below (by (with_reducible repeat (first | apply Ft.Cv_alloc | apply Ft.Cv_drewN | apply Ft.Cv_drew)); exact HO127.out) hb); have n1_ := ak (below_step (by repeat (first | (with_reducible first | exact HB.out | apply wA | apply wN | apply wD) | exact HB.out)) hb); clear HO127; clear HB; have HO127 := n0_; have HB := n1_; clear n0_ n1_; (try clear hb); (try clear hb2); (try clear hk); (try clear hi)) | (go_at_call 75; (with_reducible refine (strings_ContainsFunc.calls a0 t130 _ A5.out).mono ?_); rintro e w9 ⟨rfl, hb⟩; have n0_ := ak (Ft.Cv_below (by (with_reducible repeat (first | apply Ft.Cv_alloc | apply Ft.Cv_drewN | apply Ft.Cv_drew)); exact HO127.out) hb); have n1_ := ak (below_step (by repeat (first | (with_reducible first | exact HB.out | apply wA | apply wN | apply wD) | exact HB.out)) hb); clear HO127; clear HB; have HO127 := n0_; have HB := n1_; clear n0_ n1_; (try clear hb); (try clear hb2); (try clear hk); (try clear hi)))
    go_ret
    exact ⟨by first | rfl | (simp [errW_none, errW_some] <;> rfl) | (simp [*, errW_none, errW_some] <;> rfl), by repeat (first | (with_reducible first | exact HB.out | apply wA | apply wN | apply wD) | exact HB.out)⟩
  · rw [if_neg c4] at H
    have c4b0 : (t129 == 0) = false := beq_eq_false_iff_ne.mpr c4
    have c4b1 : (t129 != 0) = true := bne_iff_ne.mpr c4
    obtain rfl := Option.some.inj H
    go_enter Tryz.func43, Tryz.ntmps43
    go_wp2
    refine Ft.upC_ a0 t125 A2.out ?_
    intro v126 w10 ho0 hb
    have n0_ := ak (Ft.Cv_lower ho0 (below_size (by repeat (first | (with_reducible first | exact HB.out | apply wA | apply wN | apply wD) | exact HB.out)))); have n1_ := ak (below_step (by repeat (first | (with_reducible first | exact HB.out | apply wA | apply wN | apply wD) | exact HB.out)) hb); clear HB; have HO127 := n0_; have HB := n1_; clear n0_ n1_; (try clear hb); (try clear hb2); (try clear hk); (try clear hi); (try clear ho0); obtain ⟨Ao11, co11, eo11⟩ := Ft.Cv_slice HO127.out; subst eo11
    go_wp2_with (first | ((with_reducible refine gate_callee (f := 45) rfl ?_); refine goesL_ (some 8) rfl rfl Tryz.func45 (by kernel_rfl) rfl #[.slice Ao11 t125.length co11] rfl (by (try simp only [List.map_toArray, List.map_cons, List.map_nil]); first | done | rfl | (simp only [List.length_drop, List.length_take]; rfl)) ?_; (with_reducible refine (runes_Check.calls _ _ t125 t128 t129 _ ?side1 ?side2 A3.out ⟨Ft.All.stay HT.out (by repeat (first | (with_reducible first | exact HB.out | apply wA | apply wN | apply wD) | exact HB.out | (refine below_set ?_ (by assumption)) | (refine below_set ?_ (Aside0.out (by assumption)))))⟩).mono ?_); (case side1 => repeat (first | exact (Ft.Cv_reads' HO127.out).2.2 | (with_reducible refine Kd.C_alloc ?_ _) | (with_reducible refine Kd.C_drewN ?_ _) | (with_reducible refine Kd.C_drew ?_))); (case side2 => exact (Ft.Cv_reads' HO127.out).2.1); rintro e w12 ⟨rfl, hb⟩; refine ⟨_, rfl, ?_⟩; have n0_ := ak (Ft.Cv_below (by (with_reducible repeat (first | apply Ft.Cv_alloc | apply Ft.Cv_drewN | apply Ft.Cv_drew)); exact HO127.out) hb); have n1_ := ak (below_step (by repeat (first | (with_reducible first | exact HB.out | apply wA | apply wN | apply wD) | exact HB.out)) hb); clear HO127; clear HB; have HO127 := n0_; have HB := n1_; clear n0_ n1_; (try clear hb); (try clear hb2); (try clear hk); (try clear hi)))
    go_ret
    exact ⟨by first | rfl | (simp [errW_none, errW_some] <;> rfl) | (simp [*, errW_none, errW_some] <;> rfl), by repeat (first | (with_reducible first | exact HB.out | apply wA | apply wN | apply wD) | exact HB.out)⟩
end Go.Proofs.YtdjkdlbokepoaaaGreatDoor.P
namespace Go.Proofs.YtdjkdlbokepoaaaGreatDoor.P
open Go.RowKit Go.Proofs.YtdjkdlbokepoaaaGreatDoorW.PrintWords Go.Proofs.YtdjkdlbokepoaaaGreatDoorW.PrintLast Go.Proofs.YtdjkdlbokepoaaaGreatDoorW.PrintMore
attribute [local go_sem] max2_int min2_int max_two min_two max_three min_three max_four min_four   -- for this text's walks alone
set_option linter.unusedVariables false
set_option linter.unusedSimpArgs false
mutual
def faults_Check.l0 : Nat → Int → List (S41) → Int → Int → Option (Int × Int)
  | 0, _, _, _, _ => none
  | k + 1, x0, x12, x13, x14 => if x14 < x13 then (if 0 ≤ x14 then (if x14 < (x12.length : Int) then (if ((rd_T41 x12 x14).f0) < 1 then (faults_Check.j1 k x0 x14 x12 x13 x14 true ((rd_T41 x12 x14).f0) ((rd_T41 x12 x14).f1) ((rd_T41 x12 x14).f2.f0) ((rd_T41 x12 x14).f2.f1) ((rd_T41 x12 x14).f3) ((rd_T41 x12 x14).f4)) else (if ((rd_T41 x12 x14).f0) > 999 then (faults_Check.j1 k x0 x14 x12 x13 x14 true ((rd_T41 x12 x14).f0) ((rd_T41 x12 x14).f1) ((rd_T41 x12 x14).f2.f0) ((rd_T41 x12 x14).f2.f1) ((rd_T41 x12 x14).f3) ((rd_T41 x12 x14).f4)) else (if ((rd_T41 x12 x14).f1) < 1 then (faults_Check.j1 k x0 x14 x12 x13 x14 true ((rd_T41 x12 x14).f0) ((rd_T41 x12 x14).f1) ((rd_T41 x12 x14).f2.f0) ((rd_T41 x12 x14).f2.f1) ((rd_T41 x12 x14).f3) ((rd_T41 x12 x14).f4)) else (if ((rd_T41 x12 x14).f1) > 8 then (faults_Check.j1 k x0 x14 x12 x13 x14 true ((rd_T41 x12 x14).f0) ((rd_T41 x12 x14).f1) ((rd_T41 x12 x14).f2.f0) ((rd_T41 x12 x14).f2.f1) ((rd_T41 x12 x14).f3) ((rd_T41 x12 x14).f4)) else (if ((rd_T41 x12 x14).f2.f0) < 0 then (faults_Check.j1 k x0 x14 x12 x13 x14 true ((rd_T41 x12 x14).f0) ((rd_T41 x12 x14).f1) ((rd_T41 x12 x14).f2.f0) ((rd_T41 x12 x14).f2.f1) ((rd_T41 x12 x14).f3) ((rd_T41 x12 x14).f4)) else (if ((rd_T41 x12 x14).f2.f0) > ((rd_T41 x12 x14).f2.f1) then (faults_Check.j1 k x0 x14 x12 x13 x14 true ((rd_T41 x12 x14).f0) ((rd_T41 x12 x14).f1) ((rd_T41 x12 x14).f2.f0) ((rd_T41 x12 x14).f2.f1) ((rd_T41 x12 x14).f3) ((rd_T41 x12 x14).f4)) else (faults_Check.j1 k x0 x14 x12 x13 x14 (decide (((rd_T41 x12 x14).f2.f1) > x0)) ((rd_T41 x12 x14).f0) ((rd_T41 x12 x14).f1) ((rd_T41 x12 x14).f2.f0) ((rd_T41 x12 x14).f2.f1) ((rd_T41 x12 x14).f3) ((rd_T41 x12 x14).f4)))))))) else (none)) else (none)) else (some (0, 0))
def faults_Check.j1 : Nat → Int → Int → List (S41) → Int → Int → Bool → Int → Int → Int → Int → ByteArray → Int → Option (Int × Int)
  | 0, _, _, _, _, _, _, _, _, _, _, _, _ => none
  | k + 1, x0, x6, x12, x13, x14, x21, x133000, x133001, x133002, x133003, x133004, x133005 => if x21 = true then (some (x6, 7)) else (if (x133004.size : Int) > 60 then (some (x6, 3)) else ((faults_plain.f x133004).bind fun t134 => (if t134 = true then (if x133005 < (-1) then (some (x6, 4)) else (if x133005 ≥ x6 then (some (x6, 4)) else (faults_Check.l0 k x0 x12 x13 (wrap64 (x14 + 1))))) else (some (x6, 6)))))
end
def faults_Check.f (k : Nat) (a0 : Int) (l1 : List (S41)) : Option (Int × Int) := if (l1.length : Int) > 50 then (some (0, 3)) else (faults_Check.l0 k a0 l1 (l1.length : Int) 0)
set_option maxHeartbeats 8000000 in
set_option maxRecDepth 100000 in
theorem faults_Check.calls (k : Nat) (a0 : Int) (A1 : Option Addr) (c1 : Nat) (l1 : List (S41)) (r1 : Int) (r2 : Int) (w : World) (hr1 : Kd.C k41 w A1 l1.length l1) (hc1 : l1.length ≤ c1) (h : faults_Check.f k a0 l1 = some (r1, r2)) (HT : Aside0 (Ft.All w)) :
    Calls Tryz.prog 13 #[.int .i64 a0, .slice A1 l1.length c1] w fun e w' => e = .returned (.tuple #[.int .i64 r1, .int .i64 r2]) ∧ Below w.heap.size w w' := by
  have hu41 := Tryz.underlying41
  have hu39 := Tryz.underlying39
  have HR1 := ak hr1
  have HC1 := ak hc1
  clear hr1 hc1
  have HB := ak (Below.refl w.heap.size w)
  have H : (if (l1.length : Int) > 50 then (some (0, 3)) else (faults_Check.l0 k a0 l1 (l1.length : Int) 0)) = some (r1, r2) := h
  clear h
  by_cases c3 : (l1.length : Int) > 50
  · rw [if_pos c3] at H
    have c3b0 : decide (50 < (l1.length : Int)) = true := decide_eq_true c3
    have c3b1 : decide (50 < l1.length) = true := decide_eq_true (by omega)
    clear c3
    simp only [Option.some.injEq, Prod.mk.injEq] at H
    obtain ⟨rfl, rfl⟩ := H
    go_enter Tryz.func13, Tryz.ntmps13
    go_wp2
    go_ret2
    exact ⟨by first | rfl | (simp [errW_none, errW_some] <;> rfl) | (simp [*, errW_none, errW_some] <;> rfl), by repeat (first | (with_reducible first | exact HB.out | apply wA | apply wN | apply wD) | exact HB.out)⟩
  · rw [if_neg c3] at H
    have c3b0 : decide (50 < (l1.length : Int)) = false := decide_eq_false c3
    have c3b1 : decide (50 < l1.length) = false := decide_eq_false (by omega)
    clear c3
    have H' := ak H
    clear H
    go_enter Tryz.func13, Tryz.ntmps13
    go_wp2
    go_loopg [14] k (fun kq v14 w' => ∃ (x14_1 : Int), v14 = .int .i64 x14_1 ∧ Aside0 (faults_Check.l0 kq a0 l1 (l1.length : Int) x14_1 = some (r1, r2)) ∧ Aside0 (kq ≤ k) ∧ Aside0 (Below w.heap.size w w'))
    case atStart => exact ⟨(0), (by first | rfl | (simp; done) | (simp [*]; done)), H', ⟨Nat.le_refl _⟩, ⟨by repeat (first | (with_reducible first | exact HB.out | apply wA | apply wN | apply wD) | exact HB.out)⟩⟩
    case round =>
      clear H'
      try clear c1
      try clear p2
      try clear c3
      try clear c3b0
      try clear c3b1
      obtain ⟨x14_1, rfl, HA, HK1, HB⟩ := hrel
      cases gk with
      | zero => exact absurd HA.out (by simp [faults_Check.l0])
      | succ k1 =>
        have H := HA.out
        clear HA
        simp only [faults_Check.l0] at H
        by_cases c4 : x14_1 < (l1.length : Int)
        · rw [if_pos c4] at H
          have c4b0 : decide (x14_1 < (l1.length : Int)) = true := decide_eq_true c4
          clear c4
          by_cases c5 : 0 ≤ x14_1
          · rw [if_pos c5] at H
            have c5b0 : decide (0 ≤ x14_1) = true := decide_eq_true c5
            clear c5
            by_cases c6 : x14_1 < (l1.length : Int)
            · rw [if_pos c6] at H
              have c6b0 : decide (x14_1 < (l1.length : Int)) = true := decide_eq_true c6
              clear c6
              have HC7 := ak H
              clear H
              have p131 : 0 ≤ (x14_1 : Int) := of_decide_eq_true (by first | (with_reducible assumption) | assumption)
              have q131 : x14_1 < (l1.length : Int) := of_decide_eq_true (by first | (with_reducible assumption) | assumption)
              obtain ⟨ad131, e131, hx131_0, hx131_1, hx131_2, hx131_3, hx131_4, hx131_5⟩ := at_T41 HR1.out x14_1 p131 q131
              cases e131
              replace hx131_0 := (HB.out.cell (World.block_lt_of_cell? w _ hx131_0)).trans hx131_0
              replace hx131_1 := (HB.out.cell (World.block_lt_of_cell? w _ hx131_1)).trans hx131_1
              replace hx131_2 := (HB.out.cell (World.block_lt_of_cell? w _ hx131_2)).trans hx131_2
              replace hx131_3 := (HB.out.cell (World.block_lt_of_cell? w _ hx131_3)).trans hx131_3
              replace hx131_4 := (HB.out.cell (World.block_lt_of_cell? w _ hx131_4)).trans hx131_4
              replace hx131_5 := (HB.out.cell (World.block_lt_of_cell? w _ hx131_5)).trans hx131_5
              replace p131 := eq_true p131
              replace q131 := eq_true q131
              go_upto_region 7 with (first | ((with_reducible refine gate_dst (N := 7) rfl ?_); refine box_event ?hg (N := 7) ?hd (cs := #[.int .i64 0, .int .i64 0, .int .i64 0, .int .i64 0, .string (⟨#[]⟩ : ByteArray), .int .i64 0]) (t := 41) ?hr ?_; (case hd => rfl); (case hg => rfl); (case hr => first | (go_simp; done) | (go_simp; rfl)); intro gb132 hg w8 hbox hb; have n0_ := ak (below_step (by repeat (first | (with_reducible first | exact HB.out | apply wA | apply wN | apply wD) | exact HB.out)) hb); have n1_ := ak (hbox); have n2_ := ak ((by rw [hg]; exact (below_size (by repeat (first | (with_reducible first | exact HB.out | apply wA | apply wN | apply wD) | exact HB.out))) : w.heap.size ≤ gb132)); have n3_ := ak ((by rw [hg]; exact (below_size (by repeat (first | (with_reducible first | exact HB.out | apply wA | apply wN | apply wD) | exact HB.out))) : w.heap.size ≤ gb132)); clear HB; have HB := n0_; have BK132 := n1_; have GW132 := n2_; have GE132 := n3_; clear n0_ n1_ n2_ n3_; clear hb hbox hg; have hcz9_0 : w8.cell? ⟨gb132, 0, none⟩ = some (.int .i64 0) := (blk_cell BK132.out 0).trans rfl; have hcz9_1 : w8.cell? ⟨gb132, 1, none⟩ = some (.int .i64 0) := (blk_cell BK132.out 1).trans rfl; have hcz9_2 : w8.cell? ⟨gb132, 2, none⟩ = some (.int .i64 0) := (blk_cell BK132.out 2).trans rfl; have hcz9_3 : w8.cell? ⟨gb132, 3, none⟩ = some (.int .i64 0) := (blk_cell BK132.out 3).trans rfl; have hcz9_4 : w8.cell? ⟨gb132, 4, none⟩ = some (.string (⟨#[]⟩ : ByteArray)) := (blk_cell BK132.out 4).trans rfl; have hcz9_5 : w8.cell? ⟨gb132, 5, none⟩ = some (.int .i64 0) := (blk_cell BK132.out 5).trans rfl; have hfz9_0 := blk_frozen BK132.out 0; have hfz9_1 := blk_frozen BK132.out 1; have hfz9_2 := blk_frozen BK132.out 2; have hfz9_3 := blk_frozen BK132.out 3; have hfz9_4 := blk_frozen BK132.out 4; have hfz9_5 := blk_frozen BK132.out 5) | ((with_reducible refine gate_dst (N := 8) rfl ?_); refine box_event ?hg (N := 8) ?hd (cs := #[.int .i64 0, .int .i64 0]) (t := 39) ?hr ?_; (case hd => rfl); (case hg => rfl); (case hr => first | (go_simp; done) | (go_simp; rfl)); intro gb133 hg w10 hbox hb; have n0_ := ak (blk_below (g := gb132) (o := .cells #[.int .i64 ((rd_T41 l1 x14_1).f0), .int .i64 ((rd_T41 l1 x14_1).f1), .int .i64 ((rd_T41 l1 x14_1).f2.f0), .int .i64 ((rd_T41 l1 x14_1).f2.f1), .string ((rd_T41 l1 x14_1).f3), .int .i64 ((rd_T41 l1 x14_1).f4)] 41 (0, 0)) (by (with_reducible repeat (first | refine bN ?_ _ | refine bD ?_ | refine bA ?_ _)); refine blk_put (cs := #[.int .i64 ((rd_T41 l1 x14_1).f0), .int .i64 ((rd_T41 l1 x14_1).f1), .int .i64 ((rd_T41 l1 x14_1).f2.f0), .int .i64 ((rd_T41 l1 x14_1).f2.f1), .string ((rd_T41 l1 x14_1).f3), .int .i64 0]) ?_ 5 _ rfl; (with_reducible repeat (first | refine bN ?_ _ | refine bD ?_ | refine bA ?_ _)); refine blk_put (cs := #[.int .i64 ((rd_T41 l1 x14_1).f0), .int .i64 ((rd_T41 l1 x14_1).f1), .int .i64 ((rd_T41 l1 x14_1).f2.f0), .int .i64 ((rd_T41 l1 x14_1).f2.f1), .string (⟨#[]⟩ : ByteArray), .int .i64 0]) ?_ 4 _ rfl; (with_reducible repeat (first | refine bN ?_ _ | refine bD ?_ | refine bA ?_ _)); refine blk_put (cs := #[.int .i64 ((rd_T41 l1 x14_1).f0), .int .i64 ((rd_T41 l1 x14_1).f1), .int .i64 ((rd_T41 l1 x14_1).f2.f0), .int .i64 0, .string (⟨#[]⟩ : ByteArray), .int .i64 0]) ?_ 3 _ rfl; (with_reducible repeat (first | refine bN ?_ _ | refine bD ?_ | refine bA ?_ _)); refine blk_put (cs := #[.int .i64 ((rd_T41 l1 x14_1).f0), .int .i64 ((rd_T41 l1 x14_1).f1), .int .i64 0, .int .i64 0, .string (⟨#[]⟩ : ByteArray), .int .i64 0]) ?_ 2 _ rfl; (with_reducible repeat (first | refine bN ?_ _ | refine bD ?_ | refine bA ?_ _)); refine blk_put (cs := #[.int .i64 ((rd_T41 l1 x14_1).f0), .int .i64 0, .int .i64 0, .int .i64 0, .string (⟨#[]⟩ : ByteArray), .int .i64 0]) ?_ 1 _ rfl; (with_reducible repeat (first | refine bN ?_ _ | refine bD ?_ | refine bA ?_ _)); refine blk_put (cs := #[.int .i64 0, .int .i64 0, .int .i64 0, .int .i64 0, .string (⟨#[]⟩ : ByteArray), .int .i64 0]) ?_ 0 _ rfl; (with_reducible repeat (first | refine bN ?_ _ | refine bD ?_ | refine bA ?_ _)); exact BK132.out) hb); have n1_ := ak (below_step (by repeat (first | (with_reducible first | exact HB.out | apply wA | apply wN | apply wD | refine below_set ?_ GE132.out) | exact HB.out)) hb); have n2_ := ak (hbox); have n3_ := ak ((by rw [hg]; exact (below_size (by repeat (first | (with_reducible first | exact HB.out | apply wA | apply wN | apply wD | refine below_set ?_ GE132.out) | exact HB.out))) : w.heap.size ≤ gb133)); have n4_ := ak ((by rw [hg]; exact (below_size (by repeat (first | (with_reducible first | exact HB.out | apply wA | apply wN | apply wD | refine below_set ?_ GE132.out) | exact HB.out))) : w.heap.size ≤ gb133)); have n5_ := ak ((by rw [hg]; exact Nat.ne_of_lt (blk_lt (g := gb132) (o := .cells #[.int .i64 ((rd_T41 l1 x14_1).f0), .int .i64 ((rd_T41 l1 x14_1).f1), .int .i64 ((rd_T41 l1 x14_1).f2.f0), .int .i64 ((rd_T41 l1 x14_1).f2.f1), .string ((rd_T41 l1 x14_1).f3), .int .i64 ((rd_T41 l1 x14_1).f4)] 41 (0, 0)) (by (with_reducible repeat (first | refine bN ?_ _ | refine bD ?_ | refine bA ?_ _)); refine blk_put (cs := #[.int .i64 ((rd_T41 l1 x14_1).f0), .int .i64 ((rd_T41 l1 x14_1).f1), .int .i64 ((rd_T41 l1 x14_1).f2.f0), .int .i64 ((rd_T41 l1 x14_1).f2.f1), .string ((rd_T41 l1 x14_1).f3), .int .i64 0]) ?_ 5 _ rfl; (with_reducible repeat (first | refine bN ?_ _ | refine bD ?_ | refine bA ?_ _)); refine blk_put (cs := #[.int .i64 ((rd_T41 l1 x14_1).f0), .int .i64 ((rd_T41 l1 x14_1).f1), .int .i64 ((rd_T41 l1 x14_1).f2.f0), .int .i64 ((rd_T41 l1 x14_1).f2.f1), .string (⟨#[]⟩ : ByteArray), .int .i64 0]) ?_ 4 _ rfl; (with_reducible repeat (first | refine bN ?_ _ | refine bD ?_ | refine bA ?_ _)); refine blk_put (cs := #[.int .i64 ((rd_T41 l1 x14_1).f0), .int .i64 ((rd_T41 l1 x14_1).f1), .int .i64 ((rd_T41 l1 x14_1).f2.f0), .int .i64 0, .string (⟨#[]⟩ : ByteArray), .int .i64 0]) ?_ 3 _ rfl; (with_reducible repeat (first | refine bN ?_ _ | refine bD ?_ | refine bA ?_ _)); refine blk_put (cs := #[.int .i64 ((rd_T41 l1 x14_1).f0), .int .i64 ((rd_T41 l1 x14_1).f1), .int .i64 0, .int .i64 0, .string (⟨#[]⟩ : ByteArray), .int .i64 0]) ?_ 2 _ rfl; (with_reducible repeat (first | refine bN ?_ _ | refine bD ?_ | refine bA ?_ _)); refine blk_put (cs := #[.int .i64 ((rd_T41 l1 x14_1).f0), .int .i64 0, .int .i64 0, .int .i64 0, .string (⟨#[]⟩ : ByteArray), .int .i64 0]) ?_ 1 _ rfl; (with_reducible repeat (first | refine bN ?_ _ | refine bD ?_ | refine bA ?_ _)); refine blk_put (cs := #[.int .i64 0, .int .i64 0, .int .i64 0, .int .i64 0, .string (⟨#[]⟩ : ByteArray), .int .i64 0]) ?_ 0 _ rfl; (with_reducible repeat (first | refine bN ?_ _ | refine bD ?_ | refine bA ?_ _)); exact BK132.out)) : gb132 ≠ gb133)); have n6_ := ak ((by rw [hg]; exact Nat.ne_of_gt (blk_lt (g := gb132) (o := .cells #[.int .i64 ((rd_T41 l1 x14_1).f0), .int .i64 ((rd_T41 l1 x14_1).f1), .int .i64 ((rd_T41 l1 x14_1).f2.f0), .int .i64 ((rd_T41 l1 x14_1).f2.f1), .string ((rd_T41 l1 x14_1).f3), .int .i64 ((rd_T41 l1 x14_1).f4)] 41 (0, 0)) (by (with_reducible repeat (first | refine bN ?_ _ | refine bD ?_ | refine bA ?_ _)); refine blk_put (cs := #[.int .i64 ((rd_T41 l1 x14_1).f0), .int .i64 ((rd_T41 l1 x14_1).f1), .int .i64 ((rd_T41 l1 x14_1).f2.f0), .int .i64 ((rd_T41 l1 x14_1).f2.f1), .string ((rd_T41 l1 x14_1).f3), .int .i64 0]) ?_ 5 _ rfl; (with_reducible repeat (first | refine bN ?_ _ | refine bD ?_ | refine bA ?_ _)); refine blk_put (cs := #[.int .i64 ((rd_T41 l1 x14_1).f0), .int .i64 ((rd_T41 l1 x14_1).f1), .int .i64 ((rd_T41 l1 x14_1).f2.f0), .int .i64 ((rd_T41 l1 x14_1).f2.f1), .string (⟨#[]⟩ : ByteArray), .int .i64 0]) ?_ 4 _ rfl; (with_reducible repeat (first | refine bN ?_ _ | refine bD ?_ | refine bA ?_ _)); refine blk_put (cs := #[.int .i64 ((rd_T41 l1 x14_1).f0), .int .i64 ((rd_T41 l1 x14_1).f1), .int .i64 ((rd_T41 l1 x14_1).f2.f0), .int .i64 0, .string (⟨#[]⟩ : ByteArray), .int .i64 0]) ?_ 3 _ rfl; (with_reducible repeat (first | refine bN ?_ _ | refine bD ?_ | refine bA ?_ _)); refine blk_put (cs := #[.int .i64 ((rd_T41 l1 x14_1).f0), .int .i64 ((rd_T41 l1 x14_1).f1), .int .i64 0, .int .i64 0, .string (⟨#[]⟩ : ByteArray), .int .i64 0]) ?_ 2 _ rfl; (with_reducible repeat (first | refine bN ?_ _ | refine bD ?_ | refine bA ?_ _)); refine blk_put (cs := #[.int .i64 ((rd_T41 l1 x14_1).f0), .int .i64 0, .int .i64 0, .int .i64 0, .string (⟨#[]⟩ : ByteArray), .int .i64 0]) ?_ 1 _ rfl; (with_reducible repeat (first | refine bN ?_ _ | refine bD ?_ | refine bA ?_ _)); refine blk_put (cs := #[.int .i64 0, .int .i64 0, .int .i64 0, .int .i64 0, .string (⟨#[]⟩ : ByteArray), .int .i64 0]) ?_ 0 _ rfl; (with_reducible repeat (first | refine bN ?_ _ | refine bD ?_ | refine bA ?_ _)); exact BK132.out)) : gb133 ≠ gb132)); clear BK132; clear HB; have BK132 := n0_; have HB := n1_; have BK133 := n2_; have GW133 := n3_; have GE133 := n4_; have NB132_133 := n5_; have NB133_132 := n6_; clear n0_ n1_ n2_ n3_ n4_ n5_ n6_; clear hb hbox hg; have hnb11 := NB133_132.out; have hnc11 := NB132_133.out; have hcz12_0 : w10.cell? ⟨gb133, 0, none⟩ = some (.int .i64 0) := (blk_cell BK133.out 0).trans rfl; have hcz12_1 : w10.cell? ⟨gb133, 1, none⟩ = some (.int .i64 0) := (blk_cell BK133.out 1).trans rfl; have hfz12_0 := blk_frozen BK133.out 0; have hfz12_1 := blk_frozen BK133.out 1))
              (try simp only [Act.put, List.setIfInBounds_toArray, List.set_cons_zero, List.set_cons_succ])
              go_cut [21] (fun v21 wc => ∃ (kq : Nat) (x21_6 : Bool), v21 = .bool x21_6 ∧ Aside0 (faults_Check.j1 kq a0 x14_1 l1 (l1.length : Int) x14_1 x21_6 ((rd_T41 l1 x14_1).f0) ((rd_T41 l1 x14_1).f1) ((rd_T41 l1 x14_1).f2.f0) ((rd_T41 l1 x14_1).f2.f1) ((rd_T41 l1 x14_1).f3) ((rd_T41 l1 x14_1).f4) = some (r1, r2)) ∧ Aside0 (kq ≤ k1) ∧ Aside0 (wc.heap[gb132]? = some (.cells #[.int .i64 ((rd_T41 l1 x14_1).f0), .int .i64 ((rd_T41 l1 x14_1).f1), .int .i64 ((rd_T41 l1 x14_1).f2.f0), .int .i64 ((rd_T41 l1 x14_1).f2.f1), .string ((rd_T41 l1 x14_1).f3), .int .i64 ((rd_T41 l1 x14_1).f4)] 41 (0, 0))) ∧ Aside0 (wc.heap[gb133]? = some (.cells #[.int .i64 ((rd_T41 l1 x14_1).f2.f0), .int .i64 ((rd_T41 l1 x14_1).f2.f1)] 39 (0, 0))) ∧ Aside0 (Below w.heap.size w wc))
              case first =>
                have H := HC7.out
                clear HC7
                by_cases c13 : ((rd_T41 l1 x14_1).f0) < 1
                · rw [if_pos c13] at H
                  have c13b0 : decide (((rd_T41 l1 x14_1).f0) < 1) = true := decide_eq_true c13
                  clear c13
                  (first | rw [c13b0] | (simp only [i64_w, i32_w]; rw [c13b0]) | skip)
                  have H' := ak H
                  clear H
                  have hnb14 := NB132_133.out
                  have hnc14 := NB133_132.out
                  have hcz15_0 : w10.cell? ⟨gb132, 0, none⟩ = some (.int .i64 ((rd_T41 l1 x14_1).f0)) := (blk_cell BK132.out 0).trans rfl
                  have hcz15_1 : w10.cell? ⟨gb132, 1, none⟩ = some (.int .i64 ((rd_T41 l1 x14_1).f1)) := (blk_cell BK132.out 1).trans rfl
                  have hcz15_2 : w10.cell? ⟨gb132, 2, none⟩ = some (.int .i64 ((rd_T41 l1 x14_1).f2.f0)) := (blk_cell BK132.out 2).trans rfl
                  have hcz15_3 : w10.cell? ⟨gb132, 3, none⟩ = some (.int .i64 ((rd_T41 l1 x14_1).f2.f1)) := (blk_cell BK132.out 3).trans rfl
                  have hcz15_4 : w10.cell? ⟨gb132, 4, none⟩ = some (.string ((rd_T41 l1 x14_1).f3)) := (blk_cell BK132.out 4).trans rfl
                  have hcz15_5 : w10.cell? ⟨gb132, 5, none⟩ = some (.int .i64 ((rd_T41 l1 x14_1).f4)) := (blk_cell BK132.out 5).trans rfl
                  have hfz15_0 := blk_frozen BK132.out 0
                  have hfz15_1 := blk_frozen BK132.out 1
                  have hfz15_2 := blk_frozen BK132.out 2
                  have hfz15_3 := blk_frozen BK132.out 3
                  have hfz15_4 := blk_frozen BK132.out 4
                  have hfz15_5 := blk_frozen BK132.out 5
                  go_wp2
                  go_meet
                  case rel => exact ⟨_, (true), (by first | rfl | (simp; done) | (simp [*]; done)), H', ⟨by have := HK1.out; first | omega | exact Nat.le_refl _⟩, ⟨by (with_reducible repeat (first | refine bN ?_ _ | refine bD ?_ | refine bA ?_ _)); refine blk_far ?_ NB132_133.out _; (with_reducible repeat (first | refine bN ?_ _ | refine bD ?_ | refine bA ?_ _)); refine blk_far ?_ NB132_133.out _; (with_reducible repeat (first | refine bN ?_ _ | refine bD ?_ | refine bA ?_ _)); exact BK132.out⟩, ⟨by (with_reducible repeat (first | refine bN ?_ _ | refine bD ?_ | refine bA ?_ _)); refine blk_put (cs := #[.int .i64 ((rd_T41 l1 x14_1).f2.f0), .int .i64 0]) ?_ 1 _ rfl; (with_reducible repeat (first | refine bN ?_ _ | refine bD ?_ | refine bA ?_ _)); refine blk_put (cs := #[.int .i64 0, .int .i64 0]) ?_ 0 _ rfl; (with_reducible repeat (first | refine bN ?_ _ | refine bD ?_ | refine bA ?_ _)); exact BK133.out⟩, ⟨by repeat (first | (with_reducible first | exact HB.out | apply wA | apply wN | apply wD | refine below_set ?_ GE132.out | refine below_set ?_ GE133.out) | exact HB.out)⟩⟩
                · rw [if_neg c13] at H
                  have c13b0 : decide (((rd_T41 l1 x14_1).f0) < 1) = false := decide_eq_false c13
                  clear c13
                  (first | rw [c13b0] | (simp only [i64_w, i32_w]; rw [c13b0]) | skip)
                  by_cases c16 : ((rd_T41 l1 x14_1).f0) > 999
                  · rw [if_pos c16] at H
                    have c16b0 : decide (999 < ((rd_T41 l1 x14_1).f0)) = true := decide_eq_true c16
                    clear c16
                    have H' := ak H
                    clear H
                    have hnb17 := NB132_133.out
                    have hnc17 := NB133_132.out
                    have hcz18_0 : w10.cell? ⟨gb132, 0, none⟩ = some (.int .i64 ((rd_T41 l1 x14_1).f0)) := (blk_cell BK132.out 0).trans rfl
                    have hcz18_1 : w10.cell? ⟨gb132, 1, none⟩ = some (.int .i64 ((rd_T41 l1 x14_1).f1)) := (blk_cell BK132.out 1).trans rfl
                    have hcz18_2 : w10.cell? ⟨gb132, 2, none⟩ = some (.int .i64 ((rd_T41 l1 x14_1).f2.f0)) := (blk_cell BK132.out 2).trans rfl
                    have hcz18_3 : w10.cell? ⟨gb132, 3, none⟩ = some (.int .i64 ((rd_T41 l1 x14_1).f2.f1)) := (blk_cell BK132.out 3).trans rfl
                    have hcz18_4 : w10.cell? ⟨gb132, 4, none⟩ = some (.string ((rd_T41 l1 x14_1).f3)) := (blk_cell BK132.out 4).trans rfl
                    have hcz18_5 : w10.cell? ⟨gb132, 5, none⟩ = some (.int .i64 ((rd_T41 l1 x14_1).f4)) := (blk_cell BK132.out 5).trans rfl
                    have hfz18_0 := blk_frozen BK132.out 0
                    have hfz18_1 := blk_frozen BK132.out 1
                    have hfz18_2 := blk_frozen BK132.out 2
                    have hfz18_3 := blk_frozen BK132.out 3
                    have hfz18_4 := blk_frozen BK132.out 4
                    have hfz18_5 := blk_frozen BK132.out 5
                    go_wp2
                    go_meet
                    case rel => exact ⟨_, (true), (by first | rfl | (simp; done) | (simp [*]; done)), H', ⟨by have := HK1.out; first | omega | exact Nat.le_refl _⟩, ⟨by (with_reducible repeat (first | refine bN ?_ _ | refine bD ?_ | refine bA ?_ _)); refine blk_far ?_ NB132_133.out _; (with_reducible repeat (first | refine bN ?_ _ | refine bD ?_ | refine bA ?_ _)); refine blk_far ?_ NB132_133.out _; (with_reducible repeat (first | refine bN ?_ _ | refine bD ?_ | refine bA ?_ _)); exact BK132.out⟩, ⟨by (with_reducible repeat (first | refine bN ?_ _ | refine bD ?_ | refine bA ?_ _)); refine blk_put (cs := #[.int .i64 ((rd_T41 l1 x14_1).f2.f0), .int .i64 0]) ?_ 1 _ rfl; (with_reducible repeat (first | refine bN ?_ _ | refine bD ?_ | refine bA ?_ _)); refine blk_put (cs := #[.int .i64 0, .int .i64 0]) ?_ 0 _ rfl; (with_reducible repeat (first | refine bN ?_ _ | refine bD ?_ | refine bA ?_ _)); exact BK133.out⟩, ⟨by repeat (first | (with_reducible first | exact HB.out | apply wA | apply wN | apply wD | refine below_set ?_ GE132.out | refine below_set ?_ GE133.out) | exact HB.out)⟩⟩
                  · rw [if_neg c16] at H
                    have c16b0 : decide (999 < ((rd_T41 l1 x14_1).f0)) = false := decide_eq_false c16
                    clear c16
                    by_cases c19 : ((rd_T41 l1 x14_1).f1) < 1
                    · rw [if_pos c19] at H
                      have c19b0 : decide (((rd_T41 l1 x14_1).f1) < 1) = true := decide_eq_true c19
                      clear c19
                      have H' := ak H
                      clear H
                      have hnb20 := NB132_133.out
                      have hnc20 := NB133_132.out
                      have hcz21_0 : w10.cell? ⟨gb132, 0, none⟩ = some (.int .i64 ((rd_T41 l1 x14_1).f0)) := (blk_cell BK132.out 0).trans rfl
                      have hcz21_1 : w10.cell? ⟨gb132, 1, none⟩ = some (.int .i64 ((rd_T41 l1 x14_1).f1)) := (blk_cell BK132.out 1).trans rfl
                      have hcz21_2 : w10.cell? ⟨gb132, 2, none⟩ = some (.int .i64 ((rd_T41 l1 x14_1).f2.f0)) := (blk_cell BK132.out 2).trans rfl
                      have hcz21_3 : w10.cell? ⟨gb132, 3, none⟩ = some (.int .i64 ((rd_T41 l1 x14_1).f2.f1)) := (blk_cell BK132.out 3).trans rfl
                      have hcz21_4 : w10.cell? ⟨gb132, 4, none⟩ = some (.string ((rd_T41 l1 x14_1).f3)) := (blk_cell BK132.out 4).trans rfl
                      have hcz21_5 : w10.cell? ⟨gb132, 5, none⟩ = some (.int .i64 ((rd_T41 l1 x14_1).f4)) := (blk_cell BK132.out 5).trans rfl
                      have hfz21_0 := blk_frozen BK132.out 0
                      have hfz21_1 := blk_frozen BK132.out 1
                      have hfz21_2 := blk_frozen BK132.out 2
                      have hfz21_3 := blk_frozen BK132.out 3
                      have hfz21_4 := blk_frozen BK132.out 4
                      have hfz21_5 := blk_frozen BK132.out 5
                      go_wp2
                      go_meet
                      case rel => exact ⟨_, (true), (by first | rfl | (simp; done) | (simp [*]; done)), H', ⟨by have := HK1.out; first | omega | exact Nat.le_refl _⟩, ⟨by (with_reducible repeat (first | refine bN ?_ _ | refine bD ?_ | refine bA ?_ _)); refine blk_far ?_ NB132_133.out _; (with_reducible repeat (first | refine bN ?_ _ | refine bD ?_ | refine bA ?_ _)); refine blk_far ?_ NB132_133.out _; (with_reducible repeat (first | refine bN ?_ _ | refine bD ?_ | refine bA ?_ _)); exact BK132.out⟩, ⟨by (with_reducible repeat (first | refine bN ?_ _ | refine bD ?_ | refine bA ?_ _)); refine blk_put (cs := #[.int .i64 ((rd_T41 l1 x14_1).f2.f0), .int .i64 0]) ?_ 1 _ rfl; (with_reducible repeat (first | refine bN ?_ _ | refine bD ?_ | refine bA ?_ _)); refine blk_put (cs := #[.int .i64 0, .int .i64 0]) ?_ 0 _ rfl; (with_reducible repeat (first | refine bN ?_ _ | refine bD ?_ | refine bA ?_ _)); exact BK133.out⟩, ⟨by repeat (first | (with_reducible first | exact HB.out | apply wA | apply wN | apply wD | refine below_set ?_ GE132.out | refine below_set ?_ GE133.out) | exact HB.out)⟩⟩
                    · rw [if_neg c19] at H
                      have c19b0 : decide (((rd_T41 l1 x14_1).f1) < 1) = false := decide_eq_false c19
                      clear c19
                      by_cases c22 : ((rd_T41 l1 x14_1).f1) > 8
                      · rw [if_pos c22] at H
                        have c22b0 : decide (8 < ((rd_T41 l1 x14_1).f1)) = true := decide_eq_true c22
                        clear c22
                        have H' := ak H
                        clear H
                        have hnb23 := NB132_133.out
                        have hnc23 := NB133_132.out
                        have hcz24_0 : w10.cell? ⟨gb132, 0, none⟩ = some (.int .i64 ((rd_T41 l1 x14_1).f0)) := (blk_cell BK132.out 0).trans rfl
                        have hcz24_1 : w10.cell? ⟨gb132, 1, none⟩ = some (.int .i64 ((rd_T41 l1 x14_1).f1)) := (blk_cell BK132.out 1).trans rfl
                        have hcz24_2 : w10.cell? ⟨gb132, 2, none⟩ = some (.int .i64 ((rd_T41 l1 x14_1).f2.f0)) := (blk_cell BK132.out 2).trans rfl
                        have hcz24_3 : w10.cell? ⟨gb132, 3, none⟩ = some (.int .i64 ((rd_T41 l1 x14_1).f2.f1)) := (blk_cell BK132.out 3).trans rfl
                        have hcz24_4 : w10.cell? ⟨gb132, 4, none⟩ = some (.string ((rd_T41 l1 x14_1).f3)) := (blk_cell BK132.out 4).trans rfl
                        have hcz24_5 : w10.cell? ⟨gb132, 5, none⟩ = some (.int .i64 ((rd_T41 l1 x14_1).f4)) := (blk_cell BK132.out 5).trans rfl
                        have hfz24_0 := blk_frozen BK132.out 0
                        have hfz24_1 := blk_frozen BK132.out 1
                        have hfz24_2 := blk_frozen BK132.out 2
                        have hfz24_3 := blk_frozen BK132.out 3
                        have hfz24_4 := blk_frozen BK132.out 4
                        have hfz24_5 := blk_frozen BK132.out 5
                        go_wp2
                        go_meet
                        case rel => exact ⟨_, (true), (by first | rfl | (simp; done) | (simp [*]; done)), H', ⟨by have := HK1.out; first | omega | exact Nat.le_refl _⟩, ⟨by (with_reducible repeat (first | refine bN ?_ _ | refine bD ?_ | refine bA ?_ _)); refine blk_far ?_ NB132_133.out _; (with_reducible repeat (first | refine bN ?_ _ | refine bD ?_ | refine bA ?_ _)); refine blk_far ?_ NB132_133.out _; (with_reducible repeat (first | refine bN ?_ _ | refine bD ?_ | refine bA ?_ _)); exact BK132.out⟩, ⟨by (with_reducible repeat (first | refine bN ?_ _ | refine bD ?_ | refine bA ?_ _)); refine blk_put (cs := #[.int .i64 ((rd_T41 l1 x14_1).f2.f0), .int .i64 0]) ?_ 1 _ rfl; (with_reducible repeat (first | refine bN ?_ _ | refine bD ?_ | refine bA ?_ _)); refine blk_put (cs := #[.int .i64 0, .int .i64 0]) ?_ 0 _ rfl; (with_reducible repeat (first | refine bN ?_ _ | refine bD ?_ | refine bA ?_ _)); exact BK133.out⟩, ⟨by repeat (first | (with_reducible first | exact HB.out | apply wA | apply wN | apply wD | refine below_set ?_ GE132.out | refine below_set ?_ GE133.out) | exact HB.out)⟩⟩
                      · rw [if_neg c22] at H
                        have c22b0 : decide (8 < ((rd_T41 l1 x14_1).f1)) = false := decide_eq_false c22
                        clear c22
                        by_cases c25 : ((rd_T41 l1 x14_1).f2.f0) < 0
                        · rw [if_pos c25] at H
                          have c25b0 : decide (((rd_T41 l1 x14_1).f2.f0) < 0) = true := decide_eq_true c25
                          clear c25
                          have H' := ak H
                          clear H
                          have hnb26 := NB132_133.out
                          have hnc26 := NB133_132.out
                          have hcz27_0 : w10.cell? ⟨gb132, 0, none⟩ = some (.int .i64 ((rd_T41 l1 x14_1).f0)) := (blk_cell BK132.out 0).trans rfl
                          have hcz27_1 : w10.cell? ⟨gb132, 1, none⟩ = some (.int .i64 ((rd_T41 l1 x14_1).f1)) := (blk_cell BK132.out 1).trans rfl
                          have hcz27_2 : w10.cell? ⟨gb132, 2, none⟩ = some (.int .i64 ((rd_T41 l1 x14_1).f2.f0)) := (blk_cell BK132.out 2).trans rfl
                          have hcz27_3 : w10.cell? ⟨gb132, 3, none⟩ = some (.int .i64 ((rd_T41 l1 x14_1).f2.f1)) := (blk_cell BK132.out 3).trans rfl
                          have hcz27_4 : w10.cell? ⟨gb132, 4, none⟩ = some (.string ((rd_T41 l1 x14_1).f3)) := (blk_cell BK132.out 4).trans rfl
                          have hcz27_5 : w10.cell? ⟨gb132, 5, none⟩ = some (.int .i64 ((rd_T41 l1 x14_1).f4)) := (blk_cell BK132.out 5).trans rfl
                          have hfz27_0 := blk_frozen BK132.out 0
                          have hfz27_1 := blk_frozen BK132.out 1
                          have hfz27_2 := blk_frozen BK132.out 2
                          have hfz27_3 := blk_frozen BK132.out 3
                          have hfz27_4 := blk_frozen BK132.out 4
                          have hfz27_5 := blk_frozen BK132.out 5
                          have hcz28_0 : w10.cell? ⟨gb133, 0, none⟩ = some (.int .i64 0) := (blk_cell BK133.out 0).trans rfl
                          have hcz28_1 : w10.cell? ⟨gb133, 1, none⟩ = some (.int .i64 0) := (blk_cell BK133.out 1).trans rfl
                          have hfz28_0 := blk_frozen BK133.out 0
                          have hfz28_1 := blk_frozen BK133.out 1
                          go_wp2
                          go_meet
                          case rel => exact ⟨_, (true), (by first | rfl | (simp; done) | (simp [*]; done)), H', ⟨by have := HK1.out; first | omega | exact Nat.le_refl _⟩, ⟨by (with_reducible repeat (first | refine bN ?_ _ | refine bD ?_ | refine bA ?_ _)); refine blk_far ?_ NB132_133.out _; (with_reducible repeat (first | refine bN ?_ _ | refine bD ?_ | refine bA ?_ _)); refine blk_far ?_ NB132_133.out _; (with_reducible repeat (first | refine bN ?_ _ | refine bD ?_ | refine bA ?_ _)); exact BK132.out⟩, ⟨by (with_reducible repeat (first | refine bN ?_ _ | refine bD ?_ | refine bA ?_ _)); refine blk_put (cs := #[.int .i64 ((rd_T41 l1 x14_1).f2.f0), .int .i64 0]) ?_ 1 _ rfl; (with_reducible repeat (first | refine bN ?_ _ | refine bD ?_ | refine bA ?_ _)); refine blk_put (cs := #[.int .i64 0, .int .i64 0]) ?_ 0 _ rfl; (with_reducible repeat (first | refine bN ?_ _ | refine bD ?_ | refine bA ?_ _)); exact BK133.out⟩, ⟨by repeat (first | (with_reducible first | exact HB.out | apply wA | apply wN | apply wD | refine below_set ?_ GE132.out | refine below_set ?_ GE133.out) | exact HB.out)⟩⟩
                        · rw [if_neg c25] at H
                          have c25b0 : decide (((rd_T41 l1 x14_1).f2.f0) < 0) = false := decide_eq_false c25
                          clear c25
                          by_cases c29 : ((rd_T41 l1 x14_1).f2.f0) > ((rd_T41 l1 x14_1).f2.f1)
                          · rw [if_pos c29] at H
                            have c29b0 : decide (((rd_T41 l1 x14_1).f2.f1) < ((rd_T41 l1 x14_1).f2.f0)) = true := decide_eq_true c29
                            clear c29
                            have H' := ak H
                            clear H
                            have hnb30 := NB132_133.out
                            have hnc30 := NB133_132.out
                            have hcz31_0 : w10.cell? ⟨gb132, 0, none⟩ = some (.int .i64 ((rd_T41 l1 x14_1).f0)) := (blk_cell BK132.out 0).trans rfl
                            have hcz31_1 : w10.cell? ⟨gb132, 1, none⟩ = some (.int .i64 ((rd_T41 l1 x14_1).f1)) := (blk_cell BK132.out 1).trans rfl
                            have hcz31_2 : w10.cell? ⟨gb132, 2, none⟩ = some (.int .i64 ((rd_T41 l1 x14_1).f2.f0)) := (blk_cell BK132.out 2).trans rfl
                            have hcz31_3 : w10.cell? ⟨gb132, 3, none⟩ = some (.int .i64 ((rd_T41 l1 x14_1).f2.f1)) := (blk_cell BK132.out 3).trans rfl
                            have hcz31_4 : w10.cell? ⟨gb132, 4, none⟩ = some (.string ((rd_T41 l1 x14_1).f3)) := (blk_cell BK132.out 4).trans rfl
                            have hcz31_5 : w10.cell? ⟨gb132, 5, none⟩ = some (.int .i64 ((rd_T41 l1 x14_1).f4)) := (blk_cell BK132.out 5).trans rfl
                            have hfz31_0 := blk_frozen BK132.out 0
                            have hfz31_1 := blk_frozen BK132.out 1
                            have hfz31_2 := blk_frozen BK132.out 2
                            have hfz31_3 := blk_frozen BK132.out 3
                            have hfz31_4 := blk_frozen BK132.out 4
                            have hfz31_5 := blk_frozen BK132.out 5
                            have hcz32_0 : w10.cell? ⟨gb133, 0, none⟩ = some (.int .i64 0) := (blk_cell BK133.out 0).trans rfl
                            have hcz32_1 : w10.cell? ⟨gb133, 1, none⟩ = some (.int .i64 0) := (blk_cell BK133.out 1).trans rfl
                            have hfz32_0 := blk_frozen BK133.out 0
                            have hfz32_1 := blk_frozen BK133.out 1
                            go_wp2
                            go_meet
                            case rel => exact ⟨_, (true), (by first | rfl | (simp; done) | (simp [*]; done)), H', ⟨by have := HK1.out; first | omega | exact Nat.le_refl _⟩, ⟨by (with_reducible repeat (first | refine bN ?_ _ | refine bD ?_ | refine bA ?_ _)); refine blk_far ?_ NB132_133.out _; (with_reducible repeat (first | refine bN ?_ _ | refine bD ?_ | refine bA ?_ _)); refine blk_far ?_ NB132_133.out _; (with_reducible repeat (first | refine bN ?_ _ | refine bD ?_ | refine bA ?_ _)); exact BK132.out⟩, ⟨by (with_reducible repeat (first | refine bN ?_ _ | refine bD ?_ | refine bA ?_ _)); refine blk_put (cs := #[.int .i64 ((rd_T41 l1 x14_1).f2.f0), .int .i64 0]) ?_ 1 _ rfl; (with_reducible repeat (first | refine bN ?_ _ | refine bD ?_ | refine bA ?_ _)); refine blk_put (cs := #[.int .i64 0, .int .i64 0]) ?_ 0 _ rfl; (with_reducible repeat (first | refine bN ?_ _ | refine bD ?_ | refine bA ?_ _)); exact BK133.out⟩, ⟨by repeat (first | (with_reducible first | exact HB.out | apply wA | apply wN | apply wD | refine below_set ?_ GE132.out | refine below_set ?_ GE133.out) | exact HB.out)⟩⟩
                          · rw [if_neg c29] at H
                            have c29b0 : decide (((rd_T41 l1 x14_1).f2.f1) < ((rd_T41 l1 x14_1).f2.f0)) = false := decide_eq_false c29
                            clear c29
                            have H' := ak H
                            clear H
                            have hnb33 := NB132_133.out
                            have hnc33 := NB133_132.out
                            have hcz34_0 : w10.cell? ⟨gb132, 0, none⟩ = some (.int .i64 ((rd_T41 l1 x14_1).f0)) := (blk_cell BK132.out 0).trans rfl
                            have hcz34_1 : w10.cell? ⟨gb132, 1, none⟩ = some (.int .i64 ((rd_T41 l1 x14_1).f1)) := (blk_cell BK132.out 1).trans rfl
                            have hcz34_2 : w10.cell? ⟨gb132, 2, none⟩ = some (.int .i64 ((rd_T41 l1 x14_1).f2.f0)) := (blk_cell BK132.out 2).trans rfl
                            have hcz34_3 : w10.cell? ⟨gb132, 3, none⟩ = some (.int .i64 ((rd_T41 l1 x14_1).f2.f1)) := (blk_cell BK132.out 3).trans rfl
                            have hcz34_4 : w10.cell? ⟨gb132, 4, none⟩ = some (.string ((rd_T41 l1 x14_1).f3)) := (blk_cell BK132.out 4).trans rfl
                            have hcz34_5 : w10.cell? ⟨gb132, 5, none⟩ = some (.int .i64 ((rd_T41 l1 x14_1).f4)) := (blk_cell BK132.out 5).trans rfl
                            have hfz34_0 := blk_frozen BK132.out 0
                            have hfz34_1 := blk_frozen BK132.out 1
                            have hfz34_2 := blk_frozen BK132.out 2
                            have hfz34_3 := blk_frozen BK132.out 3
                            have hfz34_4 := blk_frozen BK132.out 4
                            have hfz34_5 := blk_frozen BK132.out 5
                            have hcz35_0 : w10.cell? ⟨gb133, 0, none⟩ = some (.int .i64 0) := (blk_cell BK133.out 0).trans rfl
                            have hcz35_1 : w10.cell? ⟨gb133, 1, none⟩ = some (.int .i64 0) := (blk_cell BK133.out 1).trans rfl
                            have hfz35_0 := blk_frozen BK133.out 0
                            have hfz35_1 := blk_frozen BK133.out 1
                            go_wp2
                            go_meet
                            case rel => exact ⟨_, (decide (((rd_T41 l1 x14_1).f2.f1) > a0)), (by first | rfl | (simp; done) | (simp [*]; done)), H', ⟨by have := HK1.out; first | omega | exact Nat.le_refl _⟩, ⟨by (with_reducible repeat (first | refine bN ?_ _ | refine bD ?_ | refine bA ?_ _)); refine blk_far ?_ NB132_133.out _; (with_reducible repeat (first | refine bN ?_ _ | refine bD ?_ | refine bA ?_ _)); refine blk_far ?_ NB132_133.out _; (with_reducible repeat (first | refine bN ?_ _ | refine bD ?_ | refine bA ?_ _)); exact BK132.out⟩, ⟨by (with_reducible repeat (first | refine bN ?_ _ | refine bD ?_ | refine bA ?_ _)); refine blk_put (cs := #[.int .i64 ((rd_T41 l1 x14_1).f2.f0), .int .i64 0]) ?_ 1 _ rfl; (with_reducible repeat (first | refine bN ?_ _ | refine bD ?_ | refine bA ?_ _)); refine blk_put (cs := #[.int .i64 0, .int .i64 0]) ?_ 0 _ rfl; (with_reducible repeat (first | refine bN ?_ _ | refine bD ?_ | refine bA ?_ _)); exact BK133.out⟩, ⟨by repeat (first | (with_reducible first | exact HB.out | apply wA | apply wN | apply wD | refine below_set ?_ GE132.out | refine below_set ?_ GE133.out) | exact HB.out)⟩⟩
              case rest =>
                clear HC7
                try clear c1
                try clear p1
                try clear q1
                try clear hx1
                try clear c2
                try clear p2
                try clear c3
                try clear c3b0
                try clear c3b1
                try clear c4
                try clear c4b0
                try clear c5
                try clear c5b0
                try clear c6
                try clear c6b0
                try clear c11
                try clear c13
                try clear c13b0
                try clear p13
                try clear q13
                try clear hx13
                try clear c14
                try clear c16
                try clear c16b0
                try clear c17
                try clear c19
                try clear c19b0
                try clear c20
                try clear c22
                try clear c22b0
                try clear c23
                try clear c25
                try clear c25b0
                try clear c26
                try clear c29
                try clear c29b0
                try clear c30
                try clear c33
                try clear hcz12_0
                try clear hcz12_1
                try clear hcz15_0
                try clear hcz15_1
                try clear hcz15_2
                try clear hcz15_3
                try clear hcz15_4
                try clear hcz15_5
                try clear hcz18_0
                try clear hcz18_1
                try clear hcz18_2
                try clear hcz18_3
                try clear hcz18_4
                try clear hcz18_5
                try clear hcz21_0
                try clear hcz21_1
                try clear hcz21_2
                try clear hcz21_3
                try clear hcz21_4
                try clear hcz21_5
                try clear hcz24_0
                try clear hcz24_1
                try clear hcz24_2
                try clear hcz24_3
                try clear hcz24_4
                try clear hcz24_5
                try clear hcz27_0
                try clear hcz27_1
                try clear hcz27_2
                try clear hcz27_3
                try clear hcz27_4
                try clear hcz27_5
                try clear hcz28_0
                try clear hcz28_1
                try clear hcz31_0
                try clear hcz31_1
                try clear hcz31_2
                try clear hcz31_3
                try clear hcz31_4
                try clear hcz31_5
                try clear hcz32_0
                try clear hcz32_1
                try clear hcz34_0
                try clear hcz34_1
                try clear hcz34_2
                try clear hcz34_3
                try clear hcz34_4
                try clear hcz34_5
                try clear hcz35_0
                try clear hcz35_1
                try clear hcz9_0
                try clear hcz9_1
                try clear hcz9_2
                try clear hcz9_3
                try clear hcz9_4
                try clear hcz9_5
                try clear hfz12_0
                try clear hfz12_1
                try clear hfz15_0
                try clear hfz15_1
                try clear hfz15_2
                try clear hfz15_3
                try clear hfz15_4
                try clear hfz15_5
                try clear hfz18_0
                try clear hfz18_1
                try clear hfz18_2
                try clear hfz18_3
                try clear hfz18_4
                try clear hfz18_5
                try clear hfz21_0
                try clear hfz21_1
                try clear hfz21_2
                try clear hfz21_3
                try clear hfz21_4
                try clear hfz21_5
                try clear hfz24_0
                try clear hfz24_1
                try clear hfz24_2
                try clear hfz24_3
                try clear hfz24_4
                try clear hfz24_5
                try clear hfz27_0
                try clear hfz27_1
                try clear hfz27_2
                try clear hfz27_3
                try clear hfz27_4
                try clear hfz27_5
                try clear hfz28_0
                try clear hfz28_1
                try clear hfz31_0
                try clear hfz31_1
                try clear hfz31_2
                try clear hfz31_3
                try clear hfz31_4
                try clear hfz31_5
                try clear hfz32_0
                try clear hfz32_1
                try clear hfz34_0
                try clear hfz34_1
                try clear hfz34_2
                try clear hfz34_3
                try clear hfz34_4
                try clear hfz34_5
                try clear hfz35_0
                try clear hfz35_1
                try clear hfz9_0
                try clear hfz9_1
                try clear hfz9_2
                try clear hfz9_3
                try clear hfz9_4
                try clear hfz9_5
                try clear hx131_0
                try clear hx131_1
                try clear hx131_2
                try clear hx131_3
                try clear hx131_4
                try clear hx131_5
                try clear p131
                try clear p2
                try clear q131
                obtain ⟨kq, x21_6, rfl, HA, HJ6, BK132, BK133, HB⟩ := hcut
                cases kq with
                | zero => exact absurd HA.out (by simp [faults_Check.j1])
                | succ kj6 =>
                  have H := HA.out
                  clear HA
                  simp only [faults_Check.j1] at H
                  by_cases c36 : x21_6 = true
                  · subst c36
                    have H1 : (some (x14_1, 7)) = some (r1, r2) := by rw [if_pos rfl] at H; exact H
                    clear H
                    have H := H1
                    clear H1
                    simp only [Option.some.injEq, Prod.mk.injEq] at H
                    obtain ⟨rfl, rfl⟩ := H
                    go_wp2
                    go_ret2
                    exact ⟨by first | rfl | (simp [errW_none, errW_some] <;> rfl) | (simp [*, errW_none, errW_some] <;> rfl), by repeat (first | (with_reducible first | exact HB.out | apply wA | apply wN | apply wD | refine below_set ?_ GE132.out | refine below_set ?_ GE133.out) | exact HB.out)⟩
                  · replace c36 := Bool.eq_false_iff.mpr c36
                    subst c36
                    have H1 : (if (((rd_T41 l1 x14_1).f3).size : Int) > 60 then (some (x14_1, 3)) else ((faults_plain.f ((rd_T41 l1 x14_1).f3)).bind fun t134 => (if t134 = true then (if ((rd_T41 l1 x14_1).f4) < (-1) then (some (x14_1, 4)) else (if ((rd_T41 l1 x14_1).f4) ≥ x14_1 then (some (x14_1, 4)) else (faults_Check.l0 kj6 a0 l1 (l1.length : Int) (wrap64 (x14_1 + 1))))) else (some (x14_1, 6))))) = some (r1, r2) := by rw [if_neg (show ¬ (false = true) by decide)] at H; exact H
                    clear H
                    have H := H1
                    clear H1
                    by_cases c37 : (((rd_T41 l1 x14_1).f3).size : Int) > 60
                    · rw [if_pos c37] at H
                      have c37b0 : decide (60 < (((rd_T41 l1 x14_1).f3).size : Int)) = true := decide_eq_true c37
                      have c37b1 : decide (60 < ((rd_T41 l1 x14_1).f3).size) = true := decide_eq_true (by omega)
                      clear c37
                      simp only [Option.some.injEq, Prod.mk.injEq] at H
                      obtain ⟨rfl, rfl⟩ := H
                      have hnb38 := NB132_133.out
                      have hnc38 := NB133_132.out
                      have hcz39_0 : wc.cell? ⟨gb132, 0, none⟩ = some (.int .i64 ((rd_T41 l1 x14_1).f0)) := (blk_cell BK132.out 0).trans rfl
                      have hcz39_1 : wc.cell? ⟨gb132, 1, none⟩ = some (.int .i64 ((rd_T41 l1 x14_1).f1)) := (blk_cell BK132.out 1).trans rfl
                      have hcz39_2 : wc.cell? ⟨gb132, 2, none⟩ = some (.int .i64 ((rd_T41 l1 x14_1).f2.f0)) := (blk_cell BK132.out 2).trans rfl
                      have hcz39_3 : wc.cell? ⟨gb132, 3, none⟩ = some (.int .i64 ((rd_T41 l1 x14_1).f2.f1)) := (blk_cell BK132.out 3).trans rfl
                      have hcz39_4 : wc.cell? ⟨gb132, 4, none⟩ = some (.string ((rd_T41 l1 x14_1).f3)) := (blk_cell BK132.out 4).trans rfl
                      have hcz39_5 : wc.cell? ⟨gb132, 5, none⟩ = some (.int .i64 ((rd_T41 l1 x14_1).f4)) := (blk_cell BK132.out 5).trans rfl
                      have hfz39_0 := blk_frozen BK132.out 0
                      have hfz39_1 := blk_frozen BK132.out 1
                      have hfz39_2 := blk_frozen BK132.out 2
                      have hfz39_3 := blk_frozen BK132.out 3
                      have hfz39_4 := blk_frozen BK132.out 4
                      have hfz39_5 := blk_frozen BK132.out 5
                      go_wp2
                      go_ret2
                      exact ⟨by first | rfl | (simp [errW_none, errW_some] <;> rfl) | (simp [*, errW_none, errW_some] <;> rfl), by repeat (first | (with_reducible first | exact HB.out | apply wA | apply wN | apply wD | refine below_set ?_ GE132.out | refine below_set ?_ GE133.out) | exact HB.out)⟩
                    · rw [if_neg c37] at H
                      have c37b0 : decide (60 < (((rd_T41 l1 x14_1).f3).size : Int)) = false := decide_eq_false c37
                      have c37b1 : decide (60 < ((rd_T41 l1 x14_1).f3).size) = false := decide_eq_false (by omega)
                      clear c37
                      replace H := Option.bind_eq_some_iff.mp H
                      obtain ⟨t134, A400, H⟩ := H
                      replace H : (if t134 = true then (if ((rd_T41 l1 x14_1).f4) < (-1) then (some (x14_1, 4)) else (if ((rd_T41 l1 x14_1).f4) ≥ x14_1 then (some (x14_1, 4)) else (faults_Check.l0 kj6 a0 l1 (l1.length : Int) (wrap64 (x14_1 + 1))))) else (some (x14_1, 6))) = some (r1, r2) := H
                      have A40 := ak A400
                      clear A400
                      by_cases c41 : t134 = true
                      · subst c41
                        have H1 : (if ((rd_T41 l1 x14_1).f4) < (-1) then (some (x14_1, 4)) else (if ((rd_T41 l1 x14_1).f4) ≥ x14_1 then (some (x14_1, 4)) else (faults_Check.l0 kj6 a0 l1 (l1.length : Int) (wrap64 (x14_1 + 1))))) = some (r1, r2) := by rw [if_pos rfl] at H; exact H
                        clear H
                        have H := H1
                        clear H1
                        by_cases c42 : ((rd_T41 l1 x14_1).f4) < (-1)
                        · rw [if_pos c42] at H
                          have c42b0 : decide (((rd_T41 l1 x14_1).f4) < (-1)) = true := decide_eq_true c42
                          clear c42
                          simp only [Option.some.injEq, Prod.mk.injEq] at H
                          obtain ⟨rfl, rfl⟩ := H
                          have hnb43 := NB132_133.out
                          have hnc43 := NB133_132.out
                          have hcz44_0 : wc.cell? ⟨gb132, 0, none⟩ = some (.int .i64 ((rd_T41 l1 x14_1).f0)) := (blk_cell BK132.out 0).trans rfl
                          have hcz44_1 : wc.cell? ⟨gb132, 1, none⟩ = some (.int .i64 ((rd_T41 l1 x14_1).f1)) := (blk_cell BK132.out 1).trans rfl
                          have hcz44_2 : wc.cell? ⟨gb132, 2, none⟩ = some (.int .i64 ((rd_T41 l1 x14_1).f2.f0)) := (blk_cell BK132.out 2).trans rfl
                          have hcz44_3 : wc.cell? ⟨gb132, 3, none⟩ = some (.int .i64 ((rd_T41 l1 x14_1).f2.f1)) := (blk_cell BK132.out 3).trans rfl
                          have hcz44_4 : wc.cell? ⟨gb132, 4, none⟩ = some (.string ((rd_T41 l1 x14_1).f3)) := (blk_cell BK132.out 4).trans rfl
                          have hcz44_5 : wc.cell? ⟨gb132, 5, none⟩ = some (.int .i64 ((rd_T41 l1 x14_1).f4)) := (blk_cell BK132.out 5).trans rfl
                          have hfz44_0 := blk_frozen BK132.out 0
                          have hfz44_1 := blk_frozen BK132.out 1
                          have hfz44_2 := blk_frozen BK132.out 2
                          have hfz44_3 := blk_frozen BK132.out 3
                          have hfz44_4 := blk_frozen BK132.out 4
                          have hfz44_5 := blk_frozen BK132.out 5
                          go_wp2_with (first | ((with_reducible refine gate_callee (f := 43) rfl ?_); refine goesL_ (some 68) rfl rfl Tryz.func43 (by kernel_rfl) rfl #[.string ((rd_T41 l1 x14_1).f3)] rfl (by (try simp only [List.map_toArray, List.map_cons, List.map_nil]); first | done | rfl | (simp only [List.length_drop, List.length_take]; rfl)) ?_; (with_reducible refine (faults_plain.calls ((rd_T41 l1 x14_1).f3) true _ A40.out ⟨Ft.All.stay HT.out (by repeat (first | (with_reducible first | exact HB.out | apply wA | apply wN | apply wD) | exact HB.out | (refine below_set ?_ (by assumption)) | (refine below_set ?_ (Aside0.out (by assumption)))))⟩).mono ?_); rintro e w45 ⟨rfl, hb⟩; refine ⟨_, rfl, ?_⟩; have n0_ := ak (blk_below (g := gb132) (o := .cells #[.int .i64 ((rd_T41 l1 x14_1).f0), .int .i64 ((rd_T41 l1 x14_1).f1), .int .i64 ((rd_T41 l1 x14_1).f2.f0), .int .i64 ((rd_T41 l1 x14_1).f2.f1), .string ((rd_T41 l1 x14_1).f3), .int .i64 ((rd_T41 l1 x14_1).f4)] 41 (0, 0)) (by (with_reducible repeat (first | refine bN ?_ _ | refine bD ?_ | refine bA ?_ _)); exact BK132.out) hb); have n1_ := ak (blk_below (g := gb133) (o := .cells #[.int .i64 ((rd_T41 l1 x14_1).f2.f0), .int .i64 ((rd_T41 l1 x14_1).f2.f1)] 39 (0, 0)) (by (with_reducible repeat (first | refine bN ?_ _ | refine bD ?_ | refine bA ?_ _)); exact BK133.out) hb); have n2_ := ak (below_step (by repeat (first | (with_reducible first | exact HB.out | apply wA | apply wN | apply wD | refine below_set ?_ GE132.out | refine below_set ?_ GE133.out) | exact HB.out)) hb); clear BK132; clear BK133; clear HB; have BK132 := n0_; have BK133 := n1_; have HB := n2_; clear n0_ n1_ n2_; (try clear hb); (try clear hb2); (try clear hk); (try clear hi); have hcz46_0 : w45.cell? ⟨gb132, 0, none⟩ = some (.int .i64 ((rd_T41 l1 x14_1).f0)) := (blk_cell BK132.out 0).trans rfl; have hcz46_1 : w45.cell? ⟨gb132, 1, none⟩ = some (.int .i64 ((rd_T41 l1 x14_1).f1)) := (blk_cell BK132.out 1).trans rfl; have hcz46_2 : w45.cell? ⟨gb132, 2, none⟩ = some (.int .i64 ((rd_T41 l1 x14_1).f2.f0)) := (blk_cell BK132.out 2).trans rfl; have hcz46_3 : w45.cell? ⟨gb132, 3, none⟩ = some (.int .i64 ((rd_T41 l1 x14_1).f2.f1)) := (blk_cell BK132.out 3).trans rfl; have hcz46_4 : w45.cell? ⟨gb132, 4, none⟩ = some (.string ((rd_T41 l1 x14_1).f3)) := (blk_cell BK132.out 4).trans rfl; have hcz46_5 : w45.cell? ⟨gb132, 5, none⟩ = some (.int .i64 ((rd_T41 l1 x14_1).f4)) := (blk_cell BK132.out 5).trans rfl; have hfz46_0 := blk_frozen BK132.out 0; have hfz46_1 := blk_frozen BK132.out 1; have hfz46_2 := blk_frozen BK132.out 2; have hfz46_3 := blk_frozen BK132.out 3; have hfz46_4 := blk_frozen BK132.out 4; have hfz46_5 := blk_frozen BK132.out 5))
                          go_ret2
                          exact ⟨by first | rfl | (simp [errW_none, errW_some] <;> rfl) | (simp [*, errW_none, errW_some] <;> rfl), by repeat (first | (with_reducible first | exact HB.out | apply wA | apply wN | apply wD | refine below_set ?_ GE132.out | refine below_set ?_ GE133.out) | exact HB.out)⟩
                        · rw [if_neg c42] at H
                          have c42b0 : decide (((rd_T41 l1 x14_1).f4) < (-1)) = false := decide_eq_false c42
                          clear c42
                          by_cases c47 : ((rd_T41 l1 x14_1).f4) ≥ x14_1
                          · rw [if_pos c47] at H
                            have c47b0 : decide (x14_1 ≤ ((rd_T41 l1 x14_1).f4)) = true := decide_eq_true c47
                            clear c47
                            simp only [Option.some.injEq, Prod.mk.injEq] at H
                            obtain ⟨rfl, rfl⟩ := H
                            have hnb48 := NB132_133.out
                            have hnc48 := NB133_132.out
                            have hcz49_0 : wc.cell? ⟨gb132, 0, none⟩ = some (.int .i64 ((rd_T41 l1 x14_1).f0)) := (blk_cell BK132.out 0).trans rfl
                            have hcz49_1 : wc.cell? ⟨gb132, 1, none⟩ = some (.int .i64 ((rd_T41 l1 x14_1).f1)) := (blk_cell BK132.out 1).trans rfl
                            have hcz49_2 : wc.cell? ⟨gb132, 2, none⟩ = some (.int .i64 ((rd_T41 l1 x14_1).f2.f0)) := (blk_cell BK132.out 2).trans rfl
                            have hcz49_3 : wc.cell? ⟨gb132, 3, none⟩ = some (.int .i64 ((rd_T41 l1 x14_1).f2.f1)) := (blk_cell BK132.out 3).trans rfl
                            have hcz49_4 : wc.cell? ⟨gb132, 4, none⟩ = some (.string ((rd_T41 l1 x14_1).f3)) := (blk_cell BK132.out 4).trans rfl
                            have hcz49_5 : wc.cell? ⟨gb132, 5, none⟩ = some (.int .i64 ((rd_T41 l1 x14_1).f4)) := (blk_cell BK132.out 5).trans rfl
                            have hfz49_0 := blk_frozen BK132.out 0
                            have hfz49_1 := blk_frozen BK132.out 1
                            have hfz49_2 := blk_frozen BK132.out 2
                            have hfz49_3 := blk_frozen BK132.out 3
                            have hfz49_4 := blk_frozen BK132.out 4
                            have hfz49_5 := blk_frozen BK132.out 5
                            go_wp2_with (first | ((with_reducible refine gate_callee (f := 43) rfl ?_); refine goesL_ (some 68) rfl rfl Tryz.func43 (by kernel_rfl) rfl #[.string ((rd_T41 l1 x14_1).f3)] rfl (by (try simp only [List.map_toArray, List.map_cons, List.map_nil]); first | done | rfl | (simp only [List.length_drop, List.length_take]; rfl)) ?_; (with_reducible refine (faults_plain.calls ((rd_T41 l1 x14_1).f3) true _ A40.out ⟨Ft.All.stay HT.out (by repeat (first | (with_reducible first | exact HB.out | apply wA | apply wN | apply wD) | exact HB.out | (refine below_set ?_ (by assumption)) | (refine below_set ?_ (Aside0.out (by assumption)))))⟩).mono ?_); rintro e w50 ⟨rfl, hb⟩; refine ⟨_, rfl, ?_⟩; have n0_ := ak (blk_below (g := gb132) (o := .cells #[.int .i64 ((rd_T41 l1 x14_1).f0), .int .i64 ((rd_T41 l1 x14_1).f1), .int .i64 ((rd_T41 l1 x14_1).f2.f0), .int .i64 ((rd_T41 l1 x14_1).f2.f1), .string ((rd_T41 l1 x14_1).f3), .int .i64 ((rd_T41 l1 x14_1).f4)] 41 (0, 0)) (by (with_reducible repeat (first | refine bN ?_ _ | refine bD ?_ | refine bA ?_ _)); exact BK132.out) hb); have n1_ := ak (blk_below (g := gb133) (o := .cells #[.int .i64 ((rd_T41 l1 x14_1).f2.f0), .int .i64 ((rd_T41 l1 x14_1).f2.f1)] 39 (0, 0)) (by (with_reducible repeat (first | refine bN ?_ _ | refine bD ?_ | refine bA ?_ _)); exact BK133.out) hb); have n2_ := ak (below_step (by repeat (first | (with_reducible first | exact HB.out | apply wA | apply wN | apply wD | refine below_set ?_ GE132.out | refine below_set ?_ GE133.out) | exact HB.out)) hb); clear BK132; clear BK133; clear HB; have BK132 := n0_; have BK133 := n1_; have HB := n2_; clear n0_ n1_ n2_; (try clear hb); (try clear hb2); (try clear hk); (try clear hi); have hcz51_0 : w50.cell? ⟨gb132, 0, none⟩ = some (.int .i64 ((rd_T41 l1 x14_1).f0)) := (blk_cell BK132.out 0).trans rfl; have hcz51_1 : w50.cell? ⟨gb132, 1, none⟩ = some (.int .i64 ((rd_T41 l1 x14_1).f1)) := (blk_cell BK132.out 1).trans rfl; have hcz51_2 : w50.cell? ⟨gb132, 2, none⟩ = some (.int .i64 ((rd_T41 l1 x14_1).f2.f0)) := (blk_cell BK132.out 2).trans rfl; have hcz51_3 : w50.cell? ⟨gb132, 3, none⟩ = some (.int .i64 ((rd_T41 l1 x14_1).f2.f1)) := (blk_cell BK132.out 3).trans rfl; have hcz51_4 : w50.cell? ⟨gb132, 4, none⟩ = some (.string ((rd_T41 l1 x14_1).f3)) := (blk_cell BK132.out 4).trans rfl; have hcz51_5 : w50.cell? ⟨gb132, 5, none⟩ = some (.int .i64 ((rd_T41 l1 x14_1).f4)) := (blk_cell BK132.out 5).trans rfl; have hfz51_0 := blk_frozen BK132.out 0; have hfz51_1 := blk_frozen BK132.out 1; have hfz51_2 := blk_frozen BK132.out 2; have hfz51_3 := blk_frozen BK132.out 3; have hfz51_4 := blk_frozen BK132.out 4; have hfz51_5 := blk_frozen BK132.out 5))
                            go_ret2
                            exact ⟨by first | rfl | (simp [errW_none, errW_some] <;> rfl) | (simp [*, errW_none, errW_some] <;> rfl), by repeat (first | (with_reducible first | exact HB.out | apply wA | apply wN | apply wD | refine below_set ?_ GE132.out | refine below_set ?_ GE133.out) | exact HB.out)⟩
                          · rw [if_neg c47] at H
                            have c47b0 : decide (x14_1 ≤ ((rd_T41 l1 x14_1).f4)) = false := decide_eq_false c47
                            clear c47
                            have H' := ak H
                            clear H
                            have hnb52 := NB132_133.out
                            have hnc52 := NB133_132.out
                            have hcz53_0 : wc.cell? ⟨gb132, 0, none⟩ = some (.int .i64 ((rd_T41 l1 x14_1).f0)) := (blk_cell BK132.out 0).trans rfl
                            have hcz53_1 : wc.cell? ⟨gb132, 1, none⟩ = some (.int .i64 ((rd_T41 l1 x14_1).f1)) := (blk_cell BK132.out 1).trans rfl
                            have hcz53_2 : wc.cell? ⟨gb132, 2, none⟩ = some (.int .i64 ((rd_T41 l1 x14_1).f2.f0)) := (blk_cell BK132.out 2).trans rfl
                            have hcz53_3 : wc.cell? ⟨gb132, 3, none⟩ = some (.int .i64 ((rd_T41 l1 x14_1).f2.f1)) := (blk_cell BK132.out 3).trans rfl
                            have hcz53_4 : wc.cell? ⟨gb132, 4, none⟩ = some (.string ((rd_T41 l1 x14_1).f3)) := (blk_cell BK132.out 4).trans rfl
                            have hcz53_5 : wc.cell? ⟨gb132, 5, none⟩ = some (.int .i64 ((rd_T41 l1 x14_1).f4)) := (blk_cell BK132.out 5).trans rfl
                            have hfz53_0 := blk_frozen BK132.out 0
                            have hfz53_1 := blk_frozen BK132.out 1
                            have hfz53_2 := blk_frozen BK132.out 2
                            have hfz53_3 := blk_frozen BK132.out 3
                            have hfz53_4 := blk_frozen BK132.out 4
                            have hfz53_5 := blk_frozen BK132.out 5
                            go_wp2_with (first | ((with_reducible refine gate_callee (f := 43) rfl ?_); refine goesL_ (some 68) rfl rfl Tryz.func43 (by kernel_rfl) rfl #[.string ((rd_T41 l1 x14_1).f3)] rfl (by (try simp only [List.map_toArray, List.map_cons, List.map_nil]); first | done | rfl | (simp only [List.length_drop, List.length_take]; rfl)) ?_; (with_reducible refine (faults_plain.calls ((rd_T41 l1 x14_1).f3) true _ A40.out ⟨Ft.All.stay HT.out (by repeat (first | (with_reducible first | exact HB.out | apply wA | apply wN | apply wD) | exact HB.out | (refine below_set ?_ (by assumption)) | (refine below_set ?_ (Aside0.out (by assumption)))))⟩).mono ?_); rintro e w54 ⟨rfl, hb⟩; refine ⟨_, rfl, ?_⟩; have n0_ := ak (blk_below (g := gb132) (o := .cells #[.int .i64 ((rd_T41 l1 x14_1).f0), .int .i64 ((rd_T41 l1 x14_1).f1), .int .i64 ((rd_T41 l1 x14_1).f2.f0), .int .i64 ((rd_T41 l1 x14_1).f2.f1), .string ((rd_T41 l1 x14_1).f3), .int .i64 ((rd_T41 l1 x14_1).f4)] 41 (0, 0)) (by (with_reducible repeat (first | refine bN ?_ _ | refine bD ?_ | refine bA ?_ _)); exact BK132.out) hb); have n1_ := ak (blk_below (g := gb133) (o := .cells #[.int .i64 ((rd_T41 l1 x14_1).f2.f0), .int .i64 ((rd_T41 l1 x14_1).f2.f1)] 39 (0, 0)) (by (with_reducible repeat (first | refine bN ?_ _ | refine bD ?_ | refine bA ?_ _)); exact BK133.out) hb); have n2_ := ak (below_step (by repeat (first | (with_reducible first | exact HB.out | apply wA | apply wN | apply wD | refine below_set ?_ GE132.out | refine below_set ?_ GE133.out) | exact HB.out)) hb); clear BK132; clear BK133; clear HB; have BK132 := n0_; have BK133 := n1_; have HB := n2_; clear n0_ n1_ n2_; (try clear hb); (try clear hb2); (try clear hk); (try clear hi); have hcz55_0 : w54.cell? ⟨gb132, 0, none⟩ = some (.int .i64 ((rd_T41 l1 x14_1).f0)) := (blk_cell BK132.out 0).trans rfl; have hcz55_1 : w54.cell? ⟨gb132, 1, none⟩ = some (.int .i64 ((rd_T41 l1 x14_1).f1)) := (blk_cell BK132.out 1).trans rfl; have hcz55_2 : w54.cell? ⟨gb132, 2, none⟩ = some (.int .i64 ((rd_T41 l1 x14_1).f2.f0)) := (blk_cell BK132.out 2).trans rfl; have hcz55_3 : w54.cell? ⟨gb132, 3, none⟩ = some (.int .i64 ((rd_T41 l1 x14_1).f2.f1)) := (blk_cell BK132.out 3).trans rfl; have hcz55_4 : w54.cell? ⟨gb132, 4, none⟩ = some (.string ((rd_T41 l1 x14_1).f3)) := (blk_cell BK132.out 4).trans rfl; have hcz55_5 : w54.cell? ⟨gb132, 5, none⟩ = some (.int .i64 ((rd_T41 l1 x14_1).f4)) := (blk_cell BK132.out 5).trans rfl; have hfz55_0 := blk_frozen BK132.out 0; have hfz55_1 := blk_frozen BK132.out 1; have hfz55_2 := blk_frozen BK132.out 2; have hfz55_3 := blk_frozen BK132.out 3; have hfz55_4 := blk_frozen BK132.out 4; have hfz55_5 := blk_frozen BK132.out 5))
                            go_roundg kj6
                            case measure => have := HK1.out; have := HJ6.out; omega
                            case rel => exact ⟨(wrap64 (x14_1 + 1)), (by first | rfl | (simp; done) | (simp [*]; done)), H', ⟨by have := HK1.out; have := HJ6.out; omega⟩, ⟨by repeat (first | (with_reducible first | exact HB.out | apply wA | apply wN | apply wD | refine below_set ?_ GE132.out | refine below_set ?_ GE133.out) | exact HB.out)⟩⟩
                      · replace c41 := Bool.eq_false_iff.mpr c41
                        subst c41
                        have H1 : (some (x14_1, 6)) = some (r1, r2) := by rw [if_neg (show ¬ (false = true) by decide)] at H; exact H
                        clear H
                        have H := H1
                        clear H1
                        simp only [Option.some.injEq, Prod.mk.injEq] at H
                        obtain ⟨rfl, rfl⟩ := H
                        have hnb56 := NB132_133.out
                        have hnc56 := NB133_132.out
                        have hcz57_0 : wc.cell? ⟨gb132, 0, none⟩ = some (.int .i64 ((rd_T41 l1 x14_1).f0)) := (blk_cell BK132.out 0).trans rfl
                        have hcz57_1 : wc.cell? ⟨gb132, 1, none⟩ = some (.int .i64 ((rd_T41 l1 x14_1).f1)) := (blk_cell BK132.out 1).trans rfl
                        have hcz57_2 : wc.cell? ⟨gb132, 2, none⟩ = some (.int .i64 ((rd_T41 l1 x14_1).f2.f0)) := (blk_cell BK132.out 2).trans rfl
                        have hcz57_3 : wc.cell? ⟨gb132, 3, none⟩ = some (.int .i64 ((rd_T41 l1 x14_1).f2.f1)) := (blk_cell BK132.out 3).trans rfl
                        have hcz57_4 : wc.cell? ⟨gb132, 4, none⟩ = some (.string ((rd_T41 l1 x14_1).f3)) := (blk_cell BK132.out 4).trans rfl
                        have hcz57_5 : wc.cell? ⟨gb132, 5, none⟩ = some (.int .i64 ((rd_T41 l1 x14_1).f4)) := (blk_cell BK132.out 5).trans rfl
                        have hfz57_0 := blk_frozen BK132.out 0
                        have hfz57_1 := blk_frozen BK132.out 1
                        have hfz57_2 := blk_frozen BK132.out 2
                        have hfz57_3 := blk_frozen BK132.out 3
                        have hfz57_4 := blk_frozen BK132.out 4
                        have hfz57_5 := blk_frozen BK132.out 5
                        go_wp2_with (first | ((with_reducible refine gate_callee (f := 43) rfl ?_); refine goesL_ (some 68) rfl rfl Tryz.func43 (by kernel_rfl) rfl #[.string ((rd_T41 l1 x14_1).f3)] rfl (by (try simp only [List.map_toArray, List.map_cons, List.map_nil]); first | done | rfl | (simp only [List.length_drop, List.length_take]; rfl)) ?_; (with_reducible refine (faults_plain.calls ((rd_T41 l1 x14_1).f3) false _ A40.out ⟨Ft.All.stay HT.out (by repeat (first | (with_reducible first | exact HB.out | apply wA | apply wN | apply wD) | exact HB.out | (refine below_set ?_ (by assumption)) | (refine below_set ?_ (Aside0.out (by assumption)))))⟩).mono ?_); rintro e w58 ⟨rfl, hb⟩; refine ⟨_, rfl, ?_⟩; have n0_ := ak (blk_below (g := gb132) (o := .cells #[.int .i64 ((rd_T41 l1 x14_1).f0), .int .i64 ((rd_T41 l1 x14_1).f1), .int .i64 ((rd_T41 l1 x14_1).f2.f0), .int .i64 ((rd_T41 l1 x14_1).f2.f1), .string ((rd_T41 l1 x14_1).f3), .int .i64 ((rd_T41 l1 x14_1).f4)] 41 (0, 0)) (by (with_reducible repeat (first | refine bN ?_ _ | refine bD ?_ | refine bA ?_ _)); exact BK132.out) hb); have n1_ := ak (blk_below (g := gb133) (o := .cells #[.int .i64 ((rd_T41 l1 x14_1).f2.f0), .int .i64 ((rd_T41 l1 x14_1).f2.f1)] 39 (0, 0)) (by (with_reducible repeat (first | refine bN ?_ _ | refine bD ?_ | refine bA ?_ _)); exact BK133.out) hb); have n2_ := ak (below_step (by repeat (first | (with_reducible first | exact HB.out | apply wA | apply wN | apply wD | refine below_set ?_ GE132.out | refine below_set ?_ GE133.out) | exact HB.out)) hb); clear BK132; clear BK133; clear HB; have BK132 := n0_; have BK133 := n1_; have HB := n2_; clear n0_ n1_ n2_; (try clear hb); (try clear hb2); (try clear hk); (try clear hi)))
                        go_ret2
                        exact ⟨by first | rfl | (simp [errW_none, errW_some] <;> rfl) | (simp [*, errW_none, errW_some] <;> rfl), by repeat (first | (with_reducible first | exact HB.out | apply wA | apply wN | apply wD | refine below_set ?_ GE132.out | refine below_set ?_ GE133.out) | exact HB.out)⟩
            · rw [if_neg c6] at H
              exact absurd H (by simp)
          · rw [if_neg c5] at H
            exact absurd H (by simp)
        · rw [if_neg c4] at H
          have c4b0 : decide (x14_1 < (l1.length : Int)) = false := decide_eq_false c4
          clear c4
          simp only [Option.some.injEq, Prod.mk.injEq] at H
          obtain ⟨rfl, rfl⟩ := H
          go_wp2
          go_ret2
          exact ⟨by first | rfl | (simp [errW_none, errW_some] <;> rfl) | (simp [*, errW_none, errW_some] <;> rfl), by repeat (first | (with_reducible first | exact HB.out | apply wA | apply wN | apply wD) | exact HB.out)⟩
end Go.Proofs.YtdjkdlbokepoaaaGreatDoor.P
namespace Go.Proofs.YtdjkdlbokepoaaaGreatDoor.P
open Go.RowKit Go.Proofs.YtdjkdlbokepoaaaGreatDoorW.PrintWords Go.Proofs.YtdjkdlbokepoaaaGreatDoorW.PrintLast Go.Proofs.YtdjkdlbokepoaaaGreatDoorW.PrintMore
attribute [local go_sem] max2_int min2_int max_two min_two max_three min_three max_four min_four   -- for this text's walks alone
set_option linter.unusedVariables false
set_option linter.unusedSimpArgs false
def strconv_Itoa_54.f (a0 : Int) : Option ByteArray := if 0 ≤ a0 ∧ a0 ≤ 1000000000 then some ⟨(Lib.itoa a0).toArray⟩ else none
theorem strconv_Itoa_54.calls (a0 : Int) (r : ByteArray) (w : World) (h : strconv_Itoa_54.f a0 = some r) (HT : Aside0 (Ft.All w)) :
    Calls Tryz.prog 54 #[.int .i64 a0] w fun e w' => e = .returned (.string r) ∧ Below w.heap.size w w' := by
  unfold strconv_Itoa_54.f at h
  by_cases hs : 0 ≤ a0 ∧ a0 ≤ 1000000000
  · rw [if_pos hs] at h
    obtain rfl := Option.some.inj h
    exact Ft.itoa_calls a0 hs.1 hs.2 w HT.out.pow
  · rw [if_neg hs] at h; cases h
def errPre : ByteArray := ⟨#[101, 114, 114, 111, 114, 32]⟩
def faults_Word.f (a0 : Int) : Option (ByteArray × Int) := if a0 < 1 ∨ 999 < a0 then some (⟨#[]⟩, 2) else (if a0 < 22 then (Ft.codesL[a0.toNat]?).map (fun s => (s, 0)) else (strconv_Itoa_54.f a0).bind (fun s => if s.size ≤ 1000 then some (errPre ++ s, 0) else none))
set_option maxHeartbeats 1000000 in
set_option maxRecDepth 100000 in
theorem faults_Word.calls (a0 : Int) (r1 : ByteArray) (r2 : Int) (w : World) (h : faults_Word.f a0 = some (r1, r2)) (HT : Aside0 (Ft.All w)) :
    Calls Tryz.prog 17 #[.int .i64 a0] w fun e w' => e = .returned (.tuple #[.string r1, .int .i64 r2]) ∧ Below w.heap.size w w' := by
  unfold faults_Word.f at h
  by_cases h1 : a0 < 1
  · rw [if_pos (.inl h1)] at h
    cases h
    have b1 : decide (a0 < 1) = true := decide_eq_true h1
    go_enter Tryz.func17, Tryz.ntmps17
    go_wp2
    go_ret2
    exact ⟨rfl, Below.refl _ _⟩
  have b1 : decide (a0 < 1) = false := decide_eq_false h1
  by_cases h2 : 999 < a0
  · rw [if_pos (.inr h2)] at h
    cases h
    have b2 : decide (999 < a0) = true := decide_eq_true h2
    go_enter Tryz.func17, Tryz.ntmps17
    go_wp2
    go_ret2
    exact ⟨rfl, Below.refl _ _⟩
  rw [if_neg (by omega)] at h
  have b2 : decide (999 < a0) = false := decide_eq_false h2
  by_cases h3 : a0 < 22
  · rw [if_pos h3] at h
    obtain ⟨s, hs, he⟩ := Option.map_eq_some_iff.1 h
    cases he
    have b3 : decide (a0 < 22) = true := decide_eq_true h3
    have hc := HT.out.codes _ _ hs
    have g0 : (0 : Int) ≤ a0 := by omega
    go_enter Tryz.func17, Tryz.ntmps17
    go_wp2
    go_ret2
    exact ⟨rfl, Below.refl _ _⟩
  · rw [if_neg h3] at h
    obtain ⟨s, hs, h⟩ := Option.bind_eq_some_iff.1 h
    by_cases hz : s.size ≤ 1000
    case neg => rw [if_neg hz] at h; cases h
    rw [if_pos hz] at h
    cases h
    have b3 : decide (a0 < 22) = false := decide_eq_false h3
    have HS := ak hs
    have b4 : ¬ 9223372036854775807 < s.size + 6 := by omega
    have b5 : ¬ 9223372036854775807 < 6 + s.size := by omega
    clear hs
    go_enter Tryz.func17, Tryz.ntmps17
    go_wp2_with (go_at_call 54; refine ( strconv_Itoa_54.calls a0 s w HS.out HT).mono ?_; rintro e w1 ⟨rfl, hb⟩)
    go_ret2
    exact ⟨rfl, hb⟩
def faults_Pass.f (a0 : Int) : Option (ByteArray × Int) := if a0 < 1 ∨ 9 ≤ a0 then some (⟨#[]⟩, 2) else (Ft.passesL[a0.toNat]?).map (fun s => (s, 0))
set_option maxHeartbeats 1000000 in
set_option maxRecDepth 100000 in
theorem faults_Pass.calls (a0 : Int) (r1 : ByteArray) (r2 : Int) (w : World) (h : faults_Pass.f a0 = some (r1, r2)) (HT : Aside0 (Ft.All w)) :
    Calls Tryz.prog 19 #[.int .i64 a0] w fun e w' => e = .returned (.tuple #[.string r1, .int .i64 r2]) ∧ Below w.heap.size w w' := by
  unfold faults_Pass.f at h
  by_cases h1 : a0 < 1
  · rw [if_pos (.inl h1)] at h
    cases h
    have b1 : decide (a0 < 1) = true := decide_eq_true h1
    go_enter Tryz.func19, Tryz.ntmps19
    go_wp2
    go_ret2
    exact ⟨rfl, Below.refl _ _⟩
  have b1 : decide (a0 < 1) = false := decide_eq_false h1
  by_cases h2 : 9 ≤ a0
  · rw [if_pos (.inr h2)] at h
    cases h
    have b2 : decide (9 ≤ a0) = true := decide_eq_true h2
    go_enter Tryz.func19, Tryz.ntmps19
    go_wp2
    go_ret2
    exact ⟨rfl, Below.refl _ _⟩
  rw [if_neg (by omega)] at h
  have b2 : decide (9 ≤ a0) = false := decide_eq_false h2
  obtain ⟨s, hs, he⟩ := Option.map_eq_some_iff.1 h
  cases he
  have hc := HT.out.passes _ _ hs
  have g0 : (0 : Int) ≤ a0 := by omega
  go_enter Tryz.func19, Tryz.ntmps19
  go_wp2
  go_ret2
  exact ⟨rfl, Below.refl _ _⟩
end Go.Proofs.YtdjkdlbokepoaaaGreatDoor.P
namespace Go.Proofs.YtdjkdlbokepoaaaGreatDoor.P
open Go.RowKit Go.Proofs.YtdjkdlbokepoaaaGreatDoorW.PrintWords Go.Proofs.YtdjkdlbokepoaaaGreatDoorW.PrintLast Go.Proofs.YtdjkdlbokepoaaaGreatDoorW.PrintMore
attribute [local go_sem] max2_int min2_int max_two min_two max_three min_three max_four min_four   -- for this text's walks alone
set_option linter.unusedVariables false
set_option linter.unusedSimpArgs false
def mummerref04_Ints.l0 : Nat → List Int → List Int → Int → Option (Bool)
  | 0, _, _, _ => none
  | k + 1, x0, x1, x5 => if x5 < (x0.length : Int) then (if 0 ≤ x5 then (if x5 < (x1.length : Int) then (if (rd x0 x5) = (rd x1 x5) then (mummerref04_Ints.l0 k x0 x1 (wrap64 (x5 + 1))) else (some false)) else (none)) else (none)) else (some true)
def mummerref04_Ints.f (k : Nat) (l0 : List Int) (l1 : List Int) : Option (Bool) := if (l0.length : Int) = (l1.length : Int) then (mummerref04_Ints.l0 k l0 l1 0) else (some false)
set_option maxHeartbeats 8000000 in
set_option maxRecDepth 100000 in
theorem mummerref04_Ints.calls (k : Nat) (A0 : Option Addr) (c0 : Nat) (l0 : List Int) (A1 : Option Addr) (c1 : Nat) (l1 : List Int) (r : Bool) (w : World) (hr0 : Kd.C (Kd.int .i64) w A0 l0.length l0) (hc0 : l0.length ≤ c0) (hr1 : Kd.C (Kd.int .i64) w A1 l1.length l1) (hc1 : l1.length ≤ c1) (h : mummerref04_Ints.f k l0 l1 = some r) :
    Calls Tryz.prog 34 #[.slice A0 l0.length c0, .slice A1 l1.length c1] w fun e w' => e = .returned (.bool r) ∧ Drawn0 w w' := by
  have HR0 := ak hr0
  have HC0 := ak hc0
  clear hr0 hc0
  have HR1 := ak hr1
  have HC1 := ak hc1
  clear hr1 hc1
  have H : (if (l0.length : Int) = (l1.length : Int) then (mummerref04_Ints.l0 k l0 l1 0) else (some false)) = some r := h
  clear h
  by_cases c3 : (l0.length : Int) = (l1.length : Int)
  · rw [if_pos c3] at H
    have c3b0 : ((l0.length : Int) == (l1.length : Int)) = true := beq_iff_eq.mpr c3
    have c3b1 : ((l0.length : Int) != (l1.length : Int)) = false := bne_eq_false_iff_eq.mpr c3
    have c3b2 : (l0.length == l1.length) = true := by first | simpa using c3 | (simp at c3 ⊢; omega)
    clear c3
    have H' := ak H
    clear H
    go_enter Tryz.func34, Tryz.ntmps34
    go_wp2
    repeat (go_quiet (fail); try go_wp2)
    go_loopg [5] k (fun kq v5 w' => ∃ (x5_1 : Int), v5 = .int .i64 x5_1 ∧ Aside0 (mummerref04_Ints.l0 kq l0 l1 x5_1 = some r) ∧ Aside0 (kq ≤ k) ∧ Drawn0 w w')
    case atStart => exact ⟨(0), (by first | rfl | (simp; done) | (simp [*]; done)), H', ⟨Nat.le_refl _⟩, by repeat (first | exact Drawn0.refl _ | apply Drawn0.step)⟩
    case round =>
      clear H'
      try clear c1
      try clear p2
      try clear c3
      try clear c3b0
      try clear c3b1
      try clear c3b2
      obtain ⟨x5_1, rfl, HA, HK1, ⟨m1, rfl⟩⟩ := hrel
      cases gk with
      | zero => exact absurd HA.out (by simp [mummerref04_Ints.l0])
      | succ k1 =>
        have H := HA.out
        clear HA
        simp only [mummerref04_Ints.l0] at H
        by_cases c4 : x5_1 < (l0.length : Int)
        · rw [if_pos c4] at H
          have c4b0 : decide (x5_1 < (l0.length : Int)) = true := decide_eq_true c4
          clear c4
          by_cases c5 : 0 ≤ x5_1
          · rw [if_pos c5] at H
            have c5b0 : decide (0 ≤ x5_1) = true := decide_eq_true c5
            clear c5
            by_cases c6 : x5_1 < (l1.length : Int)
            · rw [if_pos c6] at H
              have c6b0 : decide (x5_1 < (l1.length : Int)) = true := decide_eq_true c6
              clear c6
              by_cases c7 : (rd l0 x5_1) = (rd l1 x5_1)
              · rw [if_pos c7] at H
                have c7b0 : ((rd l0 x5_1) == (rd l1 x5_1)) = true := beq_iff_eq.mpr c7
                have c7b1 : ((rd l0 x5_1) != (rd l1 x5_1)) = false := bne_eq_false_iff_eq.mpr c7
                clear c7
                have H' := ak H
                clear H
                have p155 : 0 ≤ (x5_1 : Int) := of_decide_eq_true (by first | (with_reducible assumption) | assumption)
                have q155 : x5_1 < (l0.length : Int) := of_decide_eq_true (by first | (with_reducible assumption) | assumption)
                obtain ⟨ad155, e155, hx155_0⟩ := Kd.at_int HR0.out x5_1 p155 q155
                cases e155
                replace p155 := eq_true p155
                replace q155 := eq_true q155
                have p156 : 0 ≤ (x5_1 : Int) := of_decide_eq_true (by first | (with_reducible assumption) | assumption)
                have q156 : x5_1 < (l1.length : Int) := of_decide_eq_true (by first | (with_reducible assumption) | assumption)
                obtain ⟨ad156, e156, hx156_0⟩ := Kd.at_int HR1.out x5_1 p156 q156
                cases e156
                replace p156 := eq_true p156
                replace q156 := eq_true q156
                go_wp2
                repeat (go_quiet (fail); try go_wp2)
                go_roundg k1
                case measure => have := HK1.out; omega
                case rel => exact ⟨(wrap64 (x5_1 + 1)), (by first | rfl | (simp; done) | (simp [*]; done)), H', ⟨by have := HK1.out; omega⟩, by repeat (first | exact Drawn0.refl _ | apply Drawn0.step)⟩
              · rw [if_neg c7] at H
                have c7b0 : ((rd l0 x5_1) == (rd l1 x5_1)) = false := beq_eq_false_iff_ne.mpr c7
                have c7b1 : ((rd l0 x5_1) != (rd l1 x5_1)) = true := bne_iff_ne.mpr c7
                obtain rfl := Option.some.inj H
                have p155 : 0 ≤ (x5_1 : Int) := of_decide_eq_true (by first | (with_reducible assumption) | assumption)
                have q155 : x5_1 < (l0.length : Int) := of_decide_eq_true (by first | (with_reducible assumption) | assumption)
                obtain ⟨ad155, e155, hx155_0⟩ := Kd.at_int HR0.out x5_1 p155 q155
                cases e155
                replace p155 := eq_true p155
                replace q155 := eq_true q155
                have p156 : 0 ≤ (x5_1 : Int) := of_decide_eq_true (by first | (with_reducible assumption) | assumption)
                have q156 : x5_1 < (l1.length : Int) := of_decide_eq_true (by first | (with_reducible assumption) | assumption)
                obtain ⟨ad156, e156, hx156_0⟩ := Kd.at_int HR1.out x5_1 p156 q156
                cases e156
                replace p156 := eq_true p156
                replace q156 := eq_true q156
                go_wp2
                repeat (go_quiet (fail); try go_wp2)
                go_ret
                exact ⟨by first | rfl | (simp; done) | (simp [*]; done), by repeat (first | exact Drawn0.refl _ | apply Drawn0.step)⟩
            · rw [if_neg c6] at H
              exact absurd H (by simp)
          · rw [if_neg c5] at H
            exact absurd H (by simp)
        · rw [if_neg c4] at H
          have c4b0 : decide (x5_1 < (l0.length : Int)) = false := decide_eq_false c4
          clear c4
          obtain rfl := Option.some.inj H
          go_wp2
          repeat (go_quiet (fail); try go_wp2)
          go_ret
          exact ⟨by first | rfl | (simp; done) | (simp [*]; done), by repeat (first | exact Drawn0.refl _ | apply Drawn0.step)⟩
  · rw [if_neg c3] at H
    have c3b0 : ((l0.length : Int) == (l1.length : Int)) = false := beq_eq_false_iff_ne.mpr c3
    have c3b1 : ((l0.length : Int) != (l1.length : Int)) = true := bne_iff_ne.mpr c3
    have c3b2 : (l0.length == l1.length) = false := by first | simpa using c3 | (simp at c3 ⊢; omega)
    obtain rfl := Option.some.inj H
    go_enter Tryz.func34, Tryz.ntmps34
    go_wp2
    repeat (go_quiet (fail); try go_wp2)
    go_ret
    exact ⟨by first | rfl | (simp; done) | (simp [*]; done), by repeat (first | exact Drawn0.refl _ | apply Drawn0.step)⟩
end Go.Proofs.YtdjkdlbokepoaaaGreatDoor.P
namespace Go.Proofs.YtdjkdlbokepoaaaGreatDoor.P
open Go.RowKit Go.Proofs.YtdjkdlbokepoaaaGreatDoorW.PrintWords Go.Proofs.YtdjkdlbokepoaaaGreatDoorW.PrintLast Go.Proofs.YtdjkdlbokepoaaaGreatDoorW.PrintMore
attribute [local go_sem] max2_int min2_int max_two min_two max_three min_three max_four min_four   -- for this text's walks alone
set_option linter.unusedVariables false
set_option linter.unusedSimpArgs false
def faults_Message.f (k : Nat) (l0 : List Int) (a1_0 : Int) (a1_1 : Int) (a1_2 : Int) (a1_3 : Int) (a1_4 : ByteArray) (a1_5 : Int) : Option (ByteArray × Int) := (faults_Place.f k l0 0).bind fun bt136 => (if bt136.2.2 = 0 then ((faults_Check.f k (l0.length : Int) (([(⟨a1_0, a1_1, (⟨a1_2, a1_3⟩ : S39), a1_4, (-1)⟩ : S41)] : List (S41)))).bind fun bt142 => (if bt142.2 = 0 then ((faults_Place.f k l0 a1_2).bind fun bt144 => ((faults_Pass.f a1_1).bind fun bt147 => ((faults_Word.f a1_0).bind fun bt149 => ((strconv_Itoa_54.f bt144.1).bind fun t151 => (if t151.size + 1 ≤ 9223372036854775807 then ((strconv_Itoa_54.f bt144.2.1).bind fun t152 => (if (t151 ++ (⟨#[58]⟩ : ByteArray)).size + t152.size ≤ 9223372036854775807 then (if ((t151 ++ (⟨#[58]⟩ : ByteArray)) ++ t152).size + 2 ≤ 9223372036854775807 then (if (((t151 ++ (⟨#[58]⟩ : ByteArray)) ++ t152) ++ (⟨#[58, 32]⟩ : ByteArray)).size + bt147.1.size ≤ 9223372036854775807 then (if ((((t151 ++ (⟨#[58]⟩ : ByteArray)) ++ t152) ++ (⟨#[58, 32]⟩ : ByteArray)) ++ bt147.1).size + 2 ≤ 9223372036854775807 then (if (((((t151 ++ (⟨#[58]⟩ : ByteArray)) ++ t152) ++ (⟨#[58, 32]⟩ : ByteArray)) ++ bt147.1) ++ (⟨#[58, 32]⟩ : ByteArray)).size + bt149.1.size ≤ 9223372036854775807 then (if a1_4.toList = ([] : List UInt8) then (some ((((((t151 ++ (⟨#[58]⟩ : ByteArray)) ++ t152) ++ (⟨#[58, 32]⟩ : ByteArray)) ++ bt147.1) ++ (⟨#[58, 32]⟩ : ByteArray)) ++ bt149.1, 0)) else (if 1 + a1_4.size ≤ 9223372036854775807 then (if ((((((t151 ++ (⟨#[58]⟩ : ByteArray)) ++ t152) ++ (⟨#[58, 32]⟩ : ByteArray)) ++ bt147.1) ++ (⟨#[58, 32]⟩ : ByteArray)) ++ bt149.1).size + ((⟨#[32]⟩ : ByteArray) ++ a1_4).size ≤ 9223372036854775807 then (some (((((((t151 ++ (⟨#[58]⟩ : ByteArray)) ++ t152) ++ (⟨#[58, 32]⟩ : ByteArray)) ++ bt147.1) ++ (⟨#[58, 32]⟩ : ByteArray)) ++ bt149.1) ++ ((⟨#[32]⟩ : ByteArray) ++ a1_4), 0)) else (none)) else (none))) else (none)) else (none)) else (none)) else (none)) else (none))) else (none)))))) else (some ((⟨#[]⟩ : ByteArray), bt142.2)))) else (some ((⟨#[]⟩ : ByteArray), bt136.2.2)))
set_option maxHeartbeats 8000000 in
set_option maxRecDepth 100000 in
theorem faults_Message.calls (k : Nat) (A0 : Option Addr) (c0 : Nat) (l0 : List Int) (a1_0 : Int) (a1_1 : Int) (a1_2 : Int) (a1_3 : Int) (a1_4 : ByteArray) (a1_5 : Int) (r1 : ByteArray) (r2 : Int) (w : World) (hr0 : Kd.C (Kd.int .u8) w A0 l0.length l0) (hc0 : l0.length ≤ c0) (h : faults_Message.f k l0 a1_0 a1_1 a1_2 a1_3 a1_4 a1_5 = some (r1, r2)) (HT : Aside0 (Ft.All w)) :
    Calls Tryz.prog 23 #[.slice A0 l0.length c0, .agg #[.int .i64 a1_0, .int .i64 a1_1, .int .i64 a1_2, .int .i64 a1_3, .string a1_4, .int .i64 a1_5]] w fun e w' => e = .returned (.tuple #[.string r1, .int .i64 r2]) ∧ Below w.heap.size w w' := by
  have hu41 := Tryz.underlying41
  have HR0 := ak hr0
  have HC0 := ak hc0
  clear hr0 hc0
  have HB := ak (Below.refl w.heap.size w)
  have H : ((faults_Place.f k l0 0).bind fun bt136 => (if bt136.2.2 = 0 then ((faults_Check.f k (l0.length : Int) (([(⟨a1_0, a1_1, (⟨a1_2, a1_3⟩ : S39), a1_4, (-1)⟩ : S41)] : List (S41)))).bind fun bt142 => (if bt142.2 = 0 then ((faults_Place.f k l0 a1_2).bind fun bt144 => ((faults_Pass.f a1_1).bind fun bt147 => ((faults_Word.f a1_0).bind fun bt149 => ((strconv_Itoa_54.f bt144.1).bind fun t151 => (if t151.size + 1 ≤ 9223372036854775807 then ((strconv_Itoa_54.f bt144.2.1).bind fun t152 => (if (t151 ++ (⟨#[58]⟩ : ByteArray)).size + t152.size ≤ 9223372036854775807 then (if ((t151 ++ (⟨#[58]⟩ : ByteArray)) ++ t152).size + 2 ≤ 9223372036854775807 then (if (((t151 ++ (⟨#[58]⟩ : ByteArray)) ++ t152) ++ (⟨#[58, 32]⟩ : ByteArray)).size + bt147.1.size ≤ 9223372036854775807 then (if ((((t151 ++ (⟨#[58]⟩ : ByteArray)) ++ t152) ++ (⟨#[58, 32]⟩ : ByteArray)) ++ bt147.1).size + 2 ≤ 9223372036854775807 then (if (((((t151 ++ (⟨#[58]⟩ : ByteArray)) ++ t152) ++ (⟨#[58, 32]⟩ : ByteArray)) ++ bt147.1) ++ (⟨#[58, 32]⟩ : ByteArray)).size + bt149.1.size ≤ 9223372036854775807 then (if a1_4.toList = ([] : List UInt8) then (some ((((((t151 ++ (⟨#[58]⟩ : ByteArray)) ++ t152) ++ (⟨#[58, 32]⟩ : ByteArray)) ++ bt147.1) ++ (⟨#[58, 32]⟩ : ByteArray)) ++ bt149.1, 0)) else (if 1 + a1_4.size ≤ 9223372036854775807 then (if ((((((t151 ++ (⟨#[58]⟩ : ByteArray)) ++ t152) ++ (⟨#[58, 32]⟩ : ByteArray)) ++ bt147.1) ++ (⟨#[58, 32]⟩ : ByteArray)) ++ bt149.1).size + ((⟨#[32]⟩ : ByteArray) ++ a1_4).size ≤ 9223372036854775807 then (some (((((((t151 ++ (⟨#[58]⟩ : ByteArray)) ++ t152) ++ (⟨#[58, 32]⟩ : ByteArray)) ++ bt147.1) ++ (⟨#[58, 32]⟩ : ByteArray)) ++ bt149.1) ++ ((⟨#[32]⟩ : ByteArray) ++ a1_4), 0)) else (none)) else (none))) else (none)) else (none)) else (none)) else (none)) else (none))) else (none)))))) else (some ((⟨#[]⟩ : ByteArray), bt142.2)))) else (some ((⟨#[]⟩ : ByteArray), bt136.2.2)))) = some (r1, r2) := h
  clear h
  replace H := Option.bind_eq_some_iff.mp H
  obtain ⟨⟨t136, t137, t138⟩, A30, H⟩ := H
  replace H : (if t138 = 0 then ((faults_Check.f k (l0.length : Int) (([(⟨a1_0, a1_1, (⟨a1_2, a1_3⟩ : S39), a1_4, (-1)⟩ : S41)] : List (S41)))).bind fun bt142 => (if bt142.2 = 0 then ((faults_Place.f k l0 a1_2).bind fun bt144 => ((faults_Pass.f a1_1).bind fun bt147 => ((faults_Word.f a1_0).bind fun bt149 => ((strconv_Itoa_54.f bt144.1).bind fun t151 => (if t151.size + 1 ≤ 9223372036854775807 then ((strconv_Itoa_54.f bt144.2.1).bind fun t152 => (if (t151 ++ (⟨#[58]⟩ : ByteArray)).size + t152.size ≤ 9223372036854775807 then (if ((t151 ++ (⟨#[58]⟩ : ByteArray)) ++ t152).size + 2 ≤ 9223372036854775807 then (if (((t151 ++ (⟨#[58]⟩ : ByteArray)) ++ t152) ++ (⟨#[58, 32]⟩ : ByteArray)).size + bt147.1.size ≤ 9223372036854775807 then (if ((((t151 ++ (⟨#[58]⟩ : ByteArray)) ++ t152) ++ (⟨#[58, 32]⟩ : ByteArray)) ++ bt147.1).size + 2 ≤ 9223372036854775807 then (if (((((t151 ++ (⟨#[58]⟩ : ByteArray)) ++ t152) ++ (⟨#[58, 32]⟩ : ByteArray)) ++ bt147.1) ++ (⟨#[58, 32]⟩ : ByteArray)).size + bt149.1.size ≤ 9223372036854775807 then (if a1_4.toList = ([] : List UInt8) then (some ((((((t151 ++ (⟨#[58]⟩ : ByteArray)) ++ t152) ++ (⟨#[58, 32]⟩ : ByteArray)) ++ bt147.1) ++ (⟨#[58, 32]⟩ : ByteArray)) ++ bt149.1, 0)) else (if 1 + a1_4.size ≤ 9223372036854775807 then (if ((((((t151 ++ (⟨#[58]⟩ : ByteArray)) ++ t152) ++ (⟨#[58, 32]⟩ : ByteArray)) ++ bt147.1) ++ (⟨#[58, 32]⟩ : ByteArray)) ++ bt149.1).size + ((⟨#[32]⟩ : ByteArray) ++ a1_4).size ≤ 9223372036854775807 then (some (((((((t151 ++ (⟨#[58]⟩ : ByteArray)) ++ t152) ++ (⟨#[58, 32]⟩ : ByteArray)) ++ bt147.1) ++ (⟨#[58, 32]⟩ : ByteArray)) ++ bt149.1) ++ ((⟨#[32]⟩ : ByteArray) ++ a1_4), 0)) else (none)) else (none))) else (none)) else (none)) else (none)) else (none)) else (none))) else (none)))))) else (some ((⟨#[]⟩ : ByteArray), bt142.2)))) else (some ((⟨#[]⟩ : ByteArray), t138))) = some (r1, r2) := H
  have A3 := ak A30
  clear A30
  by_cases c4 : t138 = 0
  · rw [if_pos c4] at H
    have c4b0 : (t138 == 0) = true := beq_iff_eq.mpr c4
    have c4b1 : (t138 != 0) = false := bne_eq_false_iff_eq.mpr c4
    clear c4
    obtain ⟨y139, hy139⟩ : ∃ y_ : List (S41), y_ = (([(⟨a1_0, a1_1, (⟨a1_2, a1_3⟩ : S39), a1_4, (-1)⟩ : S41)] : List (S41))) := ⟨_, rfl⟩
    replace H : ((faults_Check.f k (l0.length : Int) y139).bind fun bt142 => (if bt142.2 = 0 then ((faults_Place.f k l0 a1_2).bind fun bt144 => ((faults_Pass.f a1_1).bind fun bt147 => ((faults_Word.f a1_0).bind fun bt149 => ((strconv_Itoa_54.f bt144.1).bind fun t151 => (if t151.size + 1 ≤ 9223372036854775807 then ((strconv_Itoa_54.f bt144.2.1).bind fun t152 => (if (t151 ++ (⟨#[58]⟩ : ByteArray)).size + t152.size ≤ 9223372036854775807 then (if ((t151 ++ (⟨#[58]⟩ : ByteArray)) ++ t152).size + 2 ≤ 9223372036854775807 then (if (((t151 ++ (⟨#[58]⟩ : ByteArray)) ++ t152) ++ (⟨#[58, 32]⟩ : ByteArray)).size + bt147.1.size ≤ 9223372036854775807 then (if ((((t151 ++ (⟨#[58]⟩ : ByteArray)) ++ t152) ++ (⟨#[58, 32]⟩ : ByteArray)) ++ bt147.1).size + 2 ≤ 9223372036854775807 then (if (((((t151 ++ (⟨#[58]⟩ : ByteArray)) ++ t152) ++ (⟨#[58, 32]⟩ : ByteArray)) ++ bt147.1) ++ (⟨#[58, 32]⟩ : ByteArray)).size + bt149.1.size ≤ 9223372036854775807 then (if a1_4.toList = ([] : List UInt8) then (some ((((((t151 ++ (⟨#[58]⟩ : ByteArray)) ++ t152) ++ (⟨#[58, 32]⟩ : ByteArray)) ++ bt147.1) ++ (⟨#[58, 32]⟩ : ByteArray)) ++ bt149.1, 0)) else (if 1 + a1_4.size ≤ 9223372036854775807 then (if ((((((t151 ++ (⟨#[58]⟩ : ByteArray)) ++ t152) ++ (⟨#[58, 32]⟩ : ByteArray)) ++ bt147.1) ++ (⟨#[58, 32]⟩ : ByteArray)) ++ bt149.1).size + ((⟨#[32]⟩ : ByteArray) ++ a1_4).size ≤ 9223372036854775807 then (some (((((((t151 ++ (⟨#[58]⟩ : ByteArray)) ++ t152) ++ (⟨#[58, 32]⟩ : ByteArray)) ++ bt147.1) ++ (⟨#[58, 32]⟩ : ByteArray)) ++ bt149.1) ++ ((⟨#[32]⟩ : ByteArray) ++ a1_4), 0)) else (none)) else (none))) else (none)) else (none)) else (none)) else (none)) else (none))) else (none)))))) else (some ((⟨#[]⟩ : ByteArray), bt142.2)))) = some (r1, r2) := by first | (rw [hy139]; with_reducible exact H) | (have H2_ := (Option.bind_some _ _).symm.trans H; rw [hy139]; with_reducible exact H2_) | (have H2_ := (Option.bind_some _ _).symm.trans H; with_reducible exact H2_) | with_reducible exact H | (rw [hy139]; exact H) | exact H
    have Ny139 := ak hy139
    clear hy139
    replace H := Option.bind_eq_some_iff.mp H
    obtain ⟨⟨t142, t143⟩, A50, H⟩ := H
    replace H : (if t143 = 0 then ((faults_Place.f k l0 a1_2).bind fun bt144 => ((faults_Pass.f a1_1).bind fun bt147 => ((faults_Word.f a1_0).bind fun bt149 => ((strconv_Itoa_54.f bt144.1).bind fun t151 => (if t151.size + 1 ≤ 9223372036854775807 then ((strconv_Itoa_54.f bt144.2.1).bind fun t152 => (if (t151 ++ (⟨#[58]⟩ : ByteArray)).size + t152.size ≤ 9223372036854775807 then (if ((t151 ++ (⟨#[58]⟩ : ByteArray)) ++ t152).size + 2 ≤ 9223372036854775807 then (if (((t151 ++ (⟨#[58]⟩ : ByteArray)) ++ t152) ++ (⟨#[58, 32]⟩ : ByteArray)).size + bt147.1.size ≤ 9223372036854775807 then (if ((((t151 ++ (⟨#[58]⟩ : ByteArray)) ++ t152) ++ (⟨#[58, 32]⟩ : ByteArray)) ++ bt147.1).size + 2 ≤ 9223372036854775807 then (if (((((t151 ++ (⟨#[58]⟩ : ByteArray)) ++ t152) ++ (⟨#[58, 32]⟩ : ByteArray)) ++ bt147.1) ++ (⟨#[58, 32]⟩ : ByteArray)).size + bt149.1.size ≤ 9223372036854775807 then (if a1_4.toList = ([] : List UInt8) then (some ((((((t151 ++ (⟨#[58]⟩ : ByteArray)) ++ t152) ++ (⟨#[58, 32]⟩ : ByteArray)) ++ bt147.1) ++ (⟨#[58, 32]⟩ : ByteArray)) ++ bt149.1, 0)) else (if 1 + a1_4.size ≤ 9223372036854775807 then (if ((((((t151 ++ (⟨#[58]⟩ : ByteArray)) ++ t152) ++ (⟨#[58, 32]⟩ : ByteArray)) ++ bt147.1) ++ (⟨#[58, 32]⟩ : ByteArray)) ++ bt149.1).size + ((⟨#[32]⟩ : ByteArray) ++ a1_4).size ≤ 9223372036854775807 then (some (((((((t151 ++ (⟨#[58]⟩ : ByteArray)) ++ t152) ++ (⟨#[58, 32]⟩ : ByteArray)) ++ bt147.1) ++ (⟨#[58, 32]⟩ : ByteArray)) ++ bt149.1) ++ ((⟨#[32]⟩ : ByteArray) ++ a1_4), 0)) else (none)) else (none))) else (none)) else (none)) else (none)) else (none)) else (none))) else (none)))))) else (some ((⟨#[]⟩ : ByteArray), t143))) = some (r1, r2) := H
    have A5 := ak A50
    clear A50
    by_cases c6 : t143 = 0
    · rw [if_pos c6] at H
      have c6b0 : (t143 == 0) = true := beq_iff_eq.mpr c6
      have c6b1 : (t143 != 0) = false := bne_eq_false_iff_eq.mpr c6
      clear c6
      replace H := Option.bind_eq_some_iff.mp H
      obtain ⟨⟨t144, t145, t146⟩, A70, H⟩ := H
      replace H : ((faults_Pass.f a1_1).bind fun bt147 => ((faults_Word.f a1_0).bind fun bt149 => ((strconv_Itoa_54.f t144).bind fun t151 => (if t151.size + 1 ≤ 9223372036854775807 then ((strconv_Itoa_54.f t145).bind fun t152 => (if (t151 ++ (⟨#[58]⟩ : ByteArray)).size + t152.size ≤ 9223372036854775807 then (if ((t151 ++ (⟨#[58]⟩ : ByteArray)) ++ t152).size + 2 ≤ 9223372036854775807 then (if (((t151 ++ (⟨#[58]⟩ : ByteArray)) ++ t152) ++ (⟨#[58, 32]⟩ : ByteArray)).size + bt147.1.size ≤ 9223372036854775807 then (if ((((t151 ++ (⟨#[58]⟩ : ByteArray)) ++ t152) ++ (⟨#[58, 32]⟩ : ByteArray)) ++ bt147.1).size + 2 ≤ 9223372036854775807 then (if (((((t151 ++ (⟨#[58]⟩ : ByteArray)) ++ t152) ++ (⟨#[58, 32]⟩ : ByteArray)) ++ bt147.1) ++ (⟨#[58, 32]⟩ : ByteArray)).size + bt149.1.size ≤ 9223372036854775807 then (if a1_4.toList = ([] : List UInt8) then (some ((((((t151 ++ (⟨#[58]⟩ : ByteArray)) ++ t152) ++ (⟨#[58, 32]⟩ : ByteArray)) ++ bt147.1) ++ (⟨#[58, 32]⟩ : ByteArray)) ++ bt149.1, 0)) else (if 1 + a1_4.size ≤ 9223372036854775807 then (if ((((((t151 ++ (⟨#[58]⟩ : ByteArray)) ++ t152) ++ (⟨#[58, 32]⟩ : ByteArray)) ++ bt147.1) ++ (⟨#[58, 32]⟩ : ByteArray)) ++ bt149.1).size + ((⟨#[32]⟩ : ByteArray) ++ a1_4).size ≤ 9223372036854775807 then (some (((((((t151 ++ (⟨#[58]⟩ : ByteArray)) ++ t152) ++ (⟨#[58, 32]⟩ : ByteArray)) ++ bt147.1) ++ (⟨#[58, 32]⟩ : ByteArray)) ++ bt149.1) ++ ((⟨#[32]⟩ : ByteArray) ++ a1_4), 0)) else (none)) else (none))) else (none)) else (none)) else (none)) else (none)) else (none))) else (none))))) = some (r1, r2) := H
      have A7 := ak A70
      clear A70
      replace H := Option.bind_eq_some_iff.mp H
      obtain ⟨⟨t147, t148⟩, A80, H⟩ := H
      replace H : ((faults_Word.f a1_0).bind fun bt149 => ((strconv_Itoa_54.f t144).bind fun t151 => (if t151.size + 1 ≤ 9223372036854775807 then ((strconv_Itoa_54.f t145).bind fun t152 => (if (t151 ++ (⟨#[58]⟩ : ByteArray)).size + t152.size ≤ 9223372036854775807 then (if ((t151 ++ (⟨#[58]⟩ : ByteArray)) ++ t152).size + 2 ≤ 9223372036854775807 then (if (((t151 ++ (⟨#[58]⟩ : ByteArray)) ++ t152) ++ (⟨#[58, 32]⟩ : ByteArray)).size + t147.size ≤ 9223372036854775807 then (if ((((t151 ++ (⟨#[58]⟩ : ByteArray)) ++ t152) ++ (⟨#[58, 32]⟩ : ByteArray)) ++ t147).size + 2 ≤ 9223372036854775807 then (if (((((t151 ++ (⟨#[58]⟩ : ByteArray)) ++ t152) ++ (⟨#[58, 32]⟩ : ByteArray)) ++ t147) ++ (⟨#[58, 32]⟩ : ByteArray)).size + bt149.1.size ≤ 9223372036854775807 then (if a1_4.toList = ([] : List UInt8) then (some ((((((t151 ++ (⟨#[58]⟩ : ByteArray)) ++ t152) ++ (⟨#[58, 32]⟩ : ByteArray)) ++ t147) ++ (⟨#[58, 32]⟩ : ByteArray)) ++ bt149.1, 0)) else (if 1 + a1_4.size ≤ 9223372036854775807 then (if ((((((t151 ++ (⟨#[58]⟩ : ByteArray)) ++ t152) ++ (⟨#[58, 32]⟩ : ByteArray)) ++ t147) ++ (⟨#[58, 32]⟩ : ByteArray)) ++ bt149.1).size + ((⟨#[32]⟩ : ByteArray) ++ a1_4).size ≤ 9223372036854775807 then (some (((((((t151 ++ (⟨#[58]⟩ : ByteArray)) ++ t152) ++ (⟨#[58, 32]⟩ : ByteArray)) ++ t147) ++ (⟨#[58, 32]⟩ : ByteArray)) ++ bt149.1) ++ ((⟨#[32]⟩ : ByteArray) ++ a1_4), 0)) else (none)) else (none))) else (none)) else (none)) else (none)) else (none)) else (none))) else (none)))) = some (r1, r2) := H
      have A8 := ak A80
      clear A80
      replace H := Option.bind_eq_some_iff.mp H
      obtain ⟨⟨t149, t150⟩, A90, H⟩ := H
      replace H : ((strconv_Itoa_54.f t144).bind fun t151 => (if t151.size + 1 ≤ 9223372036854775807 then ((strconv_Itoa_54.f t145).bind fun t152 => (if (t151 ++ (⟨#[58]⟩ : ByteArray)).size + t152.size ≤ 9223372036854775807 then (if ((t151 ++ (⟨#[58]⟩ : ByteArray)) ++ t152).size + 2 ≤ 9223372036854775807 then (if (((t151 ++ (⟨#[58]⟩ : ByteArray)) ++ t152) ++ (⟨#[58, 32]⟩ : ByteArray)).size + t147.size ≤ 9223372036854775807 then (if ((((t151 ++ (⟨#[58]⟩ : ByteArray)) ++ t152) ++ (⟨#[58, 32]⟩ : ByteArray)) ++ t147).size + 2 ≤ 9223372036854775807 then (if (((((t151 ++ (⟨#[58]⟩ : ByteArray)) ++ t152) ++ (⟨#[58, 32]⟩ : ByteArray)) ++ t147) ++ (⟨#[58, 32]⟩ : ByteArray)).size + t149.size ≤ 9223372036854775807 then (if a1_4.toList = ([] : List UInt8) then (some ((((((t151 ++ (⟨#[58]⟩ : ByteArray)) ++ t152) ++ (⟨#[58, 32]⟩ : ByteArray)) ++ t147) ++ (⟨#[58, 32]⟩ : ByteArray)) ++ t149, 0)) else (if 1 + a1_4.size ≤ 9223372036854775807 then (if ((((((t151 ++ (⟨#[58]⟩ : ByteArray)) ++ t152) ++ (⟨#[58, 32]⟩ : ByteArray)) ++ t147) ++ (⟨#[58, 32]⟩ : ByteArray)) ++ t149).size + ((⟨#[32]⟩ : ByteArray) ++ a1_4).size ≤ 9223372036854775807 then (some (((((((t151 ++ (⟨#[58]⟩ : ByteArray)) ++ t152) ++ (⟨#[58, 32]⟩ : ByteArray)) ++ t147) ++ (⟨#[58, 32]⟩ : ByteArray)) ++ t149) ++ ((⟨#[32]⟩ : ByteArray) ++ a1_4), 0)) else (none)) else (none))) else (none)) else (none)) else (none)) else (none)) else (none))) else (none))) = some (r1, r2) := H
      have A9 := ak A90
      clear A90
      replace H := Option.bind_eq_some_iff.mp H
      obtain ⟨t151, A100, H⟩ := H
      replace H : (if t151.size + 1 ≤ 9223372036854775807 then ((strconv_Itoa_54.f t145).bind fun t152 => (if (t151 ++ (⟨#[58]⟩ : ByteArray)).size + t152.size ≤ 9223372036854775807 then (if ((t151 ++ (⟨#[58]⟩ : ByteArray)) ++ t152).size + 2 ≤ 9223372036854775807 then (if (((t151 ++ (⟨#[58]⟩ : ByteArray)) ++ t152) ++ (⟨#[58, 32]⟩ : ByteArray)).size + t147.size ≤ 9223372036854775807 then (if ((((t151 ++ (⟨#[58]⟩ : ByteArray)) ++ t152) ++ (⟨#[58, 32]⟩ : ByteArray)) ++ t147).size + 2 ≤ 9223372036854775807 then (if (((((t151 ++ (⟨#[58]⟩ : ByteArray)) ++ t152) ++ (⟨#[58, 32]⟩ : ByteArray)) ++ t147) ++ (⟨#[58, 32]⟩ : ByteArray)).size + t149.size ≤ 9223372036854775807 then (if a1_4.toList = ([] : List UInt8) then (some ((((((t151 ++ (⟨#[58]⟩ : ByteArray)) ++ t152) ++ (⟨#[58, 32]⟩ : ByteArray)) ++ t147) ++ (⟨#[58, 32]⟩ : ByteArray)) ++ t149, 0)) else (if 1 + a1_4.size ≤ 9223372036854775807 then (if ((((((t151 ++ (⟨#[58]⟩ : ByteArray)) ++ t152) ++ (⟨#[58, 32]⟩ : ByteArray)) ++ t147) ++ (⟨#[58, 32]⟩ : ByteArray)) ++ t149).size + ((⟨#[32]⟩ : ByteArray) ++ a1_4).size ≤ 9223372036854775807 then (some (((((((t151 ++ (⟨#[58]⟩ : ByteArray)) ++ t152) ++ (⟨#[58, 32]⟩ : ByteArray)) ++ t147) ++ (⟨#[58, 32]⟩ : ByteArray)) ++ t149) ++ ((⟨#[32]⟩ : ByteArray) ++ a1_4), 0)) else (none)) else (none))) else (none)) else (none)) else (none)) else (none)) else (none))) else (none)) = some (r1, r2) := H
      have A10 := ak A100
      clear A100
      by_cases c11 : t151.size + 1 ≤ 9223372036854775807
      · rw [if_pos c11] at H
        have c11b0 := eq_true c11
        have c11b1 : decide (t151.size + 1 ≤ 9223372036854775807) = true := decide_eq_true c11
        try have c11b2 : (9223372036854775807 < t151.size + 1) = False := eq_false (Nat.not_lt.2 c11)
        replace H := Option.bind_eq_some_iff.mp H
        obtain ⟨t152, A120, H⟩ := H
        replace H : (if (t151 ++ (⟨#[58]⟩ : ByteArray)).size + t152.size ≤ 9223372036854775807 then (if ((t151 ++ (⟨#[58]⟩ : ByteArray)) ++ t152).size + 2 ≤ 9223372036854775807 then (if (((t151 ++ (⟨#[58]⟩ : ByteArray)) ++ t152) ++ (⟨#[58, 32]⟩ : ByteArray)).size + t147.size ≤ 9223372036854775807 then (if ((((t151 ++ (⟨#[58]⟩ : ByteArray)) ++ t152) ++ (⟨#[58, 32]⟩ : ByteArray)) ++ t147).size + 2 ≤ 9223372036854775807 then (if (((((t151 ++ (⟨#[58]⟩ : ByteArray)) ++ t152) ++ (⟨#[58, 32]⟩ : ByteArray)) ++ t147) ++ (⟨#[58, 32]⟩ : ByteArray)).size + t149.size ≤ 9223372036854775807 then (if a1_4.toList = ([] : List UInt8) then (some ((((((t151 ++ (⟨#[58]⟩ : ByteArray)) ++ t152) ++ (⟨#[58, 32]⟩ : ByteArray)) ++ t147) ++ (⟨#[58, 32]⟩ : ByteArray)) ++ t149, 0)) else (if 1 + a1_4.size ≤ 9223372036854775807 then (if ((((((t151 ++ (⟨#[58]⟩ : ByteArray)) ++ t152) ++ (⟨#[58, 32]⟩ : ByteArray)) ++ t147) ++ (⟨#[58, 32]⟩ : ByteArray)) ++ t149).size + ((⟨#[32]⟩ : ByteArray) ++ a1_4).size ≤ 9223372036854775807 then (some (((((((t151 ++ (⟨#[58]⟩ : ByteArray)) ++ t152) ++ (⟨#[58, 32]⟩ : ByteArray)) ++ t147) ++ (⟨#[58, 32]⟩ : ByteArray)) ++ t149) ++ ((⟨#[32]⟩ : ByteArray) ++ a1_4), 0)) else (none)) else (none))) else (none)) else (none)) else (none)) else (none)) else (none)) = some (r1, r2) := H
        have A12 := ak A120
        clear A120
        by_cases c13 : (t151 ++ (⟨#[58]⟩ : ByteArray)).size + t152.size ≤ 9223372036854775807
        · rw [if_pos c13] at H
          have c13b0 := eq_true c13
          have c13b1 : decide ((t151 ++ (⟨#[58]⟩ : ByteArray)).size + t152.size ≤ 9223372036854775807) = true := decide_eq_true c13
          try have c13b2 : (9223372036854775807 < (t151 ++ (⟨#[58]⟩ : ByteArray)).size + t152.size) = False := eq_false (Nat.not_lt.2 c13)
          try have c13b7 : (9223372036854775807 < t151.size + 1 + t152.size) = False := by have h7_ := c13; simp only [ByteArray.size_append] at h7_; exact eq_false (Nat.not_lt.2 h7_)
          by_cases c14 : ((t151 ++ (⟨#[58]⟩ : ByteArray)) ++ t152).size + 2 ≤ 9223372036854775807
          · rw [if_pos c14] at H
            have c14b0 := eq_true c14
            have c14b1 : decide (((t151 ++ (⟨#[58]⟩ : ByteArray)) ++ t152).size + 2 ≤ 9223372036854775807) = true := decide_eq_true c14
            try have c14b2 : (9223372036854775807 < ((t151 ++ (⟨#[58]⟩ : ByteArray)) ++ t152).size + 2) = False := eq_false (Nat.not_lt.2 c14)
            try have c14b7 : (9223372036854775807 < t151.size + 1 + t152.size + 2) = False := by have h7_ := c14; simp only [ByteArray.size_append] at h7_; exact eq_false (Nat.not_lt.2 h7_)
            by_cases c15 : (((t151 ++ (⟨#[58]⟩ : ByteArray)) ++ t152) ++ (⟨#[58, 32]⟩ : ByteArray)).size + t147.size ≤ 9223372036854775807
            · rw [if_pos c15] at H
              have c15b0 := eq_true c15
              have c15b1 : decide ((((t151 ++ (⟨#[58]⟩ : ByteArray)) ++ t152) ++ (⟨#[58, 32]⟩ : ByteArray)).size + t147.size ≤ 9223372036854775807) = true := decide_eq_true c15
              try have c15b2 : (9223372036854775807 < (((t151 ++ (⟨#[58]⟩ : ByteArray)) ++ t152) ++ (⟨#[58, 32]⟩ : ByteArray)).size + t147.size) = False := eq_false (Nat.not_lt.2 c15)
              try have c15b7 : (9223372036854775807 < t151.size + 1 + t152.size + 2 + t147.size) = False := by have h7_ := c15; simp only [ByteArray.size_append] at h7_; exact eq_false (Nat.not_lt.2 h7_)
              by_cases c16 : ((((t151 ++ (⟨#[58]⟩ : ByteArray)) ++ t152) ++ (⟨#[58, 32]⟩ : ByteArray)) ++ t147).size + 2 ≤ 9223372036854775807
              · rw [if_pos c16] at H
                have c16b0 := eq_true c16
                have c16b1 : decide (((((t151 ++ (⟨#[58]⟩ : ByteArray)) ++ t152) ++ (⟨#[58, 32]⟩ : ByteArray)) ++ t147).size + 2 ≤ 9223372036854775807) = true := decide_eq_true c16
                try have c16b2 : (9223372036854775807 < ((((t151 ++ (⟨#[58]⟩ : ByteArray)) ++ t152) ++ (⟨#[58, 32]⟩ : ByteArray)) ++ t147).size + 2) = False := eq_false (Nat.not_lt.2 c16)
                try have c16b7 : (9223372036854775807 < t151.size + 1 + t152.size + 2 + t147.size + 2) = False := by have h7_ := c16; simp only [ByteArray.size_append] at h7_; exact eq_false (Nat.not_lt.2 h7_)
                by_cases c17 : (((((t151 ++ (⟨#[58]⟩ : ByteArray)) ++ t152) ++ (⟨#[58, 32]⟩ : ByteArray)) ++ t147) ++ (⟨#[58, 32]⟩ : ByteArray)).size + t149.size ≤ 9223372036854775807
                · rw [if_pos c17] at H
                  have c17b0 := eq_true c17
                  have c17b1 : decide ((((((t151 ++ (⟨#[58]⟩ : ByteArray)) ++ t152) ++ (⟨#[58, 32]⟩ : ByteArray)) ++ t147) ++ (⟨#[58, 32]⟩ : ByteArray)).size + t149.size ≤ 9223372036854775807) = true := decide_eq_true c17
                  try have c17b2 : (9223372036854775807 < (((((t151 ++ (⟨#[58]⟩ : ByteArray)) ++ t152) ++ (⟨#[58, 32]⟩ : ByteArray)) ++ t147) ++ (⟨#[58, 32]⟩ : ByteArray)).size + t149.size) = False := eq_false (Nat.not_lt.2 c17)
                  try have c17b7 : (9223372036854775807 < t151.size + 1 + t152.size + 2 + t147.size + 2 + t149.size) = False := by have h7_ := c17; simp only [ByteArray.size_append] at h7_; exact eq_false (Nat.not_lt.2 h7_)
                  by_cases c18 : a1_4.toList = ([] : List UInt8)
                  · rw [if_pos c18] at H
                    have c18b0 : (a1_4.toList == ([] : List UInt8)) = true := beq_iff_eq.mpr c18
                    have c18b1 : (a1_4.toList != ([] : List UInt8)) = false := bne_eq_false_iff_eq.mpr c18
                    clear c18
                    simp only [Option.some.injEq, Prod.mk.injEq] at H
                    obtain ⟨rfl, rfl⟩ := H
                    go_enter Tryz.func23, Tryz.ntmps23
                    go_wp2_with (first | ((with_reducible refine gate_dst (N := 3) rfl ?_); refine box_event ?hg (N := 3) ?hd (cs := #[.int .i64 a1_0, .int .i64 a1_1, .int .i64 a1_2, .int .i64 a1_3, .string a1_4, .int .i64 a1_5]) (t := 41) ?hr ?_; (case hd => rfl); (case hg => rfl); (case hr => first | (go_simp; done) | (go_simp; rfl)); intro gb135 hg w19 hbox hb; have n0_ := ak (below_step (by repeat (first | (with_reducible first | exact HB.out | apply wA | apply wN | apply wD) | exact HB.out)) hb); have n1_ := ak (hbox); have n2_ := ak ((by rw [hg]; exact (below_size (by repeat (first | (with_reducible first | exact HB.out | apply wA | apply wN | apply wD) | exact HB.out))) : w.heap.size ≤ gb135)); have n3_ := ak ((by rw [hg]; exact (below_size (by repeat (first | (with_reducible first | exact HB.out | apply wA | apply wN | apply wD) | exact HB.out))) : w.heap.size ≤ gb135)); clear HB; have HB := n0_; have BK135 := n1_; have GW135 := n2_; have GE135 := n3_; clear n0_ n1_ n2_ n3_; clear hb hbox hg) | ((with_reducible refine gate_callee (f := 15) rfl ?_); refine goesL_ (some 18) rfl rfl Tryz.func15 (by kernel_rfl) rfl #[.slice A0 l0.length c0, .int .i64 0] rfl (by (try simp only [List.map_toArray, List.map_cons, List.map_nil]); first | done | rfl | (simp only [List.length_drop, List.length_take]; rfl)) ?_; (with_reducible refine (faults_Place.calls k _ _ l0 0 t136 t137 t138 _ ?side1 ?side2 A3.out ⟨Ft.All.stay HT.out (by repeat (first | (with_reducible first | exact HB.out | apply wA | apply wN | apply wD) | exact HB.out | (refine below_set ?_ (by assumption)) | (refine below_set ?_ (Aside0.out (by assumption)))))⟩).mono ?_); (case side1 => repeat (first | exact (Kd.C_below HR0.out HB.out) | (with_reducible refine Kd.C_alloc ?_ _) | (with_reducible refine Kd.C_drewN ?_ _) | (with_reducible refine Kd.C_drew ?_))); (case side2 => exact HC0.out); rintro e w20 ⟨rfl, hb⟩; refine ⟨_, rfl, ?_⟩; have n0_ := ak (blk_below (g := gb135) (o := .cells #[.int .i64 a1_0, .int .i64 a1_1, .int .i64 a1_2, .int .i64 a1_3, .string a1_4, .int .i64 a1_5] 41 (0, 0)) (by (with_reducible repeat (first | refine bN ?_ _ | refine bD ?_ | refine bA ?_ _)); exact BK135.out) hb); have n1_ := ak (below_step (by repeat (first | (with_reducible first | exact HB.out | apply wA | apply wN | apply wD | refine below_set ?_ GE135.out) | exact HB.out)) hb); clear BK135; clear HB; have BK135 := n0_; have HB := n1_; clear n0_ n1_; (try clear hb); (try clear hb2); (try clear hk); (try clear hi); have hcz21_0 : w20.cell? ⟨gb135, 0, none⟩ = some (.int .i64 a1_0) := (blk_cell BK135.out 0).trans rfl; have hcz21_1 : w20.cell? ⟨gb135, 1, none⟩ = some (.int .i64 a1_1) := (blk_cell BK135.out 1).trans rfl; have hcz21_2 : w20.cell? ⟨gb135, 2, none⟩ = some (.int .i64 a1_2) := (blk_cell BK135.out 2).trans rfl; have hcz21_3 : w20.cell? ⟨gb135, 3, none⟩ = some (.int .i64 a1_3) := (blk_cell BK135.out 3).trans rfl; have hcz21_4 : w20.cell? ⟨gb135, 4, none⟩ = some (.string a1_4) := (blk_cell BK135.out 4).trans rfl; have hcz21_5 : w20.cell? ⟨gb135, 5, none⟩ = some (.int .i64 a1_5) := (blk_cell BK135.out 5).trans rfl; have hfz21_0 := blk_frozen BK135.out 0; have hfz21_1 := blk_frozen BK135.out 1; have hfz21_2 := blk_frozen BK135.out 2; have hfz21_3 := blk_frozen BK135.out 3; have hfz21_4 := blk_frozen BK135.out 4; have hfz21_5 := blk_frozen BK135.out 5) | ((with_reducible refine gate_dst (N := 30) rfl ?_); refine Kd.R_lit k41 _ 41 ?hg (N := 30) ?hd (xs := ([(⟨a1_0, a1_1, (⟨a1_2, a1_3⟩ : S39), a1_4, (-1)⟩ : S41)] : List (S41))) (inner := [.int .i64 a1_0, .int .i64 a1_1, .int .i64 a1_2, .int .i64 a1_3, .string a1_4, .int .i64 (-1)]) (ok := fun _ => True) (okp := fun _ => True) ?hr ?hp (fun _ hk => hk) trivial (Below.refl _ _) (Nat.le_refl _) (by simp) ?_; (case hd => rfl); (case hg => rfl); (case hr => first | (go_simp; done) | (go_simp; rfl)); (case hp => exact (Reps.c6 (show Kd.M k41 _ _ _ (⟨a1_0, a1_1, (⟨a1_2, a1_3⟩ : S39), a1_4, (-1)⟩ : S41) [.int .i64 a1_0, .int .i64 a1_1, .int .i64 a1_2, .int .i64 a1_3, .string a1_4, .int .i64 (-1)] from (k41_mkM _ _ _ (⟨a1_0, a1_1, (⟨a1_2, a1_3⟩ : S39), a1_4, (-1)⟩ : S41) )) (Reps.none _ _))); intro v140 w22 ho23 hb hg_ hnew_; clear hg_ hnew_; (first | rw [← Ny139.out] at ho23 | (simp only [Int.reduceToNat] at ho23; rw [← Ny139.out] at ho23)); have n0_ := ak (Kd.R_lower (Kd.R_newB ho23 (g := gb135) (o := .cells #[.int .i64 a1_0, .int .i64 a1_1, .int .i64 a1_2, .int .i64 a1_3, .string a1_4, .int .i64 (-1)] 41 (0, 0)) (by (with_reducible repeat (first | refine bN ?_ _ | refine bD ?_ | refine bA ?_ _)); refine blk_put (cs := #[.int .i64 a1_0, .int .i64 a1_1, .int .i64 a1_2, .int .i64 a1_3, .string a1_4, .int .i64 a1_5]) ?_ 5 _ rfl; (with_reducible repeat (first | refine bN ?_ _ | refine bD ?_ | refine bA ?_ _)); exact BK135.out)) (below_size (by repeat (first | (with_reducible first | exact HB.out | apply wA | apply wN | apply wD | refine below_set ?_ GE135.out) | exact HB.out)))); have n1_ := ak (blk_below (g := gb135) (o := .cells #[.int .i64 a1_0, .int .i64 a1_1, .int .i64 a1_2, .int .i64 a1_3, .string a1_4, .int .i64 (-1)] 41 (0, 0)) (by (with_reducible repeat (first | refine bN ?_ _ | refine bD ?_ | refine bA ?_ _)); refine blk_put (cs := #[.int .i64 a1_0, .int .i64 a1_1, .int .i64 a1_2, .int .i64 a1_3, .string a1_4, .int .i64 a1_5]) ?_ 5 _ rfl; (with_reducible repeat (first | refine bN ?_ _ | refine bD ?_ | refine bA ?_ _)); exact BK135.out) hb); have n2_ := ak (below_step (by repeat (first | (with_reducible first | exact HB.out | apply wA | apply wN | apply wD | refine below_set ?_ GE135.out) | exact HB.out)) hb); clear BK135; clear HB; have HO141 := n0_; have BK135 := n1_; have HB := n2_; clear n0_ n1_ n2_; clear hb ho23; obtain ⟨Ao24, co24, eo24⟩ := Kd.R_slice HO141.out; subst eo24) | ((with_reducible refine gate_callee (f := 13) rfl ?_); refine goesL_ (some 31) rfl rfl Tryz.func13 (by kernel_rfl) rfl #[.int .i64 (l0.length : Int), .slice Ao24 y139.length co24] rfl (by (try simp only [List.map_toArray, List.map_cons, List.map_nil]); first | done | rfl | (simp only [List.length_drop, List.length_take]; rfl)) ?_; (with_reducible refine (faults_Check.calls k (l0.length : Int) _ _ y139 t142 t143 _ ?side1 ?side2 A5.out ⟨Ft.All.stay HT.out (by repeat (first | (with_reducible first | exact HB.out | apply wA | apply wN | apply wD) | exact HB.out | (refine below_set ?_ (by assumption)) | (refine below_set ?_ (Aside0.out (by assumption)))))⟩).mono ?_); (case side1 => repeat (first | exact (Kd.R_reads' HO141.out).2.2 | (with_reducible refine Kd.C_alloc ?_ _) | (with_reducible refine Kd.C_drewN ?_ _) | (with_reducible refine Kd.C_drew ?_))); (case side2 => exact (Kd.R_reads' HO141.out).2.1); rintro e w25 ⟨rfl, hb⟩; refine ⟨_, rfl, ?_⟩; have n0_ := ak (Kd.R_below (by (with_reducible repeat (first | apply Kd.R_alloc | apply Kd.R_drewN | apply Kd.R_drew)); exact HO141.out) hb); have n1_ := ak (blk_below (g := gb135) (o := .cells #[.int .i64 a1_0, .int .i64 a1_1, .int .i64 a1_2, .int .i64 a1_3, .string a1_4, .int .i64 (-1)] 41 (0, 0)) (by (with_reducible repeat (first | refine bN ?_ _ | refine bD ?_ | refine bA ?_ _)); exact BK135.out) hb); have n2_ := ak (below_step (by repeat (first | (with_reducible first | exact HB.out | apply wA | apply wN | apply wD | refine below_set ?_ GE135.out) | exact HB.out)) hb); clear HO141; clear BK135; clear HB; have HO141 := n0_; have BK135 := n1_; have HB := n2_; clear n0_ n1_ n2_; (try clear hb); (try clear hb2); (try clear hk); (try clear hi); have hcz26_0 : w25.cell? ⟨gb135, 0, none⟩ = some (.int .i64 a1_0) := (blk_cell BK135.out 0).trans rfl; have hcz26_1 : w25.cell? ⟨gb135, 1, none⟩ = some (.int .i64 a1_1) := (blk_cell BK135.out 1).trans rfl; have hcz26_2 : w25.cell? ⟨gb135, 2, none⟩ = some (.int .i64 a1_2) := (blk_cell BK135.out 2).trans rfl; have hcz26_3 : w25.cell? ⟨gb135, 3, none⟩ = some (.int .i64 a1_3) := (blk_cell BK135.out 3).trans rfl; have hcz26_4 : w25.cell? ⟨gb135, 4, none⟩ = some (.string a1_4) := (blk_cell BK135.out 4).trans rfl; have hcz26_5 : w25.cell? ⟨gb135, 5, none⟩ = some (.int .i64 (-1)) := (blk_cell BK135.out 5).trans rfl; have hfz26_0 := blk_frozen BK135.out 0; have hfz26_1 := blk_frozen BK135.out 1; have hfz26_2 := blk_frozen BK135.out 2; have hfz26_3 := blk_frozen BK135.out 3; have hfz26_4 := blk_frozen BK135.out 4; have hfz26_5 := blk_frozen BK135.out 5) | ((with_reducible refine gate_callee (f := 15) rfl ?_); refine goesL_ (some 42) rfl rfl Tryz.func15 (by kernel_rfl) rfl #[.slice A0 l0.length c0, .int .i64 a1_2] rfl (by (try simp only [List.map_toArray, List.map_cons, List.map_nil]); first | done | rfl | (simp only [List.length_drop, List.length_take]; rfl)) ?_; (with_reducible refine (faults_Place.calls k _ _ l0 a1_2 t144 t145 t146 _ ?side1 ?side2 A7.out ⟨Ft.All.stay HT.out (by repeat (first | (with_reducible first | exact HB.out | apply wA | apply wN | apply wD) | exact HB.out | (refine below_set ?_ (by assumption)) | (refine below_set ?_ (Aside0.out (by assumption)))))⟩).mono ?_); (case side1 => repeat (first | exact (Kd.C_below HR0.out HB.out) | (with_reducible refine Kd.C_alloc ?_ _) | (with_reducible refine Kd.C_drewN ?_ _) | (with_reducible refine Kd.C_drew ?_))); (case side2 => exact HC0.out); rintro e w27 ⟨rfl, hb⟩; refine ⟨_, rfl, ?_⟩; have n0_ := ak (Kd.R_below (by (with_reducible repeat (first | apply Kd.R_alloc | apply Kd.R_drewN | apply Kd.R_drew)); exact HO141.out) hb); have n1_ := ak (blk_below (g := gb135) (o := .cells #[.int .i64 a1_0, .int .i64 a1_1, .int .i64 a1_2, .int .i64 a1_3, .string a1_4, .int .i64 (-1)] 41 (0, 0)) (by (with_reducible repeat (first | refine bN ?_ _ | refine bD ?_ | refine bA ?_ _)); exact BK135.out) hb); have n2_ := ak (below_step (by repeat (first | (with_reducible first | exact HB.out | apply wA | apply wN | apply wD | refine below_set ?_ GE135.out) | exact HB.out)) hb); clear HO141; clear BK135; clear HB; have HO141 := n0_; have BK135 := n1_; have HB := n2_; clear n0_ n1_ n2_; (try clear hb); (try clear hb2); (try clear hk); (try clear hi); have hcz28_0 : w27.cell? ⟨gb135, 0, none⟩ = some (.int .i64 a1_0) := (blk_cell BK135.out 0).trans rfl; have hcz28_1 : w27.cell? ⟨gb135, 1, none⟩ = some (.int .i64 a1_1) := (blk_cell BK135.out 1).trans rfl; have hcz28_2 : w27.cell? ⟨gb135, 2, none⟩ = some (.int .i64 a1_2) := (blk_cell BK135.out 2).trans rfl; have hcz28_3 : w27.cell? ⟨gb135, 3, none⟩ = some (.int .i64 a1_3) := (blk_cell BK135.out 3).trans rfl; have hcz28_4 : w27.cell? ⟨gb135, 4, none⟩ = some (.string a1_4) := (blk_cell BK135.out 4).trans rfl; have hcz28_5 : w27.cell? ⟨gb135, 5, none⟩ = some (.int .i64 (-1)) := (blk_cell BK135.out 5).trans rfl; have hfz28_0 := blk_frozen BK135.out 0; have hfz28_1 := blk_frozen BK135.out 1; have hfz28_2 := blk_frozen BK135.out 2; have hfz28_3 := blk_frozen BK135.out 3; have hfz28_4 := blk_frozen BK135.out 4; have hfz28_5 := blk_frozen BK135.out 5) | ((with_reducible refine gate_callee (f := 19) rfl ?_); refine goesL_ (some 49) rfl rfl Tryz.func19 (by kernel_rfl) rfl #[.int .i64 a1_1] rfl (by (try simp only [List.map_toArray, List.map_cons, List.map_nil]); first | done | rfl | (simp only [List.length_drop, List.length_take]; rfl)) ?_; (with_reducible refine (faults_Pass.calls a1_1 t147 t148 _ A8.out ⟨Ft.All.stay HT.out (by repeat (first | (with_reducible first | exact HB.out | apply wA | apply wN | apply wD) | exact HB.out | (refine below_set ?_ (by assumption)) | (refine below_set ?_ (Aside0.out (by assumption)))))⟩).mono ?_); rintro e w29 ⟨rfl, hb⟩; refine ⟨_, rfl, ?_⟩; have n0_ := ak (Kd.R_below (by (with_reducible repeat (first | apply Kd.R_alloc | apply Kd.R_drewN | apply Kd.R_drew)); exact HO141.out) hb); have n1_ := ak (blk_below (g := gb135) (o := .cells #[.int .i64 a1_0, .int .i64 a1_1, .int .i64 a1_2, .int .i64 a1_3, .string a1_4, .int .i64 (-1)] 41 (0, 0)) (by (with_reducible repeat (first | refine bN ?_ _ | refine bD ?_ | refine bA ?_ _)); exact BK135.out) hb); have n2_ := ak (below_step (by repeat (first | (with_reducible first | exact HB.out | apply wA | apply wN | apply wD | refine below_set ?_ GE135.out) | exact HB.out)) hb); clear HO141; clear BK135; clear HB; have HO141 := n0_; have BK135 := n1_; have HB := n2_; clear n0_ n1_ n2_; (try clear hb); (try clear hb2); (try clear hk); (try clear hi); have hcz30_0 : w29.cell? ⟨gb135, 0, none⟩ = some (.int .i64 a1_0) := (blk_cell BK135.out 0).trans rfl; have hcz30_1 : w29.cell? ⟨gb135, 1, none⟩ = some (.int .i64 a1_1) := (blk_cell BK135.out 1).trans rfl; have hcz30_2 : w29.cell? ⟨gb135, 2, none⟩ = some (.int .i64 a1_2) := (blk_cell BK135.out 2).trans rfl; have hcz30_3 : w29.cell? ⟨gb135, 3, none⟩ = some (.int .i64 a1_3) := (blk_cell BK135.out 3).trans rfl; have hcz30_4 : w29.cell? ⟨gb135, 4, none⟩ = some (.string a1_4) := (blk_cell BK135.out 4).trans rfl; have hcz30_5 : w29.cell? ⟨gb135, 5, none⟩ = some (.int .i64 (-1)) := (blk_cell BK135.out 5).trans rfl; have hfz30_0 := blk_frozen BK135.out 0; have hfz30_1 := blk_frozen BK135.out 1; have hfz30_2 := blk_frozen BK135.out 2; have hfz30_3 := blk_frozen BK135.out 3; have hfz30_4 := blk_frozen BK135.out 4; have hfz30_5 := blk_frozen BK135.out 5) | ((with_reducible refine gate_callee (f := 17) rfl ?_); refine goesL_ (some 55) rfl rfl Tryz.func17 (by kernel_rfl) rfl #[.int .i64 a1_0] rfl (by (try simp only [List.map_toArray, List.map_cons, List.map_nil]); first | done | rfl | (simp only [List.length_drop, List.length_take]; rfl)) ?_; (with_reducible refine (faults_Word.calls a1_0 t149 t150 _ A9.out ⟨Ft.All.stay HT.out (by repeat (first | (with_reducible first | exact HB.out | apply wA | apply wN | apply wD) | exact HB.out | (refine below_set ?_ (by assumption)) | (refine below_set ?_ (Aside0.out (by assumption)))))⟩).mono ?_); rintro e w31 ⟨rfl, hb⟩; refine ⟨_, rfl, ?_⟩; have n0_ := ak (Kd.R_below (by (with_reducible repeat (first | apply Kd.R_alloc | apply Kd.R_drewN | apply Kd.R_drew)); exact HO141.out) hb); have n1_ := ak (blk_below (g := gb135) (o := .cells #[.int .i64 a1_0, .int .i64 a1_1, .int .i64 a1_2, .int .i64 a1_3, .string a1_4, .int .i64 (-1)] 41 (0, 0)) (by (with_reducible repeat (first | refine bN ?_ _ | refine bD ?_ | refine bA ?_ _)); exact BK135.out) hb); have n2_ := ak (below_step (by repeat (first | (with_reducible first | exact HB.out | apply wA | apply wN | apply wD | refine below_set ?_ GE135.out) | exact HB.out)) hb); clear HO141; clear BK135; clear HB; have HO141 := n0_; have BK135 := n1_; have HB := n2_; clear n0_ n1_ n2_; (try clear hb); (try clear hb2); (try clear hk); (try clear hi)) | ((with_reducible refine gate_callee (f := 54) rfl ?_); refine goesL_ (some 59) rfl rfl Tryz.func54 (by kernel_rfl) rfl #[.int .i64 t144] rfl (by (try simp only [List.map_toArray, List.map_cons, List.map_nil]); first | done | rfl | (simp only [List.length_drop, List.length_take]; rfl)) ?_; (with_reducible refine (strconv_Itoa_54.calls t144 t151 _ A10.out ⟨Ft.All.stay HT.out (by repeat (first | (with_reducible first | exact HB.out | apply wA | apply wN | apply wD) | exact HB.out | (refine below_set ?_ (by assumption)) | (refine below_set ?_ (Aside0.out (by assumption)))))⟩).mono ?_); rintro e w32 ⟨rfl, hb⟩; refine ⟨_, rfl, ?_⟩; have n0_ := ak (Kd.R_below (by (with_reducible repeat (first | apply Kd.R_alloc | apply Kd.R_drewN | apply Kd.R_drew)); exact HO141.out) hb); have n1_ := ak (blk_below (g := gb135) (o := .cells #[.int .i64 a1_0, .int .i64 a1_1, .int .i64 a1_2, .int .i64 a1_3, .string a1_4, .int .i64 (-1)] 41 (0, 0)) (by (with_reducible repeat (first | refine bN ?_ _ | refine bD ?_ | refine bA ?_ _)); exact BK135.out) hb); have n2_ := ak (below_step (by repeat (first | (with_reducible first | exact HB.out | apply wA | apply wN | apply wD | refine below_set ?_ GE135.out) | exact HB.out)) hb); clear HO141; clear BK135; clear HB; have HO141 := n0_; have BK135 := n1_; have HB := n2_; clear n0_ n1_ n2_; (try clear hb); (try clear hb2); (try clear hk); (try clear hi)) | ((with_reducible refine gate_callee (f := 54) rfl ?_); refine goesL_ (some 62) rfl rfl Tryz.func54 (by kernel_rfl) rfl #[.int .i64 t145] rfl (by (try simp only [List.map_toArray, List.map_cons, List.map_nil]); first | done | rfl | (simp only [List.length_drop, List.length_take]; rfl)) ?_; (with_reducible refine (strconv_Itoa_54.calls t145 t152 _ A12.out ⟨Ft.All.stay HT.out (by repeat (first | (with_reducible first | exact HB.out | apply wA | apply wN | apply wD) | exact HB.out | (refine below_set ?_ (by assumption)) | (refine below_set ?_ (Aside0.out (by assumption)))))⟩).mono ?_); rintro e w33 ⟨rfl, hb⟩; refine ⟨_, rfl, ?_⟩; have n0_ := ak (Kd.R_below (by (with_reducible repeat (first | apply Kd.R_alloc | apply Kd.R_drewN | apply Kd.R_drew)); exact HO141.out) hb); have n1_ := ak (blk_below (g := gb135) (o := .cells #[.int .i64 a1_0, .int .i64 a1_1, .int .i64 a1_2, .int .i64 a1_3, .string a1_4, .int .i64 (-1)] 41 (0, 0)) (by (with_reducible repeat (first | refine bN ?_ _ | refine bD ?_ | refine bA ?_ _)); exact BK135.out) hb); have n2_ := ak (below_step (by repeat (first | (with_reducible first | exact HB.out | apply wA | apply wN | apply wD | refine below_set ?_ GE135.out) | exact HB.out)) hb); clear HO141; clear BK135; clear HB; have HO141 := n0_; have BK135 := n1_; have HB := n2_; clear n0_ n1_ n2_; (try clear hb); (try clear hb2); (try clear hk); (try clear hi); have hcz34_0 : w33.cell? ⟨gb135, 0, none⟩ = some (.int .i64 a1_0) := (blk_cell BK135.out 0).trans rfl; have hcz34_1 : w33.cell? ⟨gb135, 1, none⟩ = some (.int .i64 a1_1) := (blk_cell BK135.out 1).trans rfl; have hcz34_2 : w33.cell? ⟨gb135, 2, none⟩ = some (.int .i64 a1_2) := (blk_cell BK135.out 2).trans rfl; have hcz34_3 : w33.cell? ⟨gb135, 3, none⟩ = some (.int .i64 a1_3) := (blk_cell BK135.out 3).trans rfl; have hcz34_4 : w33.cell? ⟨gb135, 4, none⟩ = some (.string a1_4) := (blk_cell BK135.out 4).trans rfl; have hcz34_5 : w33.cell? ⟨gb135, 5, none⟩ = some (.int .i64 (-1)) := (blk_cell BK135.out 5).trans rfl; have hfz34_0 := blk_frozen BK135.out 0; have hfz34_1 := blk_frozen BK135.out 1; have hfz34_2 := blk_frozen BK135.out 2; have hfz34_3 := blk_frozen BK135.out 3; have hfz34_4 := blk_frozen BK135.out 4; have hfz34_5 := blk_frozen BK135.out 5))
                    go_ret2
                    exact ⟨by first | rfl | (simp [errW_none, errW_some] <;> rfl) | (simp [*, errW_none, errW_some] <;> rfl), by repeat (first | (with_reducible first | exact HB.out | apply wA | apply wN | apply wD | refine below_set ?_ GE135.out) | exact HB.out)⟩
                  · rw [if_neg c18] at H
                    have c18b0 : (a1_4.toList == ([] : List UInt8)) = false := beq_eq_false_iff_ne.mpr c18
                    have c18b1 : (a1_4.toList != ([] : List UInt8)) = true := bne_iff_ne.mpr c18
                    by_cases c35 : 1 + a1_4.size ≤ 9223372036854775807
                    · rw [if_pos c35] at H
                      have c35b0 := eq_true c35
                      have c35b1 : decide (1 + a1_4.size ≤ 9223372036854775807) = true := decide_eq_true c35
                      try have c35b2 : (9223372036854775807 < 1 + a1_4.size) = False := eq_false (Nat.not_lt.2 c35)
                      by_cases c36 : ((((((t151 ++ (⟨#[58]⟩ : ByteArray)) ++ t152) ++ (⟨#[58, 32]⟩ : ByteArray)) ++ t147) ++ (⟨#[58, 32]⟩ : ByteArray)) ++ t149).size + ((⟨#[32]⟩ : ByteArray) ++ a1_4).size ≤ 9223372036854775807
                      · rw [if_pos c36] at H
                        have c36b0 := eq_true c36
                        have c36b1 : decide (((((((t151 ++ (⟨#[58]⟩ : ByteArray)) ++ t152) ++ (⟨#[58, 32]⟩ : ByteArray)) ++ t147) ++ (⟨#[58, 32]⟩ : ByteArray)) ++ t149).size + ((⟨#[32]⟩ : ByteArray) ++ a1_4).size ≤ 9223372036854775807) = true := decide_eq_true c36
                        try have c36b2 : (9223372036854775807 < ((((((t151 ++ (⟨#[58]⟩ : ByteArray)) ++ t152) ++ (⟨#[58, 32]⟩ : ByteArray)) ++ t147) ++ (⟨#[58, 32]⟩ : ByteArray)) ++ t149).size + ((⟨#[32]⟩ : ByteArray) ++ a1_4).size) = False := eq_false (Nat.not_lt.2 c36)
                        try have c36b7 : (9223372036854775807 < t151.size + 1 + t152.size + 2 + t147.size + 2 + t149.size + 1 + a1_4.size) = False := by have h7_ := c36; simp only [ByteArray.size_append] at h7_; exact eq_false (Nat.not_lt.2 h7_)
                        simp only [Option.some.injEq, Prod.mk.injEq] at H
                        obtain ⟨rfl, rfl⟩ := H
                        go_enter Tryz.func23, Tryz.ntmps23
                        go_wp2_with (first | ((with_reducible refine gate_dst (N := 3) rfl ?_); refine box_event ?hg (N := 3) ?hd (cs := #[.int .i64 a1_0, .int .i64 a1_1, .int .i64 a1_2, .int .i64 a1_3, .string a1_4, .int .i64 a1_5]) (t := 41) ?hr ?_; (case hd => rfl); (case hg => rfl); (case hr => first | (go_simp; done) | (go_simp; rfl)); intro gb135 hg w37 hbox hb; have n0_ := ak (below_step (by repeat (first | (with_reducible first | exact HB.out | apply wA | apply wN | apply wD) | exact HB.out)) hb); have n1_ := ak (hbox); have n2_ := ak ((by rw [hg]; exact (below_size (by repeat (first | (with_reducible first | exact HB.out | apply wA | apply wN | apply wD) | exact HB.out))) : w.heap.size ≤ gb135)); have n3_ := ak ((by rw [hg]; exact (below_size (by repeat (first | (with_reducible first | exact HB.out | apply wA | apply wN | apply wD) | exact HB.out))) : w.heap.size ≤ gb135)); clear HB; have HB := n0_; have BK135 := n1_; have GW135 := n2_; have GE135 := n3_; clear n0_ n1_ n2_ n3_; clear hb hbox hg) | ((with_reducible refine gate_callee (f := 15) rfl ?_); refine goesL_ (some 18) rfl rfl Tryz.func15 (by kernel_rfl) rfl #[.slice A0 l0.length c0, .int .i64 0] rfl (by (try simp only [List.map_toArray, List.map_cons, List.map_nil]); first | done | rfl | (simp only [List.length_drop, List.length_take]; rfl)) ?_; (with_reducible refine (faults_Place.calls k _ _ l0 0 t136 t137 t138 _ ?side1 ?side2 A3.out ⟨Ft.All.stay HT.out (by repeat (first | (with_reducible first | exact HB.out | apply wA | apply wN | apply wD) | exact HB.out | (refine below_set ?_ (by assumption)) | (refine below_set ?_ (Aside0.out (by assumption)))))⟩).mono ?_); (case side1 => repeat (first | exact (Kd.C_below HR0.out HB.out) | (with_reducible refine Kd.C_alloc ?_ _) | (with_reducible refine Kd.C_drewN ?_ _) | (with_reducible refine Kd.C_drew ?_))); (case side2 => exact HC0.out); rintro e w38 ⟨rfl, hb⟩; refine ⟨_, rfl, ?_⟩; have n0_ := ak (blk_below (g := gb135) (o := .cells #[.int .i64 a1_0, .int .i64 a1_1, .int .i64 a1_2, .int .i64 a1_3, .string a1_4, .int .i64 a1_5] 41 (0, 0)) (by (with_reducible repeat (first | refine bN ?_ _ | refine bD ?_ | refine bA ?_ _)); exact BK135.out) hb); have n1_ := ak (below_step (by repeat (first | (with_reducible first | exact HB.out | apply wA | apply wN | apply wD | refine below_set ?_ GE135.out) | exact HB.out)) hb); clear BK135; clear HB; have BK135 := n0_; have HB := n1_; clear n0_ n1_; (try clear hb); (try clear hb2); (try clear hk); (try clear hi); have hcz39_0 : w38.cell? ⟨gb135, 0, none⟩ = some (.int .i64 a1_0) := (blk_cell BK135.out 0).trans rfl; have hcz39_1 : w38.cell? ⟨gb135, 1, none⟩ = some (.int .i64 a1_1) := (blk_cell BK135.out 1).trans rfl; have hcz39_2 : w38.cell? ⟨gb135, 2, none⟩ = some (.int .i64 a1_2) := (blk_cell BK135.out 2).trans rfl; have hcz39_3 : w38.cell? ⟨gb135, 3, none⟩ = some (.int .i64 a1_3) := (blk_cell BK135.out 3).trans rfl; have hcz39_4 : w38.cell? ⟨gb135, 4, none⟩ = some (.string a1_4) := (blk_cell BK135.out 4).trans rfl; have hcz39_5 : w38.cell? ⟨gb135, 5, none⟩ = some (.int .i64 a1_5) := (blk_cell BK135.out 5).trans rfl; have hfz39_0 := blk_frozen BK135.out 0; have hfz39_1 := blk_frozen BK135.out 1; have hfz39_2 := blk_frozen BK135.out 2; have hfz39_3 := blk_frozen BK135.out 3; have hfz39_4 := blk_frozen BK135.out 4; have hfz39_5 := blk_frozen BK135.out 5) | ((with_reducible refine gate_dst (N := 30) rfl ?_); refine Kd.R_lit k41 _ 41 ?hg (N := 30) ?hd (xs := ([(⟨a1_0, a1_1, (⟨a1_2, a1_3⟩ : S39), a1_4, (-1)⟩ : S41)] : List (S41))) (inner := [.int .i64 a1_0, .int .i64 a1_1, .int .i64 a1_2, .int .i64 a1_3, .string a1_4, .int .i64 (-1)]) (ok := fun _ => True) (okp := fun _ => True) ?hr ?hp (fun _ hk => hk) trivial (Below.refl _ _) (Nat.le_refl _) (by simp) ?_; (case hd => rfl); (case hg => rfl); (case hr => first | (go_simp; done) | (go_simp; rfl)); (case hp => exact (Reps.c6 (show Kd.M k41 _ _ _ (⟨a1_0, a1_1, (⟨a1_2, a1_3⟩ : S39), a1_4, (-1)⟩ : S41) [.int .i64 a1_0, .int .i64 a1_1, .int .i64 a1_2, .int .i64 a1_3, .string a1_4, .int .i64 (-1)] from (k41_mkM _ _ _ (⟨a1_0, a1_1, (⟨a1_2, a1_3⟩ : S39), a1_4, (-1)⟩ : S41) )) (Reps.none _ _))); intro v140 w40 ho41 hb hg_ hnew_; clear hg_ hnew_; (first | rw [← Ny139.out] at ho41 | (simp only [Int.reduceToNat] at ho41; rw [← Ny139.out] at ho41)); have n0_ := ak (Kd.R_lower (Kd.R_newB ho41 (g := gb135) (o := .cells #[.int .i64 a1_0, .int .i64 a1_1, .int .i64 a1_2, .int .i64 a1_3, .string a1_4, .int .i64 (-1)] 41 (0, 0)) (by (with_reducible repeat (first | refine bN ?_ _ | refine bD ?_ | refine bA ?_ _)); refine blk_put (cs := #[.int .i64 a1_0, .int .i64 a1_1, .int .i64 a1_2, .int .i64 a1_3, .string a1_4, .int .i64 a1_5]) ?_ 5 _ rfl; (with_reducible repeat (first | refine bN ?_ _ | refine bD ?_ | refine bA ?_ _)); exact BK135.out)) (below_size (by repeat (first | (with_reducible first | exact HB.out | apply wA | apply wN | apply wD | refine below_set ?_ GE135.out) | exact HB.out)))); have n1_ := ak (blk_below (g := gb135) (o := .cells #[.int .i64 a1_0, .int .i64 a1_1, .int .i64 a1_2, .int .i64 a1_3, .string a1_4, .int .i64 (-1)] 41 (0, 0)) (by (with_reducible repeat (first | refine bN ?_ _ | refine bD ?_ | refine bA ?_ _)); refine blk_put (cs := #[.int .i64 a1_0, .int .i64 a1_1, .int .i64 a1_2, .int .i64 a1_3, .string a1_4, .int .i64 a1_5]) ?_ 5 _ rfl; (with_reducible repeat (first | refine bN ?_ _ | refine bD ?_ | refine bA ?_ _)); exact BK135.out) hb); have n2_ := ak (below_step (by repeat (first | (with_reducible first | exact HB.out | apply wA | apply wN | apply wD | refine below_set ?_ GE135.out) | exact HB.out)) hb); clear BK135; clear HB; have HO141 := n0_; have BK135 := n1_; have HB := n2_; clear n0_ n1_ n2_; clear hb ho41; obtain ⟨Ao42, co42, eo42⟩ := Kd.R_slice HO141.out; subst eo42) | ((with_reducible refine gate_callee (f := 13) rfl ?_); refine goesL_ (some 31) rfl rfl Tryz.func13 (by kernel_rfl) rfl #[.int .i64 (l0.length : Int), .slice Ao42 y139.length co42] rfl (by (try simp only [List.map_toArray, List.map_cons, List.map_nil]); first | done | rfl | (simp only [List.length_drop, List.length_take]; rfl)) ?_; (with_reducible refine (faults_Check.calls k (l0.length : Int) _ _ y139 t142 t143 _ ?side1 ?side2 A5.out ⟨Ft.All.stay HT.out (by repeat (first | (with_reducible first | exact HB.out | apply wA | apply wN | apply wD) | exact HB.out | (refine below_set ?_ (by assumption)) | (refine below_set ?_ (Aside0.out (by assumption)))))⟩).mono ?_); (case side1 => repeat (first | exact (Kd.R_reads' HO141.out).2.2 | (with_reducible refine Kd.C_alloc ?_ _) | (with_reducible refine Kd.C_drewN ?_ _) | (with_reducible refine Kd.C_drew ?_))); (case side2 => exact (Kd.R_reads' HO141.out).2.1); rintro e w43 ⟨rfl, hb⟩; refine ⟨_, rfl, ?_⟩; have n0_ := ak (Kd.R_below (by (with_reducible repeat (first | apply Kd.R_alloc | apply Kd.R_drewN | apply Kd.R_drew)); exact HO141.out) hb); have n1_ := ak (blk_below (g := gb135) (o := .cells #[.int .i64 a1_0, .int .i64 a1_1, .int .i64 a1_2, .int .i64 a1_3, .string a1_4, .int .i64 (-1)] 41 (0, 0)) (by (with_reducible repeat (first | refine bN ?_ _ | refine bD ?_ | refine bA ?_ _)); exact BK135.out) hb); have n2_ := ak (below_step (by repeat (first | (with_reducible first | exact HB.out | apply wA | apply wN | apply wD | refine below_set ?_ GE135.out) | exact HB.out)) hb); clear HO141; clear BK135; clear HB; have HO141 := n0_; have BK135 := n1_; have HB := n2_; clear n0_ n1_ n2_; (try clear hb); (try clear hb2); (try clear hk); (try clear hi); have hcz44_0 : w43.cell? ⟨gb135, 0, none⟩ = some (.int .i64 a1_0) := (blk_cell BK135.out 0).trans rfl; have hcz44_1 : w43.cell? ⟨gb135, 1, none⟩ = some (.int .i64 a1_1) := (blk_cell BK135.out 1).trans rfl; have hcz44_2 : w43.cell? ⟨gb135, 2, none⟩ = some (.int .i64 a1_2) := (blk_cell BK135.out 2).trans rfl; have hcz44_3 : w43.cell? ⟨gb135, 3, none⟩ = some (.int .i64 a1_3) := (blk_cell BK135.out 3).trans rfl; have hcz44_4 : w43.cell? ⟨gb135, 4, none⟩ = some (.string a1_4) := (blk_cell BK135.out 4).trans rfl; have hcz44_5 : w43.cell? ⟨gb135, 5, none⟩ = some (.int .i64 (-1)) := (blk_cell BK135.out 5).trans rfl; have hfz44_0 := blk_frozen BK135.out 0; have hfz44_1 := blk_frozen BK135.out 1; have hfz44_2 := blk_frozen BK135.out 2; have hfz44_3 := blk_frozen BK135.out 3; have hfz44_4 := blk_frozen BK135.out 4; have hfz44_5 := blk_frozen BK135.out 5) | ((with_reducible refine gate_callee (f := 15) rfl ?_); refine goesL_ (some 42) rfl rfl Tryz.func15 (by kernel_rfl) rfl #[.slice A0 l0.length c0, .int .i64 a1_2] rfl (by (try simp only [List.map_toArray, List.map_cons, List.map_nil]); first | done | rfl | (simp only [List.length_drop, List.length_take]; rfl)) ?_; (with_reducible refine (faults_Place.calls k _ _ l0 a1_2 t144 t145 t146 _ ?side1 ?side2 A7.out ⟨Ft.All.stay HT.out (by repeat (first | (with_reducible first | exact HB.out | apply wA | apply wN | apply wD) | exact HB.out | (refine below_set ?_ (by assumption)) | (refine below_set ?_ (Aside0.out (by assumption)))))⟩).mono ?_); (case side1 => repeat (first | exact (Kd.C_below HR0.out HB.out) | (with_reducible refine Kd.C_alloc ?_ _) | (with_reducible refine Kd.C_drewN ?_ _) | (with_reducible refine Kd.C_drew ?_))); (case side2 => exact HC0.out); rintro e w45 ⟨rfl, hb⟩; refine ⟨_, rfl, ?_⟩; have n0_ := ak (Kd.R_below (by (with_reducible repeat (first | apply Kd.R_alloc | apply Kd.R_drewN | apply Kd.R_drew)); exact HO141.out) hb); have n1_ := ak (blk_below (g := gb135) (o := .cells #[.int .i64 a1_0, .int .i64 a1_1, .int .i64 a1_2, .int .i64 a1_3, .string a1_4, .int .i64 (-1)] 41 (0, 0)) (by (with_reducible repeat (first | refine bN ?_ _ | refine bD ?_ | refine bA ?_ _)); exact BK135.out) hb); have n2_ := ak (below_step (by repeat (first | (with_reducible first | exact HB.out | apply wA | apply wN | apply wD | refine below_set ?_ GE135.out) | exact HB.out)) hb); clear HO141; clear BK135; clear HB; have HO141 := n0_; have BK135 := n1_; have HB := n2_; clear n0_ n1_ n2_; (try clear hb); (try clear hb2); (try clear hk); (try clear hi); have hcz46_0 : w45.cell? ⟨gb135, 0, none⟩ = some (.int .i64 a1_0) := (blk_cell BK135.out 0).trans rfl; have hcz46_1 : w45.cell? ⟨gb135, 1, none⟩ = some (.int .i64 a1_1) := (blk_cell BK135.out 1).trans rfl; have hcz46_2 : w45.cell? ⟨gb135, 2, none⟩ = some (.int .i64 a1_2) := (blk_cell BK135.out 2).trans rfl; have hcz46_3 : w45.cell? ⟨gb135, 3, none⟩ = some (.int .i64 a1_3) := (blk_cell BK135.out 3).trans rfl; have hcz46_4 : w45.cell? ⟨gb135, 4, none⟩ = some (.string a1_4) := (blk_cell BK135.out 4).trans rfl; have hcz46_5 : w45.cell? ⟨gb135, 5, none⟩ = some (.int .i64 (-1)) := (blk_cell BK135.out 5).trans rfl; have hfz46_0 := blk_frozen BK135.out 0; have hfz46_1 := blk_frozen BK135.out 1; have hfz46_2 := blk_frozen BK135.out 2; have hfz46_3 := blk_frozen BK135.out 3; have hfz46_4 := blk_frozen BK135.out 4; have hfz46_5 := blk_frozen BK135.out 5) | ((with_reducible refine gate_callee (f := 19) rfl ?_); refine goesL_ (some 49) rfl rfl Tryz.func19 (by kernel_rfl) rfl #[.int .i64 a1_1] rfl (by (try simp only [List.map_toArray, List.map_cons, List.map_nil]); first | done | rfl | (simp only [List.length_drop, List.length_take]; rfl)) ?_; (with_reducible refine (faults_Pass.calls a1_1 t147 t148 _ A8.out ⟨Ft.All.stay HT.out (by repeat (first | (with_reducible first | exact HB.out | apply wA | apply wN | apply wD) | exact HB.out | (refine below_set ?_ (by assumption)) | (refine below_set ?_ (Aside0.out (by assumption)))))⟩).mono ?_); rintro e w47 ⟨rfl, hb⟩; refine ⟨_, rfl, ?_⟩; have n0_ := ak (Kd.R_below (by (with_reducible repeat (first | apply Kd.R_alloc | apply Kd.R_drewN | apply Kd.R_drew)); exact HO141.out) hb); have n1_ := ak (blk_below (g := gb135) (o := .cells #[.int .i64 a1_0, .int .i64 a1_1, .int .i64 a1_2, .int .i64 a1_3, .string a1_4, .int .i64 (-1)] 41 (0, 0)) (by (with_reducible repeat (first | refine bN ?_ _ | refine bD ?_ | refine bA ?_ _)); exact BK135.out) hb); have n2_ := ak (below_step (by repeat (first | (with_reducible first | exact HB.out | apply wA | apply wN | apply wD | refine below_set ?_ GE135.out) | exact HB.out)) hb); clear HO141; clear BK135; clear HB; have HO141 := n0_; have BK135 := n1_; have HB := n2_; clear n0_ n1_ n2_; (try clear hb); (try clear hb2); (try clear hk); (try clear hi); have hcz48_0 : w47.cell? ⟨gb135, 0, none⟩ = some (.int .i64 a1_0) := (blk_cell BK135.out 0).trans rfl; have hcz48_1 : w47.cell? ⟨gb135, 1, none⟩ = some (.int .i64 a1_1) := (blk_cell BK135.out 1).trans rfl; have hcz48_2 : w47.cell? ⟨gb135, 2, none⟩ = some (.int .i64 a1_2) := (blk_cell BK135.out 2).trans rfl; have hcz48_3 : w47.cell? ⟨gb135, 3, none⟩ = some (.int .i64 a1_3) := (blk_cell BK135.out 3).trans rfl; have hcz48_4 : w47.cell? ⟨gb135, 4, none⟩ = some (.string a1_4) := (blk_cell BK135.out 4).trans rfl; have hcz48_5 : w47.cell? ⟨gb135, 5, none⟩ = some (.int .i64 (-1)) := (blk_cell BK135.out 5).trans rfl; have hfz48_0 := blk_frozen BK135.out 0; have hfz48_1 := blk_frozen BK135.out 1; have hfz48_2 := blk_frozen BK135.out 2; have hfz48_3 := blk_frozen BK135.out 3; have hfz48_4 := blk_frozen BK135.out 4; have hfz48_5 := blk_frozen BK135.out 5) | ((with_reducible refine gate_callee (f := 17) rfl ?_); refine goesL_ (some 55) rfl rfl Tryz.func17 (by kernel_rfl) rfl #[.int .i64 a1_0] rfl (by (try simp only [List.map_toArray, List.map_cons, List.map_nil]); first | done | rfl | (simp only [List.length_drop, List.length_take]; rfl)) ?_; (with_reducible refine (faults_Word.calls a1_0 t149 t150 _ A9.out ⟨Ft.All.stay HT.out (by repeat (first | (with_reducible first | exact HB.out | apply wA | apply wN | apply wD) | exact HB.out | (refine below_set ?_ (by assumption)) | (refine below_set ?_ (Aside0.out (by assumption)))))⟩).mono ?_); rintro e w49 ⟨rfl, hb⟩; refine ⟨_, rfl, ?_⟩; have n0_ := ak (Kd.R_below (by (with_reducible repeat (first | apply Kd.R_alloc | apply Kd.R_drewN | apply Kd.R_drew)); exact HO141.out) hb); have n1_ := ak (blk_below (g := gb135) (o := .cells #[.int .i64 a1_0, .int .i64 a1_1, .int .i64 a1_2, .int .i64 a1_3, .string a1_4, .int .i64 (-1)] 41 (0, 0)) (by (with_reducible repeat (first | refine bN ?_ _ | refine bD ?_ | refine bA ?_ _)); exact BK135.out) hb); have n2_ := ak (below_step (by repeat (first | (with_reducible first | exact HB.out | apply wA | apply wN | apply wD | refine below_set ?_ GE135.out) | exact HB.out)) hb); clear HO141; clear BK135; clear HB; have HO141 := n0_; have BK135 := n1_; have HB := n2_; clear n0_ n1_ n2_; (try clear hb); (try clear hb2); (try clear hk); (try clear hi)) | ((with_reducible refine gate_callee (f := 54) rfl ?_); refine goesL_ (some 59) rfl rfl Tryz.func54 (by kernel_rfl) rfl #[.int .i64 t144] rfl (by (try simp only [List.map_toArray, List.map_cons, List.map_nil]); first | done | rfl | (simp only [List.length_drop, List.length_take]; rfl)) ?_; (with_reducible refine (strconv_Itoa_54.calls t144 t151 _ A10.out ⟨Ft.All.stay HT.out (by repeat (first | (with_reducible first | exact HB.out | apply wA | apply wN | apply wD) | exact HB.out | (refine below_set ?_ (by assumption)) | (refine below_set ?_ (Aside0.out (by assumption)))))⟩).mono ?_); rintro e w50 ⟨rfl, hb⟩; refine ⟨_, rfl, ?_⟩; have n0_ := ak (Kd.R_below (by (with_reducible repeat (first | apply Kd.R_alloc | apply Kd.R_drewN | apply Kd.R_drew)); exact HO141.out) hb); have n1_ := ak (blk_below (g := gb135) (o := .cells #[.int .i64 a1_0, .int .i64 a1_1, .int .i64 a1_2, .int .i64 a1_3, .string a1_4, .int .i64 (-1)] 41 (0, 0)) (by (with_reducible repeat (first | refine bN ?_ _ | refine bD ?_ | refine bA ?_ _)); exact BK135.out) hb); have n2_ := ak (below_step (by repeat (first | (with_reducible first | exact HB.out | apply wA | apply wN | apply wD | refine below_set ?_ GE135.out) | exact HB.out)) hb); clear HO141; clear BK135; clear HB; have HO141 := n0_; have BK135 := n1_; have HB := n2_; clear n0_ n1_ n2_; (try clear hb); (try clear hb2); (try clear hk); (try clear hi)) | ((with_reducible refine gate_callee (f := 54) rfl ?_); refine goesL_ (some 62) rfl rfl Tryz.func54 (by kernel_rfl) rfl #[.int .i64 t145] rfl (by (try simp only [List.map_toArray, List.map_cons, List.map_nil]); first | done | rfl | (simp only [List.length_drop, List.length_take]; rfl)) ?_; (with_reducible refine (strconv_Itoa_54.calls t145 t152 _ A12.out ⟨Ft.All.stay HT.out (by repeat (first | (with_reducible first | exact HB.out | apply wA | apply wN | apply wD) | exact HB.out | (refine below_set ?_ (by assumption)) | (refine below_set ?_ (Aside0.out (by assumption)))))⟩).mono ?_); rintro e w51 ⟨rfl, hb⟩; refine ⟨_, rfl, ?_⟩; have n0_ := ak (Kd.R_below (by (with_reducible repeat (first | apply Kd.R_alloc | apply Kd.R_drewN | apply Kd.R_drew)); exact HO141.out) hb); have n1_ := ak (blk_below (g := gb135) (o := .cells #[.int .i64 a1_0, .int .i64 a1_1, .int .i64 a1_2, .int .i64 a1_3, .string a1_4, .int .i64 (-1)] 41 (0, 0)) (by (with_reducible repeat (first | refine bN ?_ _ | refine bD ?_ | refine bA ?_ _)); exact BK135.out) hb); have n2_ := ak (below_step (by repeat (first | (with_reducible first | exact HB.out | apply wA | apply wN | apply wD | refine below_set ?_ GE135.out) | exact HB.out)) hb); clear HO141; clear BK135; clear HB; have HO141 := n0_; have BK135 := n1_; have HB := n2_; clear n0_ n1_ n2_; (try clear hb); (try clear hb2); (try clear hk); (try clear hi); have hcz52_0 : w51.cell? ⟨gb135, 0, none⟩ = some (.int .i64 a1_0) := (blk_cell BK135.out 0).trans rfl; have hcz52_1 : w51.cell? ⟨gb135, 1, none⟩ = some (.int .i64 a1_1) := (blk_cell BK135.out 1).trans rfl; have hcz52_2 : w51.cell? ⟨gb135, 2, none⟩ = some (.int .i64 a1_2) := (blk_cell BK135.out 2).trans rfl; have hcz52_3 : w51.cell? ⟨gb135, 3, none⟩ = some (.int .i64 a1_3) := (blk_cell BK135.out 3).trans rfl; have hcz52_4 : w51.cell? ⟨gb135, 4, none⟩ = some (.string a1_4) := (blk_cell BK135.out 4).trans rfl; have hcz52_5 : w51.cell? ⟨gb135, 5, none⟩ = some (.int .i64 (-1)) := (blk_cell BK135.out 5).trans rfl; have hfz52_0 := blk_frozen BK135.out 0; have hfz52_1 := blk_frozen BK135.out 1; have hfz52_2 := blk_frozen BK135.out 2; have hfz52_3 := blk_frozen BK135.out 3; have hfz52_4 := blk_frozen BK135.out 4; have hfz52_5 := blk_frozen BK135.out 5))
                        go_ret2
                        exact ⟨by first | rfl | (simp [errW_none, errW_some] <;> rfl) | (simp [*, errW_none, errW_some] <;> rfl), by repeat (first | (with_reducible first | exact HB.out | apply wA | apply wN | apply wD | refine below_set ?_ GE135.out) | exact HB.out)⟩
                      · rw [if_neg c36] at H
                        exact absurd H (by simp)
                    · rw [if_neg c35] at H
                      exact absurd H (by simp)
                · rw [if_neg c17] at H
                  exact absurd H (by simp)
              · rw [if_neg c16] at H
                exact absurd H (by simp)
            · rw [if_neg c15] at H
              exact absurd H (by simp)
          · rw [if_neg c14] at H
            exact absurd H (by simp)
        · rw [if_neg c13] at H
          exact absurd H (by simp)
      · rw [if_neg c11] at H
        exact absurd H (by simp)
    · rw [if_neg c6] at H
      have c6b0 : (t143 == 0) = false := beq_eq_false_iff_ne.mpr c6
      have c6b1 : (t143 != 0) = true := bne_iff_ne.mpr c6
      simp only [Option.some.injEq, Prod.mk.injEq] at H
      obtain ⟨rfl, rfl⟩ := H
      go_enter Tryz.func23, Tryz.ntmps23
      go_wp2_with (first | ((with_reducible refine gate_dst (N := 3) rfl ?_); refine box_event ?hg (N := 3) ?hd (cs := #[.int .i64 a1_0, .int .i64 a1_1, .int .i64 a1_2, .int .i64 a1_3, .string a1_4, .int .i64 a1_5]) (t := 41) ?hr ?_; (case hd => rfl); (case hg => rfl); (case hr => first | (go_simp; done) | (go_simp; rfl)); intro gb135 hg w53 hbox hb; have n0_ := ak (below_step (by repeat (first | (with_reducible first | exact HB.out | apply wA | apply wN | apply wD) | exact HB.out)) hb); have n1_ := ak (hbox); have n2_ := ak ((by rw [hg]; exact (below_size (by repeat (first | (with_reducible first | exact HB.out | apply wA | apply wN | apply wD) | exact HB.out))) : w.heap.size ≤ gb135)); have n3_ := ak ((by rw [hg]; exact (below_size (by repeat (first | (with_reducible first | exact HB.out | apply wA | apply wN | apply wD) | exact HB.out))) : w.heap.size ≤ gb135)); clear HB; have HB := n0_; have BK135 := n1_; have GW135 := n2_; have GE135 := n3_; clear n0_ n1_ n2_ n3_; clear hb hbox hg) | ((with_reducible refine gate_callee (f := 15) rfl ?_); refine goesL_ (some 18) rfl rfl Tryz.func15 (by kernel_rfl) rfl #[.slice A0 l0.length c0, .int .i64 0] rfl (by (try simp only [List.map_toArray, List.map_cons, List.map_nil]); first | done | rfl | (simp only [List.length_drop, List.length_take]; rfl)) ?_; (with_reducible refine (faults_Place.calls k _ _ l0 0 t136 t137 t138 _ ?side1 ?side2 A3.out ⟨Ft.All.stay HT.out (by repeat (first | (with_reducible first | exact HB.out | apply wA | apply wN | apply wD) | exact HB.out | (refine below_set ?_ (by assumption)) | (refine below_set ?_ (Aside0.out (by assumption)))))⟩).mono ?_); (case side1 => repeat (first | exact (Kd.C_below HR0.out HB.out) | (with_reducible refine Kd.C_alloc ?_ _) | (with_reducible refine Kd.C_drewN ?_ _) | (with_reducible refine Kd.C_drew ?_))); (case side2 => exact HC0.out); rintro e w54 ⟨rfl, hb⟩; refine ⟨_, rfl, ?_⟩; have n0_ := ak (blk_below (g := gb135) (o := .cells #[.int .i64 a1_0, .int .i64 a1_1, .int .i64 a1_2, .int .i64 a1_3, .string a1_4, .int .i64 a1_5] 41 (0, 0)) (by (with_reducible repeat (first | refine bN ?_ _ | refine bD ?_ | refine bA ?_ _)); exact BK135.out) hb); have n1_ := ak (below_step (by repeat (first | (with_reducible first | exact HB.out | apply wA | apply wN | apply wD | refine below_set ?_ GE135.out) | exact HB.out)) hb); clear BK135; clear HB; have BK135 := n0_; have HB := n1_; clear n0_ n1_; (try clear hb); (try clear hb2); (try clear hk); (try clear hi); have hcz55_0 : w54.cell? ⟨gb135, 0, none⟩ = some (.int .i64 a1_0) := (blk_cell BK135.out 0).trans rfl; have hcz55_1 : w54.cell? ⟨gb135, 1, none⟩ = some (.int .i64 a1_1) := (blk_cell BK135.out 1).trans rfl; have hcz55_2 : w54.cell? ⟨gb135, 2, none⟩ = some (.int .i64 a1_2) := (blk_cell BK135.out 2).trans rfl; have hcz55_3 : w54.cell? ⟨gb135, 3, none⟩ = some (.int .i64 a1_3) := (blk_cell BK135.out 3).trans rfl; have hcz55_4 : w54.cell? ⟨gb135, 4, none⟩ = some (.string a1_4) := (blk_cell BK135.out 4).trans rfl; have hcz55_5 : w54.cell? ⟨gb135, 5, none⟩ = some (.int .i64 a1_5) := (blk_cell BK135.out 5).trans rfl; have hfz55_0 := blk_frozen BK135.out 0; have hfz55_1 := blk_frozen BK135.out 1; have hfz55_2 := blk_frozen BK135.out 2; have hfz55_3 := blk_frozen BK135.out 3; have hfz55_4 := blk_frozen BK135.out 4; have hfz55_5 := blk_frozen BK135.out 5) | ((with_reducible refine gate_dst (N := 30) rfl ?_); refine Kd.R_lit k41 _ 41 ?hg (N := 30) ?hd (xs := ([(⟨a1_0, a1_1, (⟨a1_2, a1_3⟩ : S39), a1_4, (-1)⟩ : S41)] : List (S41))) (inner := [.int .i64 a1_0, .int .i64 a1_1, .int .i64 a1_2, .int .i64 a1_3, .string a1_4, .int .i64 (-1)]) (ok := fun _ => True) (okp := fun _ => True) ?hr ?hp (fun _ hk => hk) trivial (Below.refl _ _) (Nat.le_refl _) (by simp) ?_; (case hd => rfl); (case hg => rfl); (case hr => first | (go_simp; done) | (go_simp; rfl)); (case hp => exact (Reps.c6 (show Kd.M k41 _ _ _ (⟨a1_0, a1_1, (⟨a1_2, a1_3⟩ : S39), a1_4, (-1)⟩ : S41) [.int .i64 a1_0, .int .i64 a1_1, .int .i64 a1_2, .int .i64 a1_3, .string a1_4, .int .i64 (-1)] from (k41_mkM _ _ _ (⟨a1_0, a1_1, (⟨a1_2, a1_3⟩ : S39), a1_4, (-1)⟩ : S41) )) (Reps.none _ _))); intro v140 w56 ho57 hb hg_ hnew_; clear hg_ hnew_; (first | rw [← Ny139.out] at ho57 | (simp only [Int.reduceToNat] at ho57; rw [← Ny139.out] at ho57)); have n0_ := ak (Kd.R_lower (Kd.R_newB ho57 (g := gb135) (o := .cells #[.int .i64 a1_0, .int .i64 a1_1, .int .i64 a1_2, .int .i64 a1_3, .string a1_4, .int .i64 (-1)] 41 (0, 0)) (by (with_reducible repeat (first | refine bN ?_ _ | refine bD ?_ | refine bA ?_ _)); refine blk_put (cs := #[.int .i64 a1_0, .int .i64 a1_1, .int .i64 a1_2, .int .i64 a1_3, .string a1_4, .int .i64 a1_5]) ?_ 5 _ rfl; (with_reducible repeat (first | refine bN ?_ _ | refine bD ?_ | refine bA ?_ _)); exact BK135.out)) (below_size (by repeat (first | (with_reducible first | exact HB.out | apply wA | apply wN | apply wD | refine below_set ?_ GE135.out) | exact HB.out)))); have n1_ := ak (blk_below (g := gb135) (o := .cells #[.int .i64 a1_0, .int .i64 a1_1, .int .i64 a1_2, .int .i64 a1_3, .string a1_4, .int .i64 (-1)] 41 (0, 0)) (by (with_reducible repeat (first | refine bN ?_ _ | refine bD ?_ | refine bA ?_ _)); refine blk_put (cs := #[.int .i64 a1_0, .int .i64 a1_1, .int .i64 a1_2, .int .i64 a1_3, .string a1_4, .int .i64 a1_5]) ?_ 5 _ rfl; (with_reducible repeat (first | refine bN ?_ _ | refine bD ?_ | refine bA ?_ _)); exact BK135.out) hb); have n2_ := ak (below_step (by repeat (first | (with_reducible first | exact HB.out | apply wA | apply wN | apply wD | refine below_set ?_ GE135.out) | exact HB.out)) hb); clear BK135; clear HB; have HO141 := n0_; have BK135 := n1_; have HB := n2_; clear n0_ n1_ n2_; clear hb ho57; obtain ⟨Ao58, co58, eo58⟩ := Kd.R_slice HO141.out; subst eo58) | ((with_reducible refine gate_callee (f := 13) rfl ?_); refine goesL_ (some 31) rfl rfl Tryz.func13 (by kernel_rfl) rfl #[.int .i64 (l0.length : Int), .slice Ao58 y139.length co58] rfl (by (try simp only [List.map_toArray, List.map_cons, List.map_nil]); first | done | rfl | (simp only [List.length_drop, List.length_take]; rfl)) ?_; (with_reducible refine (faults_Check.calls k (l0.length : Int) _ _ y139 t142 t143 _ ?side1 ?side2 A5.out ⟨Ft.All.stay HT.out (by repeat (first | (with_reducible first | exact HB.out | apply wA | apply wN | apply wD) | exact HB.out | (refine below_set ?_ (by assumption)) | (refine below_set ?_ (Aside0.out (by assumption)))))⟩).mono ?_); (case side1 => repeat (first | exact (Kd.R_reads' HO141.out).2.2 | (with_reducible refine Kd.C_alloc ?_ _) | (with_reducible refine Kd.C_drewN ?_ _) | (with_reducible refine Kd.C_drew ?_))); (case side2 => exact (Kd.R_reads' HO141.out).2.1); rintro e w59 ⟨rfl, hb⟩; refine ⟨_, rfl, ?_⟩; have n0_ := ak (Kd.R_below (by (with_reducible repeat (first | apply Kd.R_alloc | apply Kd.R_drewN | apply Kd.R_drew)); exact HO141.out) hb); have n1_ := ak (blk_below (g := gb135) (o := .cells #[.int .i64 a1_0, .int .i64 a1_1, .int .i64 a1_2, .int .i64 a1_3, .string a1_4, .int .i64 (-1)] 41 (0, 0)) (by (with_reducible repeat (first | refine bN ?_ _ | refine bD ?_ | refine bA ?_ _)); exact BK135.out) hb); have n2_ := ak (below_step (by repeat (first | (with_reducible first | exact HB.out | apply wA | apply wN | apply wD | refine below_set ?_ GE135.out) | exact HB.out)) hb); clear HO141; clear BK135; clear HB; have HO141 := n0_; have BK135 := n1_; have HB := n2_; clear n0_ n1_ n2_; (try clear hb); (try clear hb2); (try clear hk); (try clear hi)))
      go_ret2
      exact ⟨by first | rfl | (simp [errW_none, errW_some] <;> rfl) | (simp [*, errW_none, errW_some] <;> rfl), by repeat (first | (with_reducible first | exact HB.out | apply wA | apply wN | apply wD | refine below_set ?_ GE135.out) | exact HB.out)⟩
  · rw [if_neg c4] at H
    have c4b0 : (t138 == 0) = false := beq_eq_false_iff_ne.mpr c4
    have c4b1 : (t138 != 0) = true := bne_iff_ne.mpr c4
    simp only [Option.some.injEq, Prod.mk.injEq] at H
    obtain ⟨rfl, rfl⟩ := H
    go_enter Tryz.func23, Tryz.ntmps23
    go_wp2_with (first | ((with_reducible refine gate_dst (N := 3) rfl ?_); refine box_event ?hg (N := 3) ?hd (cs := #[.int .i64 a1_0, .int .i64 a1_1, .int .i64 a1_2, .int .i64 a1_3, .string a1_4, .int .i64 a1_5]) (t := 41) ?hr ?_; (case hd => rfl); (case hg => rfl); (case hr => first | (go_simp; done) | (go_simp; rfl)); intro gb135 hg w60 hbox hb; have n0_ := ak (below_step (by repeat (first | (with_reducible first | exact HB.out | apply wA | apply wN | apply wD) | exact HB.out)) hb); have n1_ := ak (hbox); have n2_ := ak ((by rw [hg]; exact (below_size (by repeat (first | (with_reducible first | exact HB.out | apply wA | apply wN | apply wD) | exact HB.out))) : w.heap.size ≤ gb135)); have n3_ := ak ((by rw [hg]; exact (below_size (by repeat (first | (with_reducible first | exact HB.out | apply wA | apply wN | apply wD) | exact HB.out))) : w.heap.size ≤ gb135)); clear HB; have HB := n0_; have BK135 := n1_; have GW135 := n2_; have GE135 := n3_; clear n0_ n1_ n2_ n3_; clear hb hbox hg) | ((with_reducible refine gate_callee (f := 15) rfl ?_); refine goesL_ (some 18) rfl rfl Tryz.func15 (by kernel_rfl) rfl #[.slice A0 l0.length c0, .int .i64 0] rfl (by (try simp only [List.map_toArray, List.map_cons, List.map_nil]); first | done | rfl | (simp only [List.length_drop, List.length_take]; rfl)) ?_; (with_reducible refine (faults_Place.calls k _ _ l0 0 t136 t137 t138 _ ?side1 ?side2 A3.out ⟨Ft.All.stay HT.out (by repeat (first | (with_reducible first | exact HB.out | apply wA | apply wN | apply wD) | exact HB.out | (refine below_set ?_ (by assumption)) | (refine below_set ?_ (Aside0.out (by assumption)))))⟩).mono ?_); (case side1 => repeat (first | exact (Kd.C_below HR0.out HB.out) | (with_reducible refine Kd.C_alloc ?_ _) | (with_reducible refine Kd.C_drewN ?_ _) | (with_reducible refine Kd.C_drew ?_))); (case side2 => exact HC0.out); rintro e w61 ⟨rfl, hb⟩; refine ⟨_, rfl, ?_⟩; have n0_ := ak (blk_below (g := gb135) (o := .cells #[.int .i64 a1_0, .int .i64 a1_1, .int .i64 a1_2, .int .i64 a1_3, .string a1_4, .int .i64 a1_5] 41 (0, 0)) (by (with_reducible repeat (first | refine bN ?_ _ | refine bD ?_ | refine bA ?_ _)); exact BK135.out) hb); have n1_ := ak (below_step (by repeat (first | (with_reducible first | exact HB.out | apply wA | apply wN | apply wD | refine below_set ?_ GE135.out) | exact HB.out)) hb); clear BK135; clear HB; have BK135 := n0_; have HB := n1_; clear n0_ n1_; (try clear hb); (try clear hb2); (try clear hk); (try clear hi)))
    go_ret2
    exact ⟨by first | rfl | (simp [errW_none, errW_some] <;> rfl) | (simp [*, errW_none, errW_some] <;> rfl), by repeat (first | (with_reducible first | exact HB.out | apply wA | apply wN | apply wD | refine below_set ?_ GE135.out) | exact HB.out)⟩
end Go.Proofs.YtdjkdlbokepoaaaGreatDoor.P
namespace Go.Proofs.YtdjkdlbokepoaaaGreatDoor.P
open Go.RowKit Go.Proofs.YtdjkdlbokepoaaaGreatDoorW.PrintWords Go.Proofs.YtdjkdlbokepoaaaGreatDoorW.PrintLast Go.Proofs.YtdjkdlbokepoaaaGreatDoorW.PrintMore
attribute [local go_sem] max2_int min2_int max_two min_two max_three min_three max_four min_four   -- for this text's walks alone
set_option linter.unusedVariables false
set_option linter.unusedSimpArgs false
/-- The part of a list ahead of its first 10. -/
def lineL : List Int → List Int
  | [] => []
  | x :: r => if x = 10 then [] else x :: lineL r
/-- How many runes of a line begin in a span. -/
def marksG (s : ByteArray) (fr F T : Int) : Nat → Nat → Int → Int
  | 0, _, c => c
  | k + 1, p, c => if p < s.size then marksG s fr F T k (p + (Utf8.decode s p).2) (if F ≤ (p : Int) + fr ∧ (p : Int) + fr < T then c + 1 else c) else c
def sp3 : ByteArray := ⟨#[10, 32, 32]⟩
def paintF (k : Nat) (l0 : List Int) (x : S41) : Option ByteArray :=
  (faults_Message.f k l0 x.f0 x.f1 x.f2.f0 x.f2.f1 x.f3 x.f4).bind fun m => (faults_Place.f k l0 x.f2.f0).bind fun p =>
    if 0 ≤ x.f2.f0 ∧ x.f2.f0 ≤ (l0.length : Int) ∧ l0.length ≤ 8000 ∧ 1 ≤ p.2.1 ∧ p.2.1 ≤ 100000 ∧ m.1.size ≤ 100000 ∧ Sc.InB l0 = true then
      (bytes_LastIndexByte.f k (l0.take x.f2.f0.toNat) 10).bind fun q =>
        if -1 ≤ q ∧ q < (l0.length : Int) then
          some (((((((m.1 ++ sp3) ++ strOfNums (lineL (l0.drop (q + 1).toNat))) ++ sp3) ++ ⟨(Lib.repeatL [32] (p.2.1 - 1).toNat).toArray⟩) ++
            ⟨(Lib.repeatL [94] (max (marksG (strOfNums (lineL (l0.drop (q + 1).toNat))) (q + 1) x.f2.f0 x.f2.f1 (lineL (l0.drop (q + 1).toNat)).length 0 0) 1).toNat).toArray⟩) ++ ⟨#[10]⟩))
        else none
    else none
theorem lineL_len : ∀ l : List Int, (lineL l).length ≤ l.length
  | [] => Nat.le_refl _
  | x :: r => by
    unfold lineL
    split
    · simp
    · simp only [List.length_cons]; exact Nat.succ_le_succ (lineL_len r)
theorem lineL_take : ∀ l : List Int, lineL l = l.take (lineL l).length
  | [] => rfl
  | x :: r => by
    unfold lineL
    split
    · simp
    · simp only [List.length_cons, List.take_succ_cons]; exact congrArg _ (lineL_take r)
theorem u8_ten {x : Int} (h : 0 ≤ x ∧ x < 256) : (UInt8.ofNat x.toNat == 10) = decide (x = 10) := by
  obtain ⟨n, rfl⟩ := Int.eq_ofNat_of_zero_le h.1
  have hn : n < 256 := by omega
  rw [Int.toNat_natCast]
  by_cases h10 : n = 10
  · subst h10; decide
  · have h1 : UInt8.ofNat n ≠ 10 := fun e => by
      have h2 := congrArg UInt8.toNat e
      rw [UInt8.toNat_ofNat_of_lt' (by simpa using hn)] at h2
      exact h10 (by simpa using h2)
    rw [beq_eq_false_iff_ne.2 h1, eq_comm, decide_eq_false_iff_not]
    omega
theorem InB_cons {x : Int} {r : List Int} (h : Sc.InB (x :: r) = true) : (0 ≤ x ∧ x < 256) ∧ Sc.InB r = true := by
  unfold Sc.InB at h ⊢
  rw [List.all_cons, Bool.and_eq_true] at h
  exact ⟨of_decide_eq_true h.1, h.2⟩
theorem index_line : ∀ l : List Int, Sc.InB l = true → Lib.indexByte (Lib.bytesOf l) 10 = (if (lineL l).length < l.length then ((lineL l).length : Int) else -1)
  | [], _ => by simp [Lib.bytesOf, Lib.indexByte, lineL]
  | x :: r, h => by
    obtain ⟨hx, hr⟩ := InB_cons h
    have ih := index_line r hr
    have hl := lineL_len r
    show (if UInt8.ofNat x.toNat == 10 then (0 : Int) else if Lib.indexByte (Lib.bytesOf r) 10 == -1 then -1 else Lib.indexByte (Lib.bytesOf r) 10 + 1) = _
    rw [u8_ten hx]
    unfold lineL
    by_cases h10 : x = 10
    · simp [h10]
    · rw [ih]
      simp only [h10, decide_false, if_false, List.length_cons]
      by_cases hlt : (lineL r).length < r.length
      · have h1 : (lineL r).length + 1 < r.length + 1 := by omega
        have h0 : (((lineL r).length : Int) == -1) = false := beq_eq_false_iff_ne.2 (by omega)
        simp only [if_pos hlt, if_pos h1, h0]
        simp
      · have h1 : ¬ (lineL r).length + 1 < r.length + 1 := by omega
        simp only [if_neg hlt, if_neg h1]
        rfl
set_option maxHeartbeats 2000000 in
set_option maxRecDepth 1000000 in
theorem ib_none (c : Nat) (cv : Int) (w : World) : Calls Tryz.prog 107 #[.slice none 0 c, .int .u8 cv] w fun e w' => e = .returned (.int .i64 (-1)) ∧ w' = w := by
  go_enter Tryz.func107, Tryz.ntmps107
  go_wp2
  rw [run_callFunc_extern Tryz.func127 (by kernel_rfl) (by kernel_rfl) (by kernel_rfl) (e := Extern.BytealgIndexByte.indexByte) (by kernel_rfl), Lib.run_indexByteNil w 0 c cv]
  simp only [Result.andThen]
  rw [Oper.upon_value]
  go_wp2
  go_ret
  exact ⟨rfl, rfl⟩
set_option maxHeartbeats 2000000 in
set_option maxRecDepth 1000000 in
theorem index_none (b2 o2 d c : Nat) (cv : Int) (w : World) (hc2 : w.cell? ⟨b2, o2, none⟩ = some (.int .u8 cv)) :
    Calls Tryz.prog 85 #[.slice none 0 c, .slice (some ⟨b2, o2, none⟩) 1 d] w fun e w' => e = .returned (.int .i64 (-1)) ∧ w' = w := by
  go_enter Tryz.func85, Tryz.ntmps85
  go_wp2_with (go_at_call 107; refine (ib_none c cv _).mono ?_; rintro e w' ⟨rfl, rfl⟩)
  go_ret
  exact ⟨rfl, rfl⟩
/-- bytes.Cut at one byte 10. -/
theorem cut_calls (A : Option Addr) (c : Nat) (xs : List Int) (g : Nat) (w : World) (hr : Kd.C (Kd.int .u8) w A xs.length xs) (hc : xs.length ≤ c) (hl : xs.length ≤ 8000) (hI : Sc.InB xs = true) (hs : w.cell? ⟨g, 0, none⟩ = some (.int .u8 10)) :
    Calls Tryz.prog 88 #[.slice A xs.length c, .slice (some ⟨g, 0, none⟩) 1 1] w fun e w' => ∃ v2 v3 c', e = .returned (.tuple #[.slice A (lineL xs).length c', v2, v3]) ∧ (lineL xs).length ≤ c' ∧ ∃ q, w' = w.drewN q := by
  have hi := index_line xs hI
  have hll := lineL_len xs
  refine (Tryz.bytes_Cut_of A (some ⟨g, 0, none⟩) xs.length c 1 1 (if (lineL xs).length < xs.length then ((lineL xs).length : Int) else -1) w hc (by split <;> omega) (by split <;> omega) (by omega) ?_).mono ?_
  · rcases Ft.C_cells hr with ⟨rfl, rfl⟩ | ⟨a, rfl, h0⟩
    · refine (index_none g 0 1 c 10 w hs).mono ?_
      rintro e w' ⟨rfl, rfl⟩
      exact ⟨rfl, 0, rfl⟩
    · refine (Tryz.bytes_Index_one_at a xs.length c g 0 1 xs 10 w rfl h0 hs).mono ?_
      rintro e w' ⟨rfl, rfl⟩
      exact ⟨by rw [← hi]; rfl, 0, rfl⟩
  · rintro e w' ⟨rfl, hq⟩
    unfold Lib.cutV
    by_cases hh : (lineL xs).length < xs.length
    · rw [if_pos hh, if_pos (by omega)]
      exact ⟨_, _, c, rfl, by omega, hq⟩
    · rw [if_neg hh, if_neg (by omega)]
      have e1 : (lineL xs).length = xs.length := by omega
      rw [e1]
      exact ⟨_, _, c, rfl, hc, hq⟩
theorem drawn0_of {W W' : World} (h : ∃ q, W' = W.drewN q) : Drawn0 W W' := ⟨h⟩
theorem drawn_below {w W W' : World} (h : Below w.heap.size w W) (hd : Drawn0 W W') : Below w.heap.size w W' := by
  obtain ⟨n, rfl⟩ := hd.out
  exact wN h n
theorem drawn_cell {W W' : World} {a : Addr} {v : Value} (hd : Drawn0 W W') (h : W.cell? a = some v) : W'.cell? a = some v := by
  obtain ⟨n, rfl⟩ := hd.out
  exact h
theorem cell_alloc' {W : World} {a : Addr} {v : Value} (o : Obj) (h : W.cell? a = some v) : (W.alloc o).cell? a = some v := by
  rw [World.cell?_alloc_lt _ _ a (World.block_lt_of_cell? W a h)]
  exact h
theorem marksG_end (s : ByteArray) (fr F T : Int) (k p : Nat) (c : Int) (h : ¬ p < s.size) : marksG s fr F T k p c = c := by
  cases k with
  | zero => rfl
  | succ k => unfold marksG; rw [if_neg h]
theorem marksG_step (s : ByteArray) (fr F T : Int) (k p : Nat) (c : Int) (h : p < s.size) : marksG s fr F T (k + 1) p c = marksG s fr F T k (p + (Utf8.decode s p).2) (if F ≤ (p : Int) + fr ∧ (p : Int) + fr < T then c + 1 else c) := by
  conv => lhs; unfold marksG
  rw [if_pos h]
theorem below_iter {w W : World} (h : Below w.heap.size w W) (s : ByteArray) (p : Nat) : Below w.heap.size w (W.iter s p) := wA h _
theorem iter_cell {W : World} {a : Addr} {v : Value} (s : ByteArray) (p : Nat) (h : W.cell? a = some v) : (W.iter s p).cell? a = some v := cell_alloc' _ h
theorem box_at (w : World) (cs : Array Value) (t : TypeId) (i : Nat) (v : Value) (h : cs[i]? = some v) : (w.alloc (.cells cs t)).cell? ⟨w.heap.size, i, none⟩ = some v := by
  rw [World.cell?_alloc_at _ _ _ _ rfl]
  exact h
theorem InB_drop' {l : List Int} (h : Sc.InB l = true) (i : Nat) : Sc.InB (l.drop i) = true := by
  unfold Sc.InB at h ⊢
  rw [List.all_eq_true] at h ⊢
  exact fun x hx => h x (List.mem_of_mem_drop hx)
set_option maxHeartbeats 8000000 in
set_option maxRecDepth 100000 in
theorem paint_calls (k : Nat) (A0 : Option Addr) (c0 : Nat) (l0 : List Int) (x : S41) (t : ByteArray) (acc : List UInt8) (wB w : World) (hr : Kd.C (Kd.int .u8) wB A0 l0.length l0) (hc0 : l0.length ≤ c0) (hT : Ft.All wB) (hBB : Below wB.heap.size wB w)
    (hBld : Ft.Bld wB.heap.size acc w) (hlen : acc.length ≤ 500000) (ht : t.size ≤ 500000) (h : paintF k l0 x = some t) :
    Calls Tryz.prog 56 #[.pointer (some ⟨wB.heap.size, 0, none⟩), .slice A0 l0.length c0, .agg (cells41 x).toArray] w fun e w' => e = .returned (.tuple #[]) ∧ Ft.Bld wB.heap.size (acc ++ t.data.toList) w' ∧ Below wB.heap.size wB w' := by
  unfold paintF at h
  replace h := Option.bind_eq_some_iff.mp h
  obtain ⟨⟨m1, m2⟩, hm, h⟩ := h
  replace h := Option.bind_eq_some_iff.mp h
  obtain ⟨⟨p1, p2, p3⟩, hp, h⟩ := h
  simp only at h
  by_cases hc : 0 ≤ x.f2.f0 ∧ x.f2.f0 ≤ (l0.length : Int) ∧ l0.length ≤ 8000 ∧ 1 ≤ p2 ∧ p2 ≤ 100000 ∧ m1.size ≤ 100000 ∧ Sc.InB l0 = true
  case neg => rw [if_neg hc] at h; cases h
  rw [if_pos hc] at h
  replace h := Option.bind_eq_some_iff.mp h
  obtain ⟨q, hq, h⟩ := h
  by_cases hc2 : -1 ≤ q ∧ q < (l0.length : Int)
  case neg => rw [if_neg hc2] at h; cases h
  rw [if_pos hc2] at h
  obtain ⟨g0, g1, g2, g3, g4, g5, g6⟩ := hc
  obtain ⟨x0, x1, ⟨F, T⟩, x4, x5⟩ := x
  simp only at hm hp g0 g1 hq h
  have HM := ak hm
  have HP := ak hp
  have HQ := ak hq
  have HR := ak hr
  have HTB := ak hT
  have HBB := ak hBB
  have HBl := ak hBld
  have HI := ak g6
  have hF : F = ((F.toNat : Nat) : Int) := by omega
  obtain ⟨f, hf⟩ : ∃ f : Nat, F.toNat = f := ⟨_, rfl⟩
  rw [hf] at hF hq HQ
  subst hF
  obtain ⟨fr, hfr⟩ : ∃ fr : Nat, (fr : Int) = q + 1 := ⟨(q + 1).toNat, by omega⟩
  have hq1 : q = (fr : Int) - 1 := by omega
  subst hq1
  have e3 : ((fr : Int) - 1 + 1).toNat = fr := by omega
  rw [e3] at h
  have e4 : ((fr : Int) - 1 + 1) = (fr : Int) := by omega
  rw [e4] at h
  have w1_ : IntKind.i64.wrap ((fr : Int) - 1 + 1) = (fr : Int) := by rw [IntKind.wrap_i64]; omega
  have g1' : f ≤ l0.length := by omega
  have hff : (f : Int) ≤ (l0.length : Int) := g1
  have hf0 : (0 : Int) ≤ (f : Int) := by omega
  have hr0 : (0 : Int) ≤ (fr : Int) := by omega
  have hrl : (fr : Int) ≤ (l0.length : Int) := by omega
  have hsB : ∀ (W : World), Below wB.heap.size wB W → Below w.heap.size w W → wB.heap.size ≤ W.heap.size := fun W h _ => h.size
  have hlen0 : (l0.take f).length = f := by rw [List.length_take]; omega
  have HB0 : Aside0 (∀ o, Below wB.heap.size wB (w.alloc o)) := ⟨fun o => wA hBB o⟩
  have HW0 : Aside0 (∀ o, Below w.heap.size w (w.alloc o)) := ⟨fun o => (Below.refl _ w).alloc (Nat.le_refl _) o⟩
  have HQC : Aside0 (∀ W, Below wB.heap.size wB W → Calls Tryz.prog 48 #[.slice A0 f c0, .int .u8 10] W fun e w' => e = .returned (.int .i64 ((fr : Int) - 1)) ∧ Drawn0 W w') := ⟨fun W hW => by
    have h1 := bytes_LastIndexByte.calls k A0 c0 (l0.take f) 10 ((fr : Int) - 1) W (Kd.C_take (m := f) (Kd.C_below hr hW) g1') (by rw [hlen0]; omega) hq
    rw [hlen0] at h1
    exact h1⟩
  obtain ⟨i0, hi0, _, hsz, _⟩ := info_parts info5
  obtain ⟨A', hcut, hA, hC⟩ := print_drop_of (P := Tryz.prog) (Value.int .u8) 0 29 5 .i64 Tryz.underlying29 hi0 hsz A0 c0 l0 (fr : Int) hr0 hrl hc0
  simp only [Int.toNat_natCast] at hcut hA hC
  have HRD : Aside0 (∀ W, Below wB.heap.size wB W → Kd.C (Kd.int .u8) W A' (l0.drop fr).length (l0.drop fr)) := ⟨fun W hW => Kd.C_of_reads (h1 := fun _ => rfl) (hA _ (Kd.reads_of_C (Kd.C_below hr hW)))⟩
  clear hA
  obtain ⟨D, hD⟩ : ∃ D, l0.drop fr = D := ⟨_, rfl⟩
  have hDl : D.length ≤ 8000 := by rw [← hD, List.length_drop]; omega
  have HDI : Aside0 (Sc.InB D = true) := ⟨by rw [← hD]; exact InB_drop' g6 fr⟩
  rw [hD] at hcut hC HRD h
  obtain ⟨LN, hLN⟩ : ∃ LN, lineL D = LN := ⟨_, rfl⟩
  have hLl : LN.length ≤ D.length := by rw [← hLN]; exact lineL_len D
  have HCV : Aside0 (∀ W c', Below wB.heap.size wB W → (convert 29 9 (.slice A' LN.length c')).run Tryz.prog W = .ok (.string (strOfNums LN)) W) := ⟨fun W c' hW => by
    refine Kd.C_string Tryz.underlying29 Tryz.underlying5 Tryz.underlying9 ?_
    have h1 := Kd.C_take (m := LN.length) (HRD.out W hW) hLl
    have e5 : D.take LN.length = LN := by rw [← hLN]; exact (lineL_take D).symm
    rw [e5] at h1
    exact h1⟩
  have HCC : Aside0 (∀ W g, Below wB.heap.size wB W → W.cell? ⟨g, 0, none⟩ = some (.int .u8 10) → Calls Tryz.prog 88 #[.slice A' D.length (c0 - fr), .slice (some ⟨g, 0, none⟩) 1 1] W fun e w' => ∃ v2 v3 c', e = .returned (.tuple #[.slice A' LN.length c', v2, v3]) ∧ LN.length ≤ c' ∧ ∃ q, w' = W.drewN q) := ⟨fun W g hW hg => by
    rw [← hLN]
    exact cut_calls A' (c0 - fr) D g W (HRD.out W hW) hC hDl HDI.out hg⟩
  rw [hLN] at h
  obtain ⟨s, hs⟩ : ∃ s, strOfNums LN = s := ⟨_, rfl⟩
  have hss : s.size = LN.length := by rw [← hs]; exact strOfNums_size LN
  rw [hs] at h HCV
  rw [← hss] at h
  obtain ⟨M, hM⟩ : ∃ M, marksG s fr f T s.size 0 0 = M := ⟨_, rfl⟩
  rw [hM] at h
  have HM1 := ak hM
  have HE := ak h
  clear hm hp hq hr hT hBB hBld g6 hc2 hfr h hM HDI HRD hi0 hsz
  unfold cells41
  go_enter Tryz.func56, Tryz.ntmps56
  go_wp2_with (first
    | (go_at_call 23; refine ( faults_Message.calls k A0 c0 l0 x0 x1 (f : Int) T x4 x5 m1 m2 _ (Kd.C_below HR.out (HB0.out _)) hc0 HM.out ⟨HTB.out.stay (HB0.out _)⟩).mono ?_; rintro e w1 ⟨rfl, hb1⟩; have HB1 := ak ((HB0.out _).trans (hb1.mono (HB0.out _).size)); have HW1 := ak ((HW0.out _).trans (hb1.mono (HW0.out _).size)); have c12 := Ft.cell_stay (box_at w _ 41 2 (.int .i64 (f : Int)) rfl) hb1; have C3 := ak (Ft.cell_stay (box_at w _ 41 3 (.int .i64 T) rfl) hb1); clear hb1)
    | (go_at_call 15; refine ( faults_Place.calls k A0 c0 l0 (f : Int) p1 p2 p3 _ (Kd.C_below HR.out HB1.out) hc0 HP.out ⟨HTB.out.stay HB1.out⟩).mono ?_; rintro e w2 ⟨rfl, hb2⟩; have HB2 := ak (HB1.out.trans (hb2.mono HB1.out.size)); have HW2 := ak (HW1.out.trans (hb2.mono HW1.out.size)); have c22 := Ft.cell_stay c12 hb2; have C23 := ak (Ft.cell_stay C3.out hb2); clear hb2)
    | (go_at_call 48; refine (HQC.out _ HB2.out).mono ?_; rintro e w3 ⟨rfl, hd⟩; have HB3 := ak (drawn_below HB2.out hd); have HW3 := ak (drawn_below HW2.out hd); have C32 := ak (drawn_cell hd c22); have C33 := ak (drawn_cell hd C23.out); clear hd)
    | (go_at_call 88; refine (HCC.out _ _ (wA HB3.out _) (box_at w3 _ 5 0 _ rfl)).mono ?_; rintro e w4 ⟨v2, v3, c', rfl, hle, hq4⟩; have HB4 := ak (drawn_below (wA HB3.out _) (drawn0_of hq4)); have HW4 := ak (drawn_below (wA HW3.out _) (drawn0_of hq4)); have C42 := ak (drawn_cell (drawn0_of hq4) (cell_alloc' _ C32.out)); have C43 := ak (drawn_cell (drawn0_of hq4) (cell_alloc' _ C33.out)); have hcv := HCV.out w4 c' HB4.out; clear hq4))
  have HW := ak (show s.size ≤ 8000 by omega)
  go_loopg [15] s.size (fun gh v15 wr => ∃ (p c g_ : Nat), g_ = gh ∧ wr = w4.iter s p ∧ v15 = .int .i64 (c : Int) ∧ s.size ≤ p + g_ ∧ c ≤ p ∧ c ≤ s.size ∧ Aside0 (marksG s fr f T g_ p c = M))
  case atStart => exact ⟨0, 0, s.size, rfl, rfl, rfl, by omega, Nat.le_refl _, Nat.zero_le _, HM1⟩
  case round =>
    obtain ⟨p, c, g_, rfl, rfl, rfl, hpk, hcp, hcs, HG⟩ := hrel
    by_cases hp : p < s.size
    · obtain ⟨kk, rfl⟩ : ∃ kk, g_ = kk + 1 := ⟨g_ - 1, by omega⟩
      have hn := run_next_any (P := Tryz.prog) w4 s p 0 hp
      have c2 := iter_cell s (p + (Utf8.decode s p).2) C42.out
      have c3 := iter_cell s (p + (Utf8.decode s p).2) C43.out
      have hwd := Lib.decode_width_pos s p hp
      have f1 : IntKind.i64.wrap ((p : Int) + (fr : Int)) = (p : Int) + (fr : Int) := by rw [IntKind.wrap_i64]; omega
      have f2 : IntKind.i64.wrap ((c : Int) + 1) = ((c + 1 : Nat) : Int) := by rw [IntKind.wrap_i64]; omega
      have HG2 := ak ((marksG_step s fr f T kk p c hp).symm.trans HG.out)
      have HWD := ak hwd
      clear hwd
      by_cases h1 : (f : Int) ≤ (p : Int) + (fr : Int)
      · have b1 : decide ((f : Int) ≤ (p : Int) + (fr : Int)) = true := decide_eq_true h1
        by_cases h2 : (p : Int) + (fr : Int) < T
        · have b2 : decide ((p : Int) + (fr : Int) < T) = true := decide_eq_true h2
          go_wp2
          go_roundg kk
          case measure => omega
          case rel => exact ⟨p + (Utf8.decode s p).2, c + 1, kk, rfl, rfl, rfl, by have := HWD.out; omega, by have := HWD.out; omega, by omega, ⟨by have h := HG2.out; rw [if_pos ⟨h1, h2⟩] at h; exact h⟩⟩
        · have b2 : decide ((p : Int) + (fr : Int) < T) = false := decide_eq_false h2
          go_wp2
          go_roundg kk
          case measure => omega
          case rel => exact ⟨p + (Utf8.decode s p).2, c, kk, rfl, rfl, rfl, by have := HWD.out; omega, by have := HWD.out; omega, by omega, ⟨by have h := HG2.out; rw [if_neg (by omega)] at h; exact h⟩⟩
      · have b1 : decide ((f : Int) ≤ (p : Int) + (fr : Int)) = false := decide_eq_false h1
        go_wp2
        go_roundg kk
        case measure => omega
        case rel => exact ⟨p + (Utf8.decode s p).2, c, kk, rfl, rfl, rfl, by have := HWD.out; omega, by have := HWD.out; omega, by omega, ⟨by have h := HG2.out; rw [if_neg (by omega)] at h; exact h⟩⟩
    · have hn := run_next_end (P := Tryz.prog) w4 s p 0 hp
      have e7 := (marksG_end s fr f T g_ p c hp).symm.trans HG.out
      subst e7
      obtain ⟨n1, hn1⟩ : ∃ n1 : Nat, p2 - 1 = (n1 : Int) := ⟨(p2 - 1).toNat, by omega⟩
      obtain ⟨n2, hn2⟩ : ∃ n2 : Nat, max (c : Int) 1 = (n2 : Int) := ⟨(max (c : Int) 1).toNat, by omega⟩
      have hn3 : (if (c : Int) < 1 then (1 : Int) else (c : Int)) = (n2 : Int) := by rw [← hn2]; split <;> omega
      have f5 : IntKind.i64.wrap (p2 - 1) = (n1 : Int) := by rw [IntKind.wrap_i64]; omega
      have HE2 := HE.out
      rw [hn1, hn2] at HE2
      simp only [Int.toNat_natCast] at HE2
      have HR1 := ak (fun W => Tryz.strings_Repeat ⟨#[32]⟩ n1 W (by omega) (by show 1 * n1 ≤ _; omega))
      have HR2 := ak (fun W => Tryz.strings_Repeat ⟨#[94]⟩ n2 W (by omega) (by show 1 * n2 ≤ _; omega))
      have hz1 : (⟨(Lib.repeatL [32] n1).toArray⟩ : ByteArray).size = n1 := by show (Lib.repeatL [32] n1).toArray.size = n1; simp [Lib.repeatL_length]
      have hz2 : (⟨(Lib.repeatL [94] n2).toArray⟩ : ByteArray).size = n2 := by show (Lib.repeatL [94] n2).toArray.size = n2; simp [Lib.repeatL_length]
      have e8 : (⟨#[32]⟩ : ByteArray).data.toList = [32] := rfl
      have e9 : (⟨#[94]⟩ : ByteArray).data.toList = [94] := rfl
      rw [e8] at HR1
      rw [e9] at HR2
      generalize (⟨(Lib.repeatL [32] n1).toArray⟩ : ByteArray) = S1 at HR1 HE2 hz1
      generalize (⟨(Lib.repeatL [94] n2).toArray⟩ : ByteArray) = S2 at HR2 HE2 hz2
      have HE3 := ak HE2
      have HB5 := ak (below_iter HB4.out s p)
      have HW5 := ak (below_iter HW4.out s p)
      have HZ1 := ak hz1
      have HZ2 := ak hz2
      have HN1 := ak (show n1 ≤ 100000 by omega)
      have HN2 := ak (show n2 ≤ 8001 by omega)
      have z1 : (9223372036854775807 < m1.size + 3) = False := eq_false (by omega)
      have z2 : (9223372036854775807 < m1.size + 3 + s.size) = False := eq_false (by omega)
      have z3 : (9223372036854775807 < m1.size + 3 + s.size + 3) = False := eq_false (by omega)
      have z4 : (9223372036854775807 < m1.size + 3 + s.size + 3 + S1.size) = False := eq_false (by omega)
      have z5 : (9223372036854775807 < m1.size + 3 + s.size + 3 + S1.size + S2.size) = False := eq_false (by omega)
      have z6 : (9223372036854775807 < m1.size + 3 + s.size + 3 + S1.size + S2.size + 1) = False := eq_false (by omega)
      have HWS : Aside0 (∀ W, Below wB.heap.size wB W → Below w.heap.size w W → Calls Tryz.prog 89 #[.pointer (some ⟨wB.heap.size, 0, none⟩), .string ((((((m1 ++ (⟨#[10, 32, 32]⟩ : ByteArray)) ++ s) ++ (⟨#[10, 32, 32]⟩ : ByteArray)) ++ S1) ++ S2) ++ (⟨#[10]⟩ : ByteArray))] W fun e w' => e = .returned (.tuple #[.int .i64 t.size, .nilIface]) ∧ Ft.Bld wB.heap.size (acc ++ t.data.toList) w' ∧ Below wB.heap.size W w') := ⟨fun W hW hW2 => by
        have h1 := Ft.bld_str t (HBl.out.below hW2) (by omega) (by omega) hW.size
        rw [← Option.some.inj HE2] at h1 ⊢
        exact h1⟩
      clear HE2 hz1 hz2 HE HM1 HG hn hss hn1 hn2 HE3
      have hn := run_next_end (P := Tryz.prog) w4 s p 0 hp
      go_wp2
      generalize w4.iter s p = w5 at HB5 HW5 ⊢
      go_region_held3 (fun w' => (convert 29 9 (.slice A' LN.length c')).run Tryz.prog w' = .ok (.string s) w')
        (first | exact HCV.out _ c' (wD HB5.out) | exact HCV.out _ c' HB6.out | exact HCV.out _ c' HB7.out | exact HCV.out _ c' HB8.out)
        ((first
          | (go_at_call 90; (with_reducible refine (HR1.out _).mono ?_); rintro e w6 ⟨rfl, hb6⟩; have HB6 := ak ((wD HB5.out).trans (hb6.mono (wD HB5.out).size)); have HW6 := ak ((wD HW5.out).trans (hb6.mono (wD HW5.out).size)); clear hb6)
          | (go_at_call 90; (with_reducible refine (HR2.out _).mono ?_); rintro e w7 ⟨rfl, hb7⟩; have HB7 := ak (HB6.out.trans (hb7.mono HB6.out.size)); have HW7 := ak (HW6.out.trans (hb7.mono HW6.out.size)); clear hb7)
          | (go_at_call 89; (with_reducible refine (HWS.out _ HB7.out HW7.out).mono ?_); rintro e w8 ⟨rfl, hl8, hb8⟩; have HB8 := ak (HB7.out.trans hb8); have HL8 := ak hl8; clear hl8 hb8)))
      all_goals
        refine bodyPost_end (results_none rfl _ _ _) rfl ?_
        exact ⟨rfl, HL8.out, HB8.out⟩
def picG (k : Nat) (l0 : List Int) (l1 : List S41) : Nat → Int → ByteArray → Option ByteArray
  | 0, i, acc => if i < 0 then some acc else none
  | n + 1, i, acc => if i < 0 then some acc else (paintF k l0 (rd_T41 l1 i)).bind fun t => if acc.size + t.size ≤ 500000 then picG k l0 l1 n (rd_T41 l1 i).f4 (acc ++ t) else none
def faults_Picture.f (k : Nat) (l0 : List Int) (l1 : List S41) (a2 : Int) : Option (ByteArray × Int) :=
  (runes_Check.f l0).bind fun c => if c.2 = 0 then ((faults_Check.f k (l0.length : Int) l1).bind fun d => if d.2 = 0 then (if a2 < 0 ∨ (l1.length : Int) ≤ a2 then some (⟨#[]⟩, 4) else (if downsB l1 = true then (picG k l0 l1 l1.length a2 ⟨#[]⟩).map (fun t => (t, 0)) else none)) else some (⟨#[]⟩, d.2)) else some (⟨#[]⟩, c.2)
theorem picG_end (k : Nat) (l0 : List Int) (l1 : List S41) (n : Nat) (i : Int) (acc : ByteArray) (h : i < 0) : picG k l0 l1 n i acc = some acc := by
  cases n with
  | zero => unfold picG; rw [if_pos h]
  | succ n => unfold picG; rw [if_pos h]
theorem app_data (a b : ByteArray) : (a ++ b).data.toList = a.data.toList ++ b.data.toList := by
  rw [ByteArray.data_append, Array.toList_append]
set_option maxHeartbeats 8000000 in
set_option maxRecDepth 100000 in
theorem faults_Picture.calls (k : Nat) (A0 : Option Addr) (c0 : Nat) (l0 : List Int) (A1 : Option Addr) (c1 : Nat) (l1 : List S41) (a2 : Int) (r1 : ByteArray) (r2 : Int) (w : World) (hr0 : Kd.C (Kd.int .u8) w A0 l0.length l0) (hc0 : l0.length ≤ c0) (hr1 : Kd.C k41 w A1 l1.length l1) (hc1 : l1.length ≤ c1) (h : faults_Picture.f k l0 l1 a2 = some (r1, r2)) (HT : Aside0 (Ft.All w)) :
    Calls Tryz.prog 21 #[.slice A0 l0.length c0, .slice A1 l1.length c1, .int .i64 a2] w fun e w' => e = .returned (.tuple #[.string r1, .int .i64 r2]) ∧ Below w.heap.size w w' := by
  unfold faults_Picture.f at h
  replace h := Option.bind_eq_some_iff.mp h
  obtain ⟨⟨z1, z2⟩, hk, h⟩ := h
  have HK := ak hk
  have HR0 := ak hr0
  have HR1 := ak hr1
  simp only at h
  clear hk hr0 hr1
  by_cases he : z2 = 0
  case neg =>
    rw [if_neg he] at h
    cases h
    have b1 : (r2 != 0) = true := bne_iff_ne.mpr he
    have b2 : (r2 == 0) = false := beq_eq_false_iff_ne.mpr he
    go_enter Tryz.func21, Tryz.ntmps21
    go_wp2_with (first
      | (go_at_call 45; refine ( runes_Check.calls A0 c0 l0 z1 r2 _ HR0.out hc0 HK.out HT).mono ?_; rintro e w1 ⟨rfl, hb1⟩))
    go_ret2
    exact ⟨rfl, hb1⟩
  subst he
  rw [if_pos rfl] at h
  replace h := Option.bind_eq_some_iff.mp h
  obtain ⟨⟨y1, y2⟩, hk2, h⟩ := h
  have HK2 := ak hk2
  simp only at h
  clear hk2
  by_cases he2 : y2 = 0
  case neg =>
    rw [if_neg he2] at h
    cases h
    have b1 : (r2 != 0) = true := bne_iff_ne.mpr he2
    have b2 : (r2 == 0) = false := beq_eq_false_iff_ne.mpr he2
    go_enter Tryz.func21, Tryz.ntmps21
    go_wp2_with (first
      | (go_at_call 45; refine ( runes_Check.calls A0 c0 l0 z1 0 _ HR0.out hc0 HK.out HT).mono ?_; rintro e w1 ⟨rfl, hb1⟩; have HB1 := ak hb1; clear hb1)
      | (go_at_call 13; refine ( faults_Check.calls k (l0.length : Int) A1 c1 l1 y1 r2 _ (Kd.C_below HR1.out HB1.out) hc1 HK2.out ⟨HT.out.stay HB1.out⟩).mono ?_; rintro e w2 ⟨rfl, hb2⟩; have HB2 := ak (HB1.out.trans (hb2.mono HB1.out.size)); clear hb2))
    go_ret2
    exact ⟨rfl, HB2.out⟩
  subst he2
  rw [if_pos rfl] at h
  by_cases hi : a2 < 0 ∨ (l1.length : Int) ≤ a2
  · rw [if_pos hi] at h
    cases h
    by_cases hi1 : a2 < 0
    · have b1 : decide (a2 < 0) = true := decide_eq_true hi1
      go_enter Tryz.func21, Tryz.ntmps21
      go_wp2_with (first
        | (go_at_call 45; refine ( runes_Check.calls A0 c0 l0 z1 0 _ HR0.out hc0 HK.out HT).mono ?_; rintro e w1 ⟨rfl, hb1⟩; have HB1 := ak hb1; clear hb1)
        | (go_at_call 13; refine ( faults_Check.calls k (l0.length : Int) A1 c1 l1 y1 0 _ (Kd.C_below HR1.out HB1.out) hc1 HK2.out ⟨HT.out.stay HB1.out⟩).mono ?_; rintro e w2 ⟨rfl, hb2⟩; have HB2 := ak (HB1.out.trans (hb2.mono HB1.out.size)); clear hb2))
      go_ret2
      exact ⟨rfl, HB2.out⟩
    · have hi2 : (l1.length : Int) ≤ a2 := by omega
      have b1 : decide (a2 < 0) = false := decide_eq_false hi1
      have b2 : decide ((l1.length : Int) ≤ a2) = true := decide_eq_true hi2
      go_enter Tryz.func21, Tryz.ntmps21
      go_wp2_with (first
        | (go_at_call 45; refine ( runes_Check.calls A0 c0 l0 z1 0 _ HR0.out hc0 HK.out HT).mono ?_; rintro e w1 ⟨rfl, hb1⟩; have HB1 := ak hb1; clear hb1)
        | (go_at_call 13; refine ( faults_Check.calls k (l0.length : Int) A1 c1 l1 y1 0 _ (Kd.C_below HR1.out HB1.out) hc1 HK2.out ⟨HT.out.stay HB1.out⟩).mono ?_; rintro e w2 ⟨rfl, hb2⟩; have HB2 := ak (HB1.out.trans (hb2.mono HB1.out.size)); clear hb2))
      go_ret2
      exact ⟨rfl, HB2.out⟩
  rw [if_neg hi] at h
  by_cases hd : downsB l1 = true
  case neg => rw [if_neg hd] at h; cases h
  rw [if_pos hd] at h
  obtain ⟨t, hp, ht⟩ := Option.map_eq_some_iff.1 h
  cases ht
  have hD := downs_of hd
  have HD := ak hD
  have HP := ak hp
  have b1 : decide (a2 < 0) = false := decide_eq_false (by omega)
  have b2 : decide ((l1.length : Int) ≤ a2) = false := decide_eq_false (by omega)
  have hi1 : a2 < (l1.length : Int) := by omega
  have HI1 := ak hi1
  clear h hp hd hD hi hi1
  go_enter Tryz.func21, Tryz.ntmps21
  go_wp2_with (first
    | (go_at_call 45; refine ( runes_Check.calls A0 c0 l0 z1 0 _ HR0.out hc0 HK.out HT).mono ?_; rintro e w1 ⟨rfl, hb1⟩; have HB1 := ak hb1; clear hb1)
    | (go_at_call 13; refine ( faults_Check.calls k (l0.length : Int) A1 c1 l1 y1 0 _ (Kd.C_below HR1.out HB1.out) hc1 HK2.out ⟨HT.out.stay HB1.out⟩).mono ?_; rintro e w2 ⟨rfl, hb2⟩; have HB2 := ak (HB1.out.trans (hb2.mono HB1.out.size)); clear hb2))
  clear b1 b2
  have HRB0 := ak (Kd.C_below HR0.out HB2.out)
  have HRB1 := ak (Kd.C_below HR1.out HB2.out)
  have HTB := ak (HT.out.stay HB2.out)
  have HBl := ak (show Ft.Bld w2.heap.size (⟨#[]⟩ : ByteArray).data.toList (w2.alloc (.cells #[.pointer none, .slice none 0 0] 79)) from Lib.fresh_isBuilder 79 5 w2)
  have HBw := ak ((Below.refl w2.heap.size w2).alloc (Nat.le_refl _) (.cells #[.pointer none, .slice none 0 0] 79))
  go_loopg [2] l1.length (fun gh v2 wr => ∃ (i : Int) (acc : ByteArray) (g_ : Nat), g_ = gh ∧ v2 = .int .i64 i ∧ Aside0 (i < (l1.length : Int)) ∧ Aside0 (acc.size ≤ 500000) ∧ Aside0 (picG k l0 l1 g_ i acc = some r1) ∧ Aside0 (Ft.Bld w2.heap.size acc.data.toList wr) ∧ Aside0 (Below w2.heap.size w2 wr))
  case atStart => exact ⟨a2, ⟨#[]⟩, l1.length, rfl, rfl, HI1, ⟨Nat.zero_le _⟩, HP, HBl, HBw⟩
  case round =>
    obtain ⟨i, acc, g_, rfl, rfl, HI, HA, HG, HL, HB⟩ := hrel
    clear HBl HBw HP HI1
    by_cases hn : i < 0
    · have b1 : decide (0 ≤ i) = false := decide_eq_false (by omega)
      have e1 : acc = r1 := Option.some.inj ((picG_end k l0 l1 g_ i acc hn).symm.trans HG.out)
      subst e1
      go_wp2_with (go_at_call 57; refine (Tryz.Builder_String_any w2.heap.size w2.heap.size acc.data.toList _ HL.out HB.out.size).mono ?_; rintro e w5 ⟨rfl, hb5⟩)
      go_ret2
      exact ⟨rfl, HB2.out.trans ((HB.out.trans hb5).mono HB2.out.size)⟩
    · have b1 : decide (0 ≤ i) = true := decide_eq_true (by omega)
      cases g_ with
      | zero => exact absurd HG.out (by unfold picG; rw [if_neg hn]; simp)
      | succ n =>
        have hg := HG.out
        unfold picG at hg
        rw [if_neg hn] at hg
        replace hg := Option.bind_eq_some_iff.mp hg
        obtain ⟨t, hp, hg⟩ := hg
        by_cases hs : acc.size + t.size ≤ 500000
        case neg => rw [if_neg hs] at hg; cases hg
        rw [if_pos hs] at hg
        obtain ⟨ad, e1, xb0, xb1, xb2, xb3, xb4, xb5⟩ := at_T41 HRB1.out i (by omega) HI.out
        subst e1
        have x0 := Ft.cell_stay xb0 HB.out
        have x1 := Ft.cell_stay xb1 HB.out
        have x2 := Ft.cell_stay xb2 HB.out
        have x3 := Ft.cell_stay xb3 HB.out
        have x4 := Ft.cell_stay xb4 HB.out
        have x5 := Ft.cell_stay xb5 HB.out
        clear xb0 xb1 xb2 xb3 xb4
        have hdn := HD.out i.toNat (by have := HI.out; omega)
        rw [show ((i.toNat : Nat) : Int) = i by omega] at hdn
        have HC := ak (paint_calls k A0 c0 l0 (rd_T41 l1 i) t acc.data.toList w2 wr HRB0.out hc0 HTB.out HB.out HL.out (by have := HA.out; show acc.size ≤ _; omega) (by omega) hp)
        have HDN := ak hdn
        have HG2 := ak hg
        have HS := ak hs
        unfold cells41 at HC
        have hi1 := HI.out
        clear hp hg hs hdn HG
        generalize (rd_T41 l1 i).f0 = y0 at *
        generalize (rd_T41 l1 i).f1 = y1 at *
        generalize (rd_T41 l1 i).f2.f0 = y2 at *
        generalize (rd_T41 l1 i).f2.f1 = y3 at *
        generalize (rd_T41 l1 i).f3 = y4 at *
        generalize (rd_T41 l1 i).f4 = y5 at *
        have hi0 : 0 ≤ i := by omega
        have X5 := ak xb5
        clear xb5
        go_wp2_with (go_at_call 56; refine HC.out.mono ?_; rintro e w4 ⟨rfl, hl4, hb4⟩; have HL4 := ak hl4; have HB4 := ak hb4; have x54 := Ft.cell_stay X5.out HB4.out; clear hl4 hb4)
        go_roundg n
        case measure => omega
        case rel => exact ⟨y5, acc ++ t, n, rfl, rfl, ⟨by have := HDN.out; have := HI.out; omega⟩, ⟨by rw [ByteArray.size_append]; exact HS.out⟩, HG2, ⟨by rw [app_data]; exact HL4.out⟩, HB4⟩
end Go.Proofs.YtdjkdlbokepoaaaGreatDoor.P
namespace Go.Proofs.YtdjkdlbokepoaaaGreatDoor.P
open Go.RowKit Go.Proofs.YtdjkdlbokepoaaaGreatDoorW.PrintWords Go.Proofs.YtdjkdlbokepoaaaGreatDoorW.PrintLast Go.Proofs.YtdjkdlbokepoaaaGreatDoorW.PrintMore
attribute [local go_sem] max2_int min2_int max_two min_two max_three min_three max_four min_four   -- for this text's walks alone
set_option linter.unusedVariables false
set_option linter.unusedSimpArgs false
def faults_known.f (k : Nat) (l0 : List (S41)) (a1 : Int) : Option (Int) := (faults_Check.f k 8000 l0).bind fun bt153 => (if bt153.2 = 0 then (if a1 < 0 then (some 4) else (if a1 ≥ (l0.length : Int) then (some 4) else (some bt153.2))) else (some bt153.2))
set_option maxHeartbeats 8000000 in
set_option maxRecDepth 100000 in
theorem faults_known.calls (k : Nat) (A0 : Option Addr) (c0 : Nat) (l0 : List (S41)) (a1 : Int) (r : Int) (w : World) (hr0 : Kd.C k41 w A0 l0.length l0) (hc0 : l0.length ≤ c0) (h : faults_known.f k l0 a1 = some r) (HT : Aside0 (Ft.All w)) :
    Calls Tryz.prog 61 #[.slice A0 l0.length c0, .int .i64 a1] w fun e w' => e = .returned (.int .i64 r) ∧ Below w.heap.size w w' := by
  have HR0 := ak hr0
  have HC0 := ak hc0
  clear hr0 hc0
  have HB := ak (Below.refl w.heap.size w)
  have H : ((faults_Check.f k 8000 l0).bind fun bt153 => (if bt153.2 = 0 then (if a1 < 0 then (some 4) else (if a1 ≥ (l0.length : Int) then (some 4) else (some bt153.2))) else (some bt153.2))) = some r := h
  clear h
  replace H := Option.bind_eq_some_iff.mp H
  obtain ⟨⟨t153, t154⟩, A30, H⟩ := H
  replace H : (if t154 = 0 then (if a1 < 0 then (some 4) else (if a1 ≥ (l0.length : Int) then (some 4) else (some t154))) else (some t154)) = some r := H
  have A3 := ak A30
  clear A30
  by_cases c4 : t154 = 0
  · rw [if_pos c4] at H
    have c4b0 : (t154 == 0) = true := beq_iff_eq.mpr c4
    have c4b1 : (t154 != 0) = false := bne_eq_false_iff_eq.mpr c4
    clear c4
    by_cases c5 : a1 < 0
    · rw [if_pos c5] at H
      have c5b0 : decide (a1 < 0) = true := decide_eq_true c5
      clear c5
      obtain rfl := Option.some.inj H
      go_enter Tryz.func61, Tryz.ntmps61
      go_wp2_with (first | ((with_reducible refine gate_callee (f := 13) rfl ?_); refine goesL_ (some 9) rfl rfl Tryz.func13 (by kernel_rfl) rfl #[.int .i64 8000, .slice A0 l0.length c0] rfl (by (try simp only [List.map_toArray, List.map_cons, List.map_nil]); first | done | rfl | (simp only [List.length_drop, List.length_take]; rfl)) ?_; (with_reducible refine (faults_Check.calls k 8000 _ _ l0 t153 t154 _ ?side1 ?side2 A3.out ⟨Ft.All.stay HT.out (by repeat (first | (with_reducible first | exact HB.out | apply wA | apply wN | apply wD) | exact HB.out | (refine below_set ?_ (by assumption)) | (refine below_set ?_ (Aside0.out (by assumption)))))⟩).mono ?_); (case side1 => repeat (first | exact HR0.out | (with_reducible refine Kd.C_alloc ?_ _) | (with_reducible refine Kd.C_drewN ?_ _) | (with_reducible refine Kd.C_drew ?_))); (case side2 => exact HC0.out); rintro e w6 ⟨rfl, hb⟩; refine ⟨_, rfl, ?_⟩; have n0_ := ak (below_step (by repeat (first | (with_reducible first | exact HB.out | apply wA | apply wN | apply wD) | exact HB.out)) hb); clear HB; have HB := n0_; clear n0_; (try clear hb); (try clear hb2); (try clear hk); (try clear hi)))
      go_ret
      exact ⟨by first | rfl | (simp [errW_none, errW_some] <;> rfl) | (simp [*, errW_none, errW_some] <;> rfl), by repeat (first | (with_reducible first | exact HB.out | apply wA | apply wN | apply wD) | exact HB.out)⟩
    · rw [if_neg c5] at H
      have c5b0 : decide (a1 < 0) = false := decide_eq_false c5
      clear c5
      by_cases c7 : a1 ≥ (l0.length : Int)
      · rw [if_pos c7] at H
        have c7b0 : decide ((l0.length : Int) ≤ a1) = true := decide_eq_true c7
        clear c7
        obtain rfl := Option.some.inj H
        go_enter Tryz.func61, Tryz.ntmps61
        go_wp2_with (first | ((with_reducible refine gate_callee (f := 13) rfl ?_); refine goesL_ (some 9) rfl rfl Tryz.func13 (by kernel_rfl) rfl #[.int .i64 8000, .slice A0 l0.length c0] rfl (by (try simp only [List.map_toArray, List.map_cons, List.map_nil]); first | done | rfl | (simp only [List.length_drop, List.length_take]; rfl)) ?_; (with_reducible refine (faults_Check.calls k 8000 _ _ l0 t153 t154 _ ?side1 ?side2 A3.out ⟨Ft.All.stay HT.out (by repeat (first | (with_reducible first | exact HB.out | apply wA | apply wN | apply wD) | exact HB.out | (refine below_set ?_ (by assumption)) | (refine below_set ?_ (Aside0.out (by assumption)))))⟩).mono ?_); (case side1 => repeat (first | exact HR0.out | (with_reducible refine Kd.C_alloc ?_ _) | (with_reducible refine Kd.C_drewN ?_ _) | (with_reducible refine Kd.C_drew ?_))); (case side2 => exact HC0.out); rintro e w8 ⟨rfl, hb⟩; refine ⟨_, rfl, ?_⟩; have n0_ := ak (below_step (by repeat (first | (with_reducible first | exact HB.out | apply wA | apply wN | apply wD) | exact HB.out)) hb); clear HB; have HB := n0_; clear n0_; (try clear hb); (try clear hb2); (try clear hk); (try clear hi)))
        go_ret
        exact ⟨by first | rfl | (simp [errW_none, errW_some] <;> rfl) | (simp [*, errW_none, errW_some] <;> rfl), by repeat (first | (with_reducible first | exact HB.out | apply wA | apply wN | apply wD) | exact HB.out)⟩
      · rw [if_neg c7] at H
        have c7b0 : decide ((l0.length : Int) ≤ a1) = false := decide_eq_false c7
        clear c7
        obtain rfl := Option.some.inj H
        go_enter Tryz.func61, Tryz.ntmps61
        go_wp2_with (first | ((with_reducible refine gate_callee (f := 13) rfl ?_); refine goesL_ (some 9) rfl rfl Tryz.func13 (by kernel_rfl) rfl #[.int .i64 8000, .slice A0 l0.length c0] rfl (by (try simp only [List.map_toArray, List.map_cons, List.map_nil]); first | done | rfl | (simp only [List.length_drop, List.length_take]; rfl)) ?_; (with_reducible refine (faults_Check.calls k 8000 _ _ l0 t153 t154 _ ?side1 ?side2 A3.out ⟨Ft.All.stay HT.out (by repeat (first | (with_reducible first | exact HB.out | apply wA | apply wN | apply wD) | exact HB.out | (refine below_set ?_ (by assumption)) | (refine below_set ?_ (Aside0.out (by assumption)))))⟩).mono ?_); (case side1 => repeat (first | exact HR0.out | (with_reducible refine Kd.C_alloc ?_ _) | (with_reducible refine Kd.C_drewN ?_ _) | (with_reducible refine Kd.C_drew ?_))); (case side2 => exact HC0.out); rintro e w9 ⟨rfl, hb⟩; refine ⟨_, rfl, ?_⟩; have n0_ := ak (below_step (by repeat (first | (with_reducible first | exact HB.out | apply wA | apply wN | apply wD) | exact HB.out)) hb); clear HB; have HB := n0_; clear n0_; (try clear hb); (try clear hb2); (try clear hk); (try clear hi)))
        go_ret
        exact ⟨by first | rfl | (simp [errW_none, errW_some] <;> rfl) | (simp [*, errW_none, errW_some] <;> rfl), by repeat (first | (with_reducible first | exact HB.out | apply wA | apply wN | apply wD) | exact HB.out)⟩
  · rw [if_neg c4] at H
    have c4b0 : (t154 == 0) = false := beq_eq_false_iff_ne.mpr c4
    have c4b1 : (t154 != 0) = true := bne_iff_ne.mpr c4
    obtain rfl := Option.some.inj H
    go_enter Tryz.func61, Tryz.ntmps61
    go_wp2_with (first | ((with_reducible refine gate_callee (f := 13) rfl ?_); refine goesL_ (some 9) rfl rfl Tryz.func13 (by kernel_rfl) rfl #[.int .i64 8000, .slice A0 l0.length c0] rfl (by (try simp only [List.map_toArray, List.map_cons, List.map_nil]); first | done | rfl | (simp only [List.length_drop, List.length_take]; rfl)) ?_; (with_reducible refine (faults_Check.calls k 8000 _ _ l0 t153 t154 _ ?side1 ?side2 A3.out ⟨Ft.All.stay HT.out (by repeat (first | (with_reducible first | exact HB.out | apply wA | apply wN | apply wD) | exact HB.out | (refine below_set ?_ (by assumption)) | (refine below_set ?_ (Aside0.out (by assumption)))))⟩).mono ?_); (case side1 => repeat (first | exact HR0.out | (with_reducible refine Kd.C_alloc ?_ _) | (with_reducible refine Kd.C_drewN ?_ _) | (with_reducible refine Kd.C_drew ?_))); (case side2 => exact HC0.out); rintro e w10 ⟨rfl, hb⟩; refine ⟨_, rfl, ?_⟩; have n0_ := ak (below_step (by repeat (first | (with_reducible first | exact HB.out | apply wA | apply wN | apply wD) | exact HB.out)) hb); clear HB; have HB := n0_; clear n0_; (try clear hb); (try clear hb2); (try clear hk); (try clear hi)))
    go_ret
    exact ⟨by first | rfl | (simp [errW_none, errW_some] <;> rfl) | (simp [*, errW_none, errW_some] <;> rfl), by repeat (first | (with_reducible first | exact HB.out | apply wA | apply wN | apply wD) | exact HB.out)⟩
end Go.Proofs.YtdjkdlbokepoaaaGreatDoor.P
