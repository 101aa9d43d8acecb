import Derived.RangeFuncNested
import Derived.RangeFuncBound
import Derived.RangeFuncCalls
import Derived.RangeFuncLeaves
import Derived.Shelf.Abstract
import Derived.Shelf.RegionOpen
import Derived.WalkKit
import Derived.OwnWalkIn
import Derived.TacticsInMore
import Derived.LoopNIn
import Derived.LoopIn
import Derived.Stop.RegionWithIn
import Derived.Test.YtkalbdeopogbpaaGreatDoorProg
import Derived.Test.YtkalbdeopogbpaaGreatDoorKX2
import Derived.Test.YtkalbdeopogbpaaGreatDoorKX3
import Derived.Test.YtkalbdeopogbpaaGreatDoorKX13
namespace Go.Proofs.YtkalbdeopogbpaaGreatDoor.P.Sc
open Go.RowKit Go.Shelf Go.Proofs.YtkalbdeopogbpaaGreatDoorW.PrintWords Go.Proofs.YtkalbdeopogbpaaGreatDoorW.PrintLast Go.Proofs.YtkalbdeopogbpaaGreatDoorW.PrintMore
attribute [local go_sem] Oper.semAt_some
/-- The numbers of two bytes each. -/
def pairAt (s : ByteArray) (j : Nat) : Int := bt s (2 * j : Nat) * 256 + bt s (2 * j + 1 : Nat)
def pairs (s : ByteArray) (k : Nat) : List Int := (List.range k).map (pairAt s)
theorem pairs_succ (s : ByteArray) (k : Nat) : pairs s (k + 1) = pairs s k ++ [pairAt s k] := by simp [pairs, List.range_succ]
theorem pairs_length (s : ByteArray) (k : Nat) : (pairs s k).length = k := by simp [pairs]
/-- The box Bs, if it holds s, holds it still. -/
def KB (Bs : Nat) (s : ByteArray) (A B : World) : Prop := A.cell? ⟨Bs, 0, none⟩ = some (.string s) → B.cell? ⟨Bs, 0, none⟩ = some (.string s)
theorem KB.t {Bs : Nat} {s : ByteArray} : ∀ {A B C : World}, KB Bs s A B → KB Bs s B C → KB Bs s A C := fun h h' e => h' (h e)
theorem KB.b {Bs : Nat} {s : ByteArray} (W : World) (l : Nat) (o o' : Obj) (ho : W.heap[l]? = some o) (hc : o.isCells = false) : KB Bs s W (W.putObj l o') := fun e =>
  cell_kept e (grownBy_putObj' W l o') (fun r e => by cases e; exact ⟨o, ho, hc⟩)
theorem grownBy_drew (W : World) : W.grownBy W.drew none := ⟨rfl, rfl, rfl, Nat.le_refl _, fun _ _ _ => rfl⟩
theorem or_bytes (a b : Nat) (ha : a < 256) (hb : b < 256) : bits BinOp.or IntKind.i64 (IntKind.i64.wrap (IntKind.i64.wrap (a : Int) * 256)) (IntKind.i64.wrap (b : Int)) = (a : Int) * 256 + b := by
  have h1 : IntKind.i64.wrap (a : Int) = a := by rw [IntKind.wrap_i64]; omega
  have h2 : IntKind.i64.wrap ((a : Int) * 256) = ((a * 256 : Nat) : Int) := by rw [IntKind.wrap_i64]; omega
  have h3 : IntKind.i64.wrap (b : Int) = b := by rw [IntKind.wrap_i64]; omega
  rw [h1, h2, h3]
  have h4 : (a * 256) ||| b = a * 256 + b := by
    have := Nat.shiftLeft_add_eq_or_of_lt (i := 8) (b := b) (by omega) a
    rw [Nat.shiftLeft_eq] at this; exact this.symm
  have h5 : (BitVec.ofInt 64 ((a * 256 : Nat) : Int) ||| BitVec.ofInt 64 (b : Int)).toNat = a * 256 + b := by
    rw [BitVec.ofInt_natCast, BitVec.ofInt_natCast, BitVec.toNat_or, BitVec.toNat_ofNat, BitVec.toNat_ofNat, Nat.mod_eq_of_lt (by omega), Nat.mod_eq_of_lt (by omega), h4]
  show IntKind.i64.wrap ((BitVec.ofInt 64 ((a * 256 : Nat) : Int) ||| BitVec.ofInt 64 (b : Int)).toNat : Int) = _
  rw [h5, IntKind.wrap_i64]; omega
theorem w0 (k : Nat) {n : Nat} (h : 2 * k + 1 < n) : (2 * (k : Int)).toNat < n := by omega
theorem w1 (k : Nat) {n : Nat} (h : 2 * k + 1 < n) (hs : n ≤ 9223372036854775807) : IntKind.i64.wrap (2 * (k : Int) + 1) = ((2 * k + 1 : Nat) : Int) := by rw [IntKind.wrap_i64]; omega
theorem w2 (k : Nat) : 2 * (k : Int) + 2 = ((2 * (k + 1) : Nat) : Int) := by omega
theorem w3 (k : Nat) {n : Nat} (h : 2 * k + 1 < n) : n - (2 * (k : Int) + 2).toNat < n - (2 * (k : Int)).toNat := by omega
theorem pair_or (s : ByteArray) (k : Nat) (h : 2 * k + 1 < s.size) (hs : s.size ≤ 9223372036854775807) (h1 h2) : pairAt s k = bits BinOp.or IntKind.i64 (IntKind.i64.wrap (IntKind.i64.wrap (s[(2 * (k : Int)).toNat]'h1).toNat * 256)) (IntKind.i64.wrap (s[(IntKind.i64.wrap (2 * (k : Int) + 1)).toNat]'h2).toNat) := by
  rw [or_bytes _ _ (UInt8.toNat_lt _) (UInt8.toNat_lt _), bt_at, bt_at]
  have hw1 : IntKind.i64.wrap (2 * (k : Int) + 1) = ((2 * k + 1 : Nat) : Int) := by
    rw [IntKind.wrap_i64]; omega
  rw [hw1]; rfl
set_option maxRecDepth 100000 in
set_option maxHeartbeats 600000 in
theorem all1_in (F : Fence) (n : Nat) (h7 : F.fn 61) (hro : F.round = none) (hn : 1 ≤ n) (l Bs : Nat) (s : ByteArray) (hs : s.size ≤ 9223372036854775807) (J Jx : List Int → World → Prop) (hJd : ∀ pre W, J pre W → J pre W.drew)
    (hY : ∀ pre x W, J pre W → pre.length < s.size / 2 → YieldAt F (n - 1) Tryz.prog l #[.int .i64 x] W fun e W' =>
      (e = .returned (.bool true) ∧ J (pre ++ [x]) W' ∧ KB Bs s W W') ∨ (e = .returned (.bool false) ∧ Jx (pre ++ [x]) W'))
    (W : World) (hBs : W.cell? ⟨Bs, 0, none⟩ = some (.string s)) (h0 : J [] W) :
    CallsIn F n Tryz.prog 61 #[.func (.yield l) #[] #[], .pointer (some ⟨Bs, 0, none⟩)] W fun e W' => (∃ v, e = .returned v) ∧
      ((∃ ys, ys = pairs s (s.size / 2) ∧ J ys W') ∨ (∃ pre, (∃ k, k ≤ s.size / 2 ∧ pre = pairs s k) ∧ Jx pre W')) := by
  obtain ⟨Fr, Fd, Fa, Fo⟩ := F
  dsimp only at hro; subst hro
  refine callsIn_of_wp Tryz.func61 rfl h7 ?_ rfl
  simp only [Tryz.ntmps61, List.size_toArray, List.length_cons, List.length_nil, Nat.reduceAdd, Nat.reduceSub, Array.replicate_succ, Array.replicate_zero, List.push_toArray, List.append_toArray, List.nil_append, List.cons_append]
  gi_wp2
  gi_loopw [3] (fun i wr => ∃ k : Nat, k ≤ s.size / 2 ∧ i = .int .i64 ((2 * k : Nat) : Int) ∧ J (pairs s k) wr ∧ wr.cell? ⟨Bs, 0, none⟩ = some (.string s))
    (fun i _ => s.size - (intOf i).toNat)
  case atStart => exact ⟨0, Nat.zero_le _, rfl, h0, hBs⟩
  case round =>
    obtain ⟨k, hk, rfl, hJs, hcx⟩ := hrel
    by_cases hlt : 2 * k + 1 < s.size
    · obtain ⟨fn, tmps, assign, body, hy, hR⟩ := hY _ (pairAt s k) wr.drew (hJd _ _ hJs) (by rw [pairs_length]; omega)
      have hi0 : 0 ≤ 2 * (k : Int) ∧ 2 * (k : Int) < (s.size : Int) := ⟨by omega, by omega⟩
      have hi1 : 0 ≤ IntKind.i64.wrap (2 * (k : Int) + 1) ∧ IntKind.i64.wrap (2 * (k : Int) + 1) < (s.size : Int) := by rw [w1 k hlt hs]; exact ⟨by omega, by omega⟩
      have hv : pairAt s k = bits BinOp.or IntKind.i64 (IntKind.i64.wrap (IntKind.i64.wrap (s[(2 * (k : Int)).toNat]'(w0 k hlt)).toNat * 256)) (IntKind.i64.wrap (s[(IntKind.i64.wrap (2 * (k : Int) + 1)).toNat]'(by rw [w1 k hlt hs]; omega)).toNat) := pair_or s k hlt hs _ _
      have hcd : wr.drew.cell? ⟨Bs, 0, none⟩ = some (.string s) := hcx
      rw [hv] at hy
      clear hv
      have hR' : RoundIn _ (n - 1) Tryz.prog l fn tmps assign body wr.drew (fun e W' => ∃ b, e = .returned (.bool b) ∧ (b = true ∧ J (pairs s k ++ [pairAt s k]) W' ∧ KB Bs s wr.drew W' ∨ b = false ∧ Jx (pairs s k ++ [pairAt s k]) W')) := hR.mono (by
        rintro e W' (⟨rfl, h⟩ | ⟨rfl, h⟩)
        · exact ⟨_, rfl, .inl ⟨rfl, h⟩⟩
        · exact ⟨_, rfl, .inr ⟨rfl, h⟩⟩)
      gi_wp2
      gi_region_with (refine hR'.mono ?_; rintro _ W3 ⟨b, rfl, hb3⟩)
      all_goals
        rcases hb3 with ⟨rfl, hJ3, hk3⟩ | ⟨rfl, hJx3⟩
        · gi_wp2
          go_roundw
          case rel => exact ⟨k + 1, by omega, congrArg (Value.int IntKind.i64) (w2 k), by rw [pairs_succ]; exact hJ3, hk3 hcx⟩
          case measure => simp [intOf]; exact w3 k hlt
        · gi_wp2
          refine bodyPost_ret (results_none rfl _ _ _) rfl ?_
          exact ⟨⟨_, rfl⟩, .inr ⟨_, ⟨k + 1, by omega, (pairs_succ _ _).symm⟩, hJx3⟩⟩
    · obtain rfl : k = s.size / 2 := by omega
      gi_wp2
      go_end0
      exact ⟨⟨_, rfl⟩, .inl ⟨_, rfl, hJs⟩⟩
set_option maxHeartbeats 1000000 in
theorem all_in (n : Nat) (s : ByteArray) (w : World) :
    CallsIn Fence.wide n Tryz.prog 32 #[.string s] w fun e w' => e = .returned (.func (.func 61) #[] #[.pointer (some ⟨w.heap.size, 0, none⟩)]) ∧ w' = w.alloc (.cells #[.string s] 9) := by
  refine callsIn_of_wp Tryz.func32 rfl trivial ?_ rfl
  simp only [Tryz.ntmps32, List.size_toArray, List.length_cons, List.length_nil, Nat.reduceAdd, Nat.reduceSub, Array.replicate_succ, Array.replicate_zero, List.push_toArray, List.append_toArray, List.nil_append, List.cons_append]
  gi_wp2
  go_ret
  exact ⟨rfl, rfl⟩
theorem all_stops (n : Nat) (hn : 1 ≤ n) (Bs : Nat) (s : ByteArray) (hs : s.size ≤ 9223372036854775807) (w : World) (hBs : Bs < w.heap.size) (hc : w.cell? ⟨Bs, 0, none⟩ = some (.string s)) :
    SeqStopsK Fence.wide n Tryz.prog 61 #[.pointer (some ⟨Bs, 0, none⟩)] (fun x : Int => #[Value.int .i64 x]) (KB Bs s) (fun ys => ys = pairs s (s.size / 2)) (fun pre => ∃ k, k ≤ s.size / 2 ∧ pre = pairs s k) (s.size / 2) w := fun l J Jx W hW hJ _ hY h0 => by
  exact all1_in Fence.wide n trivial rfl hn l Bs s hs J Jx (fun pre W' h => hJ pre W' W'.drew none h (grownBy_drew _) (fun r e => by cases e)) hY W ((hW.cell (p := ⟨Bs, 0, none⟩) hBs).trans hc) h0
end Go.Proofs.YtkalbdeopogbpaaGreatDoor.P.Sc
