import Derived.RangeFuncNested
import Derived.RangeFuncBound
import Derived.RangeFuncCalls
import Derived.RangeFuncLeaves
import Derived.RangeFuncFrom
import Derived.Shelf.Abstract
import Derived.Shelf.RegionOpen
import Derived.WalkKit
import Derived.OwnWalkIn
import Derived.TacticsInMore
import Derived.LoopNIn
import Derived.LoopIn
import Derived.Stop.RegionWithIn
import Derived.Maps.AppendAt
import Derived.Lib.RuneCountTail
import Derived.Test.YtdjkdlbokepoaaaGreatDoorKA1
import Derived.Test.YtdjkdlbokepoaaaGreatDoorKA2
import Derived.Test.YtdjkdlbokepoaaaGreatDoorKA3
import Derived.Test.YtdjkdlbokepoaaaGreatDoorKA13
namespace Go.Proofs.YtdjkdlbokepoaaaGreatDoor.P.Sc
open Go.RowKit Go.Shelf YtdjkdlbokepoaaaGreatDoorW.PrintWords YtdjkdlbokepoaaaGreatDoorW.PrintLast YtdjkdlbokepoaaaGreatDoorW.PrintMore
attribute [local go_sem] Oper.semAt_some
set_option linter.unusedVariables false
set_option linter.unusedSimpArgs false
def Tab (w : World) : Prop := Lib.Utf8Tabs 4 5 w
theorem Tab.stay {w w' : World} (h : Tab w) (hb : Below w.heap.size w w') : Tab w' := Utf8Tabs_below h hb
theorem Tab.grow {W W' : World} {row : Option Nat} (h : Tab W) (hg : W.grownBy W' row) (hr : ∀ r, row = some r → ∃ o : Obj, W.heap[r]? = some o ∧ o.isCells = false) : Tab W' :=
 ⟨fun c hc => cell_kept (h.1 c hc) hg hr, fun i hi => ⟨cell_kept (h.2 i hi).1 hg hr, cell_kept (h.2 i hi).2 hg hr⟩⟩
def Txt (W : World) (A : Option Addr) (s : ByteArray) : Prop :=
 0 < s.size → ∃ b off, A = some ⟨b, off, none⟩ ∧ ∀ j, j < s.size → W.cell? ⟨b, off + j, none⟩ = some (.int .u8 (s.get! j).toNat)
theorem Txt.grow {W W' : World} {row : Option Nat} {A : Option Addr} {s : ByteArray} (h : Txt W A s) (hg : W.grownBy W' row) (hr : ∀ r, row = some r → ∃ o : Obj, W.heap[r]? = some o ∧ o.isCells = false) : Txt W' A s := fun h0 => by
 obtain ⟨b, off, e, hc⟩ := h h0
 exact ⟨b, off, e, fun j hj => cell_kept (hc j hj) hg hr⟩
theorem grownBy_of_below {W W' : World} (h : Below W.heap.size W W') : W.grownBy W' none := ⟨h.os, h.tape, h.output, h.size, fun k hk _ => h.block k hk⟩
inductive Runs (s : ByteArray) : Nat → List (Nat × Nat) → Prop
 | stop : Runs s s.size []
 | step {at_ r n : Nat} {rest : List (Nat × Nat)} : at_ < s.size → Utf8.decode s at_ = (r, n) → (r ≠ 65533 ∨ 1 < n) → Lib.runeLen (r : Int) = (n : Int) → 1 ≤ n → at_ + n ≤ s.size → Runs s (at_ + n) rest → Runs s at_ ((at_, r) :: rest)
theorem decodeGo_tail (s : ByteArray) (pos : Nat) (h : pos < s.size) : Lib.decodeGo (s.extract pos s.size) = Utf8.decode s pos := by
 unfold Lib.decodeGo
 rw [if_neg (by rw [Lib.tail_size]; omega), Lib.tail_decode, Nat.add_zero]
set_option maxRecDepth 100000 in
set_option maxHeartbeats 2000000 in
theorem decode_good (s : ByteArray) (b off cap at_ r n : Nat) (w : World) (hT : Tab w) (hs : s.size ≤ 1000000) (hcap : s.size ≤ cap) (hp : ∀ j, j < s.size → w.cell? ⟨b, off + j, none⟩ = some (.int .u8 (s.get! j).toNat))
  (hat : at_ < s.size) (hd : Utf8.decode s at_ = (r, n)) (hok : r ≠ 65533 ∨ 1 < n) :
  Calls Tryz.prog 79 #[.slice (some ⟨b, off, none⟩) s.size cap, .int .i64 at_] w fun e w' => e = .returned (.tuple #[.int .i32 r, .int .i64 n, .int .i64 0]) ∧ Below w.heap.size w w' := by
 have hsz : (s.extract at_ s.size).size = s.size - at_ := Lib.tail_size _ _
 have cD : ∀ W, Below w.heap.size w W → Tab W → Calls Tryz.prog 104 #[.slice (some ⟨b, off + at_, none⟩) (s.size - at_) (cap - at_)] W fun e w' => e = .returned (.tuple #[.int .i32 r, .int .i64 n]) ∧ Below W.heap.size W w' := fun W hW hTW => by
  have := Tryz.utf8_DecodeRune (s.extract at_ s.size) b (off + at_) (cap - at_) W hTW (fun j hj => by
   rw [hsz] at hj
   rw [Lib.tail_get!, Nat.add_assoc]
   have h1 := hp (at_ + j) (by omega)
   exact (hW.cell (p := ⟨b, off + (at_ + j), none⟩) (World.block_lt_of_cell? w _ h1)).trans h1)
  rw [hsz, decodeGo_tail s at_ hat, hd] at this
  exact this
 have b1 : decide ((at_ : Int) < 0) = false := decide_eq_false (by omega)
 have b2 : decide ((s.size : Int) ≤ (at_ : Int)) = false := decide_eq_false (by omega)
 by_cases hr : r = 65533
 ·subst hr
  have hn : 1 < n := by rcases hok with h | h; exact absurd rfl h; exact h
  have b3 : decide ((1 : Int) < (n : Int)) = true := decide_eq_true (by omega)
  go_enter Tryz.func79, Tryz.ntmps79
  go_wp2_with (first
   | (go_at_call 104; refine (cD _ (Below.refl _ _) hT).mono ?_; rintro e w2 ⟨rfl, hb⟩))
  go_ret3
  exact ⟨rfl, hb⟩
 ·have b3 : ((r : Int) != 65533) = true := bne_iff_ne.mpr (by omega)
  have b4 : ((r : Int) == 65533) = false := beq_eq_false_iff_ne.mpr (by omega)
  have b5 : ¬ (r : Int) = 65533 := by omega
  go_enter Tryz.func79, Tryz.ntmps79
  go_wp2_with (first
   | (go_at_call 104; refine (cD _ (Below.refl _ _) hT).mono ?_; rintro e w2 ⟨rfl, hb⟩))
  go_ret3
  exact ⟨rfl, hb⟩
end Go.Proofs.YtdjkdlbokepoaaaGreatDoor.P.Sc
