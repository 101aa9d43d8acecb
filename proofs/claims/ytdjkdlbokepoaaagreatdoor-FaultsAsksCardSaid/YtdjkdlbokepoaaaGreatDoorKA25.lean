import Derived.Test.YtdjkdlbokepoaaaGreatDoorKA24
import Derived.Below
import Derived.Deep.QuietTactic
import Derived.BigQuiet
import Derived.Deep.RegionHeld3
import Derived.WalkSmall
namespace Go.Proofs.YtdjkdlbokepoaaaGreatDoor.P.Ft
open Go.RowKit Go.Extern.Stop Go.Stop Go.Extern
set_option linter.unusedSimpArgs false
set_option linter.unusedVariables false
theorem place_calls (b : Nat) (i : Int) (w : World) (h : w.cell? ⟨b, 6, none⟩ = some (.int .i64 i)) :
  Calls Tryz.prog 170 #[.pointer (some ⟨b, 0, none⟩)] w fun e w' => e = .returned (.int .i64 i) ∧ w' = w := by
 go_enter Tryz.func170, Tryz.ntmps170
 go_wp2
 go_ret
 exact ⟨rfl, rfl⟩
theorem unwrap_calls (b : Nat) (v : Value) (w : World) (h : w.cell? ⟨b, 7, none⟩ = some v) (hv : v = .nilIface ∨ ∃ e, v = .iface 125 (.pointer (some e))) :
  Calls Tryz.prog 169 #[.pointer (some ⟨b, 0, none⟩)] w fun e w' => e = .returned v ∧ w' = w := by
 rcases hv with rfl | ⟨e, rfl⟩
 ·go_enter Tryz.func169, Tryz.ntmps169
  go_wp2
  go_ret
  exact ⟨rfl, rfl⟩
 ·go_enter Tryz.func169, Tryz.ntmps169
  go_wp2
  go_ret
  exact ⟨rfl, rfl⟩
set_option maxRecDepth 20000 in
theorem is_calls (b : Nat) (c d : Int) (w : World) (h : w.cell? ⟨b, 0, none⟩ = some (.int .i64 d)) :
  Calls Tryz.prog 168 #[.pointer (some ⟨b, 0, none⟩), .iface 100 (.agg #[.int .i64 c])] w fun e w' => e = .returned (.bool (decide (c = d))) ∧ Below w.heap.size w w' := by
 have hbl : b < w.heap.size := World.block_lt_of_cell? w ⟨b, 0, none⟩ h
 have h2 : (w.alloc (.cells #[.int .i64 c] 100)).cell? ⟨b, 0, none⟩ = some (.int .i64 d) := by rw [World.cell?_alloc_lt _ _ ⟨b, 0, none⟩ hbl]; exact h
 have hta : ∀ W : World, (Instr.typeAssert (.iface 100 (.agg #[.int .i64 c])) 90 100 true).run Tryz.prog W = .ok (.tuple #[.agg #[.int .i64 c], .bool true]) W := fun W => by kernel_rfl
 go_enter Tryz.func168, Tryz.ntmps168
 go_wp2
 go_quiet (fail)
 go_wp2
 go_ret
 refine ⟨?_, by repeat (first | exact Below.refl _ _ | refine below_drewN ?_ _ | refine Below.alloc ?_ (by first | (simp; done) | (simp; omega)) _)⟩
 congr 1
end Go.Proofs.YtdjkdlbokepoaaaGreatDoor.P.Ft
