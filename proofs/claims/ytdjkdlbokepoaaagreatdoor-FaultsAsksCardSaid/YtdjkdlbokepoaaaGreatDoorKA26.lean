import Derived.Test.YtdjkdlbokepoaaaGreatDoorKA25
import Derived.Deep.LoopGhost
namespace Go.Proofs.YtdjkdlbokepoaaaGreatDoor.P.Ft
open Go.RowKit Go.Extern.Stop Go.Stop Go.Extern
set_option linter.unusedSimpArgs false
set_option linter.unusedVariables false
def ErrAt (w : World) : Nat → List (Int × Int) → Value → Prop
 | _, [], v => v = .nilIface
 | n, x :: r, v => ∃ b u, b < n ∧ v = .iface 125 (.pointer (some ⟨b, 0, none⟩)) ∧ w.cell? ⟨b, 0, none⟩ = some (.int .i64 x.2) ∧ w.cell? ⟨b, 6, none⟩ = some (.int .i64 x.1) ∧ w.cell? ⟨b, 7, none⟩ = some u ∧ ErrAt w b r u
theorem cell_stay {w w' : World} {a : Addr} {v : Value} (h : w.cell? a = some v) (hb : Below w.heap.size w w') : w'.cell? a = some v := (hb.cell (World.block_lt_of_cell? w a h)).trans h
theorem ErrAt.stay {w w' : World} (hb : Below w.heap.size w w') : ∀ (r : List (Int × Int)) (n : Nat) (v : Value), ErrAt w n r v → ErrAt w' n r v
 | [], _, _, h => h
 | _ :: r, _, _, ⟨b, u, h1, h2, h3, h4, h5, h6⟩ => ⟨b, u, h1, h2, cell_stay h3 hb, cell_stay h4 hb, cell_stay h5 hb, ErrAt.stay hb r b u h6⟩
theorem eq_types (b : Addr) (c : Value) (w : World) : (binOp .eql 90 (.iface 125 (.pointer (some b))) (.iface 100 c)).run Tryz.prog w = .ok (.bool false) w := run_eql_iface_types (P := Tryz.prog) 125 100 _ _ Tryz.underlying90 (by decide) w
theorem hasIs (v : Value) (w : World) : (Instr.typeAssert (.iface 125 v) 90 171 true).run Tryz.prog w = .ok (.tuple #[.iface 125 v, .bool true]) w := run_typeAssert_hasB Tryz.underlying171 (by kernel_rfl) v 90 w
theorem hasUnwrap (v : Value) (w : World) : (Instr.typeAssert (.iface 125 v) 90 167 true).run Tryz.prog w = .ok (.tuple #[.iface 125 v, .bool true]) w := run_typeAssert_hasB Tryz.underlying167 (by kernel_rfl) v 90 w
theorem methodIs (a : Addr) (w : World) : (Go.method 330 125 (.pointer (some a)) "Is").run Tryz.prog w = .ok (168, .pointer (some a)) w := by kernel_rfl
theorem methodUnwrap (a : Addr) (w : World) : (Go.method 330 125 (.pointer (some a)) "Unwrap").run Tryz.prog w = .ok (169, .pointer (some a)) w := by kernel_rfl
theorem methodComparable (h : Value) (w : World) : (Go.method 330 160 (.agg #[h]) "Comparable").run Tryz.prog w = .ok (176, .agg #[h]) w := by kernel_rfl
theorem typeOf100 (v : Value) (w : World) : (ReflectliteType.typeOf #[.iface 100 v]).run Tryz.prog w = .ok (.iface 160 (.agg #[.pointer (some ⟨9, 100, none⟩)])) w := by kernel_rfl
theorem comparable100 (w : World) : (ReflectliteType.method (fun t => do Go.Extern.Rtype.noPackHeld "Comparable" t; pure (.bool (← typeInfo t).comparable)) #[.agg #[.pointer (some ⟨9, 100, none⟩)]]).run Tryz.prog w = .ok (.bool true) w := by kernel_rfl
end Go.Proofs.YtdjkdlbokepoaaaGreatDoor.P.Ft
