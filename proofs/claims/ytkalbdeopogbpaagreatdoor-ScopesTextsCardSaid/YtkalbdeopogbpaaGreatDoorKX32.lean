import Derived.Test.YtkalbdeopogbpaaGreatDoorKX29
import Derived.Test.YtkalbdeopogbpaaGreatDoorKX31
namespace Go.Proofs.YtkalbdeopogbpaaGreatDoor.P.Wd
open Go.RowKit Go.Shelf Go.Proofs.YtkalbdeopogbpaaGreatDoorW.PrintWords Go.Proofs.YtkalbdeopogbpaaGreatDoorW.PrintLast Go.Proofs.YtkalbdeopogbpaaGreatDoorW.PrintMore
set_option linter.unusedVariables false
set_option linter.unusedSimpArgs false
theorem cell_stay {w w' : World} {a : Addr} {v : Value} (h : w.cell? a = some v) (hb : Below w.heap.size w w') : w'.cell? a = some v := (hb.cell (World.block_lt_of_cell? w a h)).trans h
/-- The table and the variable that the walks read. -/
structure All (w : World) : Prop where
  pow : Tab w
  mx : ∃ m, w.cell? ⟨0, 0, none⟩ = some (.int .i64 m)
theorem All.stay {w w' : World} (h : All w) (hb : Below w.heap.size w w') : All w' := ⟨h.pow.stay hb, by obtain ⟨m, h1⟩ := h.mx; exact ⟨m, cell_stay h1 hb⟩⟩
end Go.Proofs.YtkalbdeopogbpaaGreatDoor.P.Wd
