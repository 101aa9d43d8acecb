/- Plain lemmas over the printed functions, for law_changes, law_flips. -/
import Derived.Test.YtkalbdeopogbpaaDoorPx1
namespace Go.Proofs.YtkalbdeopogbpaaDoor.P
open Go.RowKit Go.Proofs.YtkalbdeopogbpaaDoorW.PrintWords Go.Proofs.YtkalbdeopogbpaaDoorW.PrintLast Sc
set_option linter.unusedVariables false
set_option linter.unusedSimpArgs false
set_option maxRecDepth 20000
theorem sHas (s : ByteArray) (n : Int) (h : s.size ≤ 2000000) : scopes_Has.f s n = some (hasS s n) := by unfold scopes_Has.f; rw [if_pos (by omega)]
end Go.Proofs.YtkalbdeopogbpaaDoor.P
