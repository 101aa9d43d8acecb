/- Plain lemmas over the printed functions, for law_checks, law_flips, law_lattice. -/
import Derived.Test.YtkalbdeopogbpaaDoorPx1
namespace Go.Proofs.YtkalbdeopogbpaaDoor.P
open Go.RowKit Go.Proofs.YtkalbdeopogbpaaDoorW.PrintWords Go.Proofs.YtkalbdeopogbpaaDoorW.PrintLast Sc
set_option linter.unusedVariables false
set_option linter.unusedSimpArgs false
set_option maxRecDepth 20000
theorem sChk (s : ByteArray) (h : s.size ≤ 2000000) : scopes_Check.f s = some (chk s) := by unfold scopes_Check.f; rw [if_pos (by omega)]
end Go.Proofs.YtkalbdeopogbpaaDoor.P
