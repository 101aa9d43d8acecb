/- Plain lemmas over the printed functions, for law_changes, law_checks, law_flips. -/
import Derived.Test.YtkalbdeopogbpaaDoorPx1
namespace Go.Proofs.YtkalbdeopogbpaaDoor.P
open Go.RowKit Go.Proofs.YtkalbdeopogbpaaDoorW.PrintWords Go.Proofs.YtkalbdeopogbpaaDoorW.PrintLast Sc
set_option linter.unusedVariables false
set_option linter.unusedSimpArgs false
set_option maxRecDepth 20000
def farB (s : ByteArray) : Bool := if (s.size : Int) > 300 then (if (s.size : Int) < 19900 then true else decide ((s.size : Int) > 20100)) else decide ((s.size : Int) > 20100)
theorem far_f (s : ByteArray) : mummerlaw09_far.f s = some (farB s) := by
  unfold mummerlaw09_far.f farB
  split
  · split <;> rfl
  · rfl
theorem far_le {s : ByteArray} (h : farB s = false) : s.size ≤ 20100 := by
  unfold farB at h
  split at h
  · split at h
    · cases h
    · have := of_decide_eq_false h; omega
  · have := of_decide_eq_false h; omega
end Go.Proofs.YtkalbdeopogbpaaDoor.P
