/- The law ScopesFlips, over numbers and lists alone: it answers true. -/
import Derived.Test.YtkalbdeopogbpaaDoorGoalScopesFlips
import Derived.Test.YtkalbdeopogbpaaDoorL11
namespace Go.Proofs.YtkalbdeopogbpaaDoor.Pure
open Go.RowKit Go.Proofs.YtkalbdeopogbpaaDoor.P Go.Proofs.YtkalbdeopogbpaaDoorW.PrintWords Go.Proofs.YtkalbdeopogbpaaDoorW.PrintLast

theorem ScopesFlips : mummerlaw09_ScopesFlips.Goal := by
  intro s a b _ _ _; exact law_flips s a b

end Go.Proofs.YtkalbdeopogbpaaDoor.Pure
