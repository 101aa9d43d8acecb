/- The law ScopesChecks, over numbers and lists alone: it answers true. -/
import Derived.Test.YtkalbdeopogbpaaDoorGoalScopesChecks
import Derived.Test.YtkalbdeopogbpaaDoorL9
namespace Go.Proofs.YtkalbdeopogbpaaDoor.Pure
open Go.RowKit Go.Proofs.YtkalbdeopogbpaaDoor.P Go.Proofs.YtkalbdeopogbpaaDoorW.PrintWords Go.Proofs.YtkalbdeopogbpaaDoorW.PrintLast

theorem ScopesChecks : mummerlaw09_ScopesChecks.Goal := by
  intro a l _ _; exact law_checks a l

end Go.Proofs.YtkalbdeopogbpaaDoor.Pure
