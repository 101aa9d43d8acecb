/- The law ScopesSubsets, over numbers and lists alone: it answers true. -/
import Derived.Test.YtkalbdeopogbpaaDoorGoalScopesSubsets
import Derived.Test.YtkalbdeopogbpaaDoorLS0
namespace Go.Proofs.YtkalbdeopogbpaaDoor.Pure
open Go.RowKit Go.Proofs.YtkalbdeopogbpaaDoor.P Go.Proofs.YtkalbdeopogbpaaDoorW.PrintWords Go.Proofs.YtkalbdeopogbpaaDoorW.PrintLast

theorem ScopesSubsets : mummerlaw09_ScopesSubsets.Goal := by
  intro a b c _ _ _; exact law_subsets a b c

end Go.Proofs.YtkalbdeopogbpaaDoor.Pure
