/- The law ScopesLattice, over numbers and lists alone: it answers true. -/
import Derived.Test.YtkalbdeopogbpaaDoorGoalScopesLattice
import Derived.Test.YtkalbdeopogbpaaDoorL12
namespace Go.Proofs.YtkalbdeopogbpaaDoor.Pure
open Go.RowKit Go.Proofs.YtkalbdeopogbpaaDoor.P Go.Proofs.YtkalbdeopogbpaaDoorW.PrintWords Go.Proofs.YtkalbdeopogbpaaDoorW.PrintLast

theorem ScopesLattice : mummerlaw09_ScopesLattice.Goal := by
  intro a b c _ _ _; exact law_lattice a b c

end Go.Proofs.YtkalbdeopogbpaaDoor.Pure
