/- The law SpansNest, over numbers and lists alone: it answers true. -/
import Derived.Test.YtnkfdobcmfdhfaaDoorGoalSpansNest
import Derived.Test.YtnkfdobcmfdhfaaDoorLE
namespace Go.Proofs.YtnkfdobcmfdhfaaDoor.Pure
open Go.RowKit Go.Proofs.YtnkfdobcmfdhfaaDoor.P Go.Proofs.YtnkfdobcmfdhfaaDoorW.PrintWords Go.Proofs.YtnkfdobcmfdhfaaDoorW.PrintLast

theorem SpansNest : mummerlaw03_SpansNest.Goal := by
  intro l _; exact law_nest l

end Go.Proofs.YtnkfdobcmfdhfaaDoor.Pure
