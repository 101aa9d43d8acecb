/- The law SpansShifts, over numbers and lists alone: it answers true. -/
import Derived.Test.YtnkfdobcmfdhfaaDoorGoalSpansShifts
import Derived.Test.YtnkfdobcmfdhfaaDoorLS
namespace Go.Proofs.YtnkfdobcmfdhfaaDoor.Pure
open Go.RowKit Go.Proofs.YtnkfdobcmfdhfaaDoor.P Go.Proofs.YtnkfdobcmfdhfaaDoorW.PrintWords Go.Proofs.YtnkfdobcmfdhfaaDoorW.PrintLast

theorem SpansShifts : mummerlaw03_SpansShifts.Goal := by
  intro l a b n _ _ _ _; exact law_shifts l ⟨a, b⟩ n

end Go.Proofs.YtnkfdobcmfdhfaaDoor.Pure
