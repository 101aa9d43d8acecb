/- The law SpansKnown, over numbers and lists alone: it answers true. -/
import Derived.Test.YtnkfdobcmfdhfaaDoorGoalSpansKnown
namespace Go.Proofs.YtnkfdobcmfdhfaaDoor.Pure
open Go.RowKit Go.Proofs.YtnkfdobcmfdhfaaDoor.P Go.Proofs.YtnkfdobcmfdhfaaDoorW.PrintWords Go.Proofs.YtnkfdobcmfdhfaaDoorW.PrintLast

set_option maxRecDepth 20000 in
theorem SpansKnown : mummerlaw03_SpansKnown.Goal := ⟨100, by decide +kernel⟩

end Go.Proofs.YtnkfdobcmfdhfaaDoor.Pure
