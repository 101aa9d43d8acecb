import Derived.Test.YtnkfdobcmfdhfaaDoorKR30
import Derived.Test.YtnkfdobcmfdhfaaDoorKR37
namespace Go.Proofs.YtnkfdobcmfdhfaaDoor.Pure
open Go.RowKit Go.Proofs.YtnkfdobcmfdhfaaDoor.P Go.Proofs.YtnkfdobcmfdhfaaDoorW.PrintWords Go.Proofs.YtnkfdobcmfdhfaaDoorW.PrintLast
theorem SpansOrder : mummerlaw03_SpansOrder.Goal := by
  intro a b c d e f _ _ _ _ _ _; exact law_order ⟨a, b⟩ ⟨c, d⟩ ⟨e, f⟩
end Go.Proofs.YtnkfdobcmfdhfaaDoor.Pure
