import Derived.Test.YtnkfdobcmfdhfaaDoorKX29
import Derived.Test.YtnkfdobcmfdhfaaDoorKX41
namespace Go.Proofs.YtnkfdobcmfdhfaaDoor.Pure
open Go.RowKit Go.Proofs.YtnkfdobcmfdhfaaDoor.P Go.Proofs.YtnkfdobcmfdhfaaDoorW.PrintWords Go.Proofs.YtnkfdobcmfdhfaaDoorW.PrintLast
theorem SpansEdits : mummerlaw03_SpansEdits.Goal := by
  intro l p a b c d _ _ _ _ _ _; exact law_edits l p ⟨a, b⟩ ⟨c, d⟩
end Go.Proofs.YtnkfdobcmfdhfaaDoor.Pure
