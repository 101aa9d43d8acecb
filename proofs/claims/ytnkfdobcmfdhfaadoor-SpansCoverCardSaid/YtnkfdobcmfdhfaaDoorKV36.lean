import Derived.Test.YtnkfdobcmfdhfaaDoorKV29
import Derived.Test.YtnkfdobcmfdhfaaDoorKV35
namespace Go.Proofs.YtnkfdobcmfdhfaaDoor.Pure
open Go.RowKit Go.Proofs.YtnkfdobcmfdhfaaDoor.P Go.Proofs.YtnkfdobcmfdhfaaDoorW.PrintWords Go.Proofs.YtnkfdobcmfdhfaaDoorW.PrintLast
theorem SpansCover : mummerlaw03_SpansCover.Goal := by
  intro l a b _ _ _; exact law_cover l ⟨a, b⟩
end Go.Proofs.YtnkfdobcmfdhfaaDoor.Pure
