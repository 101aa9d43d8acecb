import Derived.Test.YtnkfdobcmfdhfaaDoorKP29
import Derived.Test.YtnkfdobcmfdhfaaDoorKP34
namespace Go.Proofs.YtnkfdobcmfdhfaaDoor.Pure
open Go.RowKit Go.Proofs.YtnkfdobcmfdhfaaDoor.P Go.Proofs.YtnkfdobcmfdhfaaDoorW.PrintWords Go.Proofs.YtnkfdobcmfdhfaaDoorW.PrintLast
theorem SpansPairs : mummerlaw03_SpansPairs.Goal := by
  intro l n _ _; exact law_pairs l n
end Go.Proofs.YtnkfdobcmfdhfaaDoor.Pure
