import Derived.Test.YtnkfdobcmfdhfaaDoorKB29
import Derived.Test.YtnkfdobcmfdhfaaDoorKB35
namespace Go.Proofs.YtnkfdobcmfdhfaaDoor.Pure
open Go.RowKit Go.Proofs.YtnkfdobcmfdhfaaDoor.P Go.Proofs.YtnkfdobcmfdhfaaDoorW.PrintWords Go.Proofs.YtnkfdobcmfdhfaaDoorW.PrintLast
theorem SpansBack : mummerlaw03_SpansBack.Goal := by
  intro l a b h h1 h2; exact law_back l a b h.2 h1 h2
end Go.Proofs.YtnkfdobcmfdhfaaDoor.Pure
