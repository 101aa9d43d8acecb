import Derived.Test.YtnkfdobcmfdhfaaDoorKL31
import Derived.Test.YtnkfdobcmfdhfaaDoorKL37
namespace Go.Proofs.YtnkfdobcmfdhfaaDoor.Pure
open Go.RowKit Go.Proofs.YtnkfdobcmfdhfaaDoor.P Go.Proofs.YtnkfdobcmfdhfaaDoorW.PrintWords Go.Proofs.YtnkfdobcmfdhfaaDoorW.PrintLast
theorem SpansPlaces : mummerlaw03_SpansPlaces.Goal := by
  intro l a b c h _ _ _; exact law_places l a b c h.2
end Go.Proofs.YtnkfdobcmfdhfaaDoor.Pure
