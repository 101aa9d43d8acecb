-- Written by wip/tools/myprint.py of this session over the kit's print; Lean checks it.
import Derived.Test.YtnkfdobcmfdhfaaDoorOpen
import Derived.Test.YtnkfdobcmfdhfaaDoorPx34
namespace Go.Proofs.YtnkfdobcmfdhfaaDoor.P
open Go.RowKit Go.Proofs.YtnkfdobcmfdhfaaDoorW.PrintWords Go.Proofs.YtnkfdobcmfdhfaaDoorW.PrintLast
/-- What is left to prove of the law. -/
def mummerlaw03_SpansKnown.Goal : Prop := ∃ k, mummerlaw03_SpansKnown.f k  = some true
end Go.Proofs.YtnkfdobcmfdhfaaDoor.P
