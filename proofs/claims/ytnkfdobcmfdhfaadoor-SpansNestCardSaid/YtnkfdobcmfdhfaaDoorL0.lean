import Derived.Test.YtnkfdobcmfdhfaaDoorPx15
namespace Go.Proofs.YtnkfdobcmfdhfaaDoor.P
open Go.RowKit Go.Proofs.YtnkfdobcmfdhfaaDoorW.PrintWords Go.Proofs.YtnkfdobcmfdhfaaDoorW.PrintLast Sc
set_option linter.unusedVariables false
set_option linter.unusedSimpArgs false
set_option maxRecDepth 20000
theorem awake60 : mummerlaw03_awake.f 60 = some true := by decide +kernel
theorem awake_f (k : Nat) (h : 60 ≤ k) : mummerlaw03_awake.f k = some true := by
  induction h with
  | refl => exact awake60
  | step _ ih => exact mummerlaw03_awake.mono _ _ ih
end Go.Proofs.YtnkfdobcmfdhfaaDoor.P
