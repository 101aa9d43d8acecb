import Derived.Test.YtciaocdpojnmcaaDoorKB39
import Derived.Test.YtciaocdpojnmcaaDoorKB33
namespace Go.Proofs.YtciaocdpojnmcaaDoor.P
open Go.RowKit Go.Proofs.YtciaocdpojnmcaaDoorW.PrintWords Go.Proofs.YtciaocdpojnmcaaDoorW.PrintLast
set_option linter.unusedVariables false
set_option linter.unusedSimpArgs false
set_option maxRecDepth 20000
theorem mk_app (x y : List UInt8) : (⟨x.toArray⟩ : ByteArray) ++ (⟨y.toArray⟩ : ByteArray) = ⟨(x ++ y).toArray⟩ := by
  apply ByteArray.ext
  simp
end Go.Proofs.YtciaocdpojnmcaaDoor.P
