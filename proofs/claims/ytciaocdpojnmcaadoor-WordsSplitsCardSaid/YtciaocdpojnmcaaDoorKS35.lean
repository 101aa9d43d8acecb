import Derived.Test.YtciaocdpojnmcaaDoorKS32
import Derived.Test.YtciaocdpojnmcaaDoorKS34
namespace Go.Proofs.YtciaocdpojnmcaaDoor.P
open Go.RowKit Go.Proofs.YtciaocdpojnmcaaDoorW.PrintWords Go.Proofs.YtciaocdpojnmcaaDoorW.PrintLast
/-- What is left to prove of the law. -/
def mummerlaw01_WordsSplits.Goal : Prop := ∀ (a0 : ByteArray), (a0.size ≤ 140737488351232) → ∃ k, mummerlaw01_WordsSplits.f k a0 = some true
end Go.Proofs.YtciaocdpojnmcaaDoor.P
