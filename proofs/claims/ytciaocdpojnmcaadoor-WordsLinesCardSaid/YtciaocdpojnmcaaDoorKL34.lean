import Derived.Test.YtciaocdpojnmcaaDoorKL32
import Derived.Test.YtciaocdpojnmcaaDoorKL33
namespace Go.Proofs.YtciaocdpojnmcaaDoor.P
open Go.RowKit Go.Proofs.YtciaocdpojnmcaaDoorW.PrintWords Go.Proofs.YtciaocdpojnmcaaDoorW.PrintLast
/-- What is left to prove of the law. -/
def mummerlaw01_WordsLines.Goal : Prop := ∀ (a0 : ByteArray) (a1 : ByteArray) (a2 : Bool), (a0.size ≤ 140737488351232) → (a1.size ≤ 140737488351232) → ∃ k, mummerlaw01_WordsLines.f k a0 a1 a2 = some true
end Go.Proofs.YtciaocdpojnmcaaDoor.P
