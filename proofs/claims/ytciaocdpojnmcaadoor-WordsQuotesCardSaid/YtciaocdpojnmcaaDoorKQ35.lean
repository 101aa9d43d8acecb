import Derived.Test.YtciaocdpojnmcaaDoorKQ32
import Derived.Test.YtciaocdpojnmcaaDoorKQ34
namespace Go.Proofs.YtciaocdpojnmcaaDoor.P
open Go.RowKit Go.Proofs.YtciaocdpojnmcaaDoorW.PrintWords Go.Proofs.YtciaocdpojnmcaaDoorW.PrintLast
/-- What is left to prove of the law. -/
def mummerlaw01_WordsQuotes.Goal : Prop := ∀ (a0 : ByteArray), (a0.size ≤ 140737488351232) → ∃ k, mummerlaw01_WordsQuotes.f k a0 = some true
end Go.Proofs.YtciaocdpojnmcaaDoor.P
