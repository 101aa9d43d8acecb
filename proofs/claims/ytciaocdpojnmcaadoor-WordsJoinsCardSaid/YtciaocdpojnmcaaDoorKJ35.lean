import Derived.Test.YtciaocdpojnmcaaDoorKJ32
import Derived.Test.YtciaocdpojnmcaaDoorKJ34
namespace Go.Proofs.YtciaocdpojnmcaaDoor.P
open Go.RowKit Go.Proofs.YtciaocdpojnmcaaDoorW.PrintWords Go.Proofs.YtciaocdpojnmcaaDoorW.PrintLast
/-- What is left to prove of the law. -/
def mummerlaw01_WordsJoins.Goal : Prop := ∀ (l0 : (List S43)), (l0.length ≤ 9223372036854775807 ∧ ∀ z ∈ l0, W43 z) → ∃ k, mummerlaw01_WordsJoins.f k l0 = some true
end Go.Proofs.YtciaocdpojnmcaaDoor.P
