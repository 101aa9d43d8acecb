import Derived.Test.YtciaocdpojnmcaaDoorKB32
import Derived.Test.YtciaocdpojnmcaaDoorKB34
namespace Go.Proofs.YtciaocdpojnmcaaDoor.P
open Go.RowKit Go.Proofs.YtciaocdpojnmcaaDoorW.PrintWords Go.Proofs.YtciaocdpojnmcaaDoorW.PrintLast
/-- What is left to prove of the law. -/
def mummerlaw01_WordsBoth.Goal : Prop := ∀ (l0 : (List S43)) (l1 : (List S43)), (l0.length ≤ 9223372036854775807 ∧ ∀ z ∈ l0, W43 z) → (l1.length ≤ 9223372036854775807 ∧ ∀ z ∈ l1, W43 z) → ∃ k, mummerlaw01_WordsBoth.f k l0 l1 = some true
end Go.Proofs.YtciaocdpojnmcaaDoor.P
