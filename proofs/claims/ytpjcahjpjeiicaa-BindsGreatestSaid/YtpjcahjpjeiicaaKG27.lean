import Derived.Test.YtpjcahjpjeiicaaKG22
import Derived.Test.YtpjcahjpjeiicaaKG26
namespace Go.Proofs.Ytpjcahjpjeiicaa.P
open Go.RowKit Go.Proofs.YtpjcahjpjeiicaaW.PrintWords Go.Proofs.YtpjcahjpjeiicaaW.PrintLast
/-- What is left to prove of the law. -/
def mummerlaw11_BindsGreatest.Goal : Prop := ∀ (l0 : (List S24)) (a1 : ByteArray) (a2 : ByteArray), (l0.length ≤ 9223372036854775807 ∧ ∀ z ∈ l0, W24 z) → (a1.size ≤ 140737488351232) → (a2.size ≤ 140737488351232) → ∃ k, mummerlaw11_BindsGreatest.f k l0 a1 a2 = some true
end Go.Proofs.Ytpjcahjpjeiicaa.P
