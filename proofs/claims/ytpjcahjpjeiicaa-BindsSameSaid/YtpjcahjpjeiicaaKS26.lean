import Derived.Test.YtpjcahjpjeiicaaKS22
import Derived.Test.YtpjcahjpjeiicaaKS27
namespace Go.Proofs.Ytpjcahjpjeiicaa.P
open Go.RowKit Go.Proofs.YtpjcahjpjeiicaaW.PrintWords Go.Proofs.YtpjcahjpjeiicaaW.PrintLast
/-- What is left to prove of the law. -/
def mummerlaw11_BindsSame.Goal : Prop := ∀ (l0 : (List S24)) (a1_0 : ByteArray) (a1_1 : ByteArray) (a1_2 : Int) (a1_3 : Int) (a2_0 : ByteArray) (a2_1 : ByteArray) (a2_2 : Int) (a2_3 : Int), (l0.length ≤ 9223372036854775807 ∧ ∀ z ∈ l0, W24 z) → (a1_0.size ≤ 9223372036854775807) → (a1_1.size ≤ 9223372036854775807) → ((-9223372036854775808) ≤ a1_2 ∧ a1_2 ≤ 9223372036854775807) → ((-9223372036854775808) ≤ a1_3 ∧ a1_3 ≤ 9223372036854775807) → (a2_0.size ≤ 9223372036854775807) → (a2_1.size ≤ 9223372036854775807) → ((-9223372036854775808) ≤ a2_2 ∧ a2_2 ≤ 9223372036854775807) → ((-9223372036854775808) ≤ a2_3 ∧ a2_3 ≤ 9223372036854775807) → ∃ k, mummerlaw11_BindsSame.f k l0 a1_0 a1_1 a1_2 a1_3 a2_0 a2_1 a2_2 a2_3 = some true
end Go.Proofs.Ytpjcahjpjeiicaa.P
