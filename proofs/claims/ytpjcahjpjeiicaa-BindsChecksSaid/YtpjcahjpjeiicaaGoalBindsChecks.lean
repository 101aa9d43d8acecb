-- Written by wip/tools/myprint.py of this session over the kit's print; Lean checks it.
import Derived.Test.YtpjcahjpjeiicaaOpen
import Derived.Test.YtpjcahjpjeiicaaPx24
namespace Go.Proofs.Ytpjcahjpjeiicaa.P
open Go.RowKit Go.Proofs.YtpjcahjpjeiicaaW.PrintWords Go.Proofs.YtpjcahjpjeiicaaW.PrintLast
/-- What is left to prove of the law. -/
def mummerlaw11_BindsChecks.Goal : Prop := ∀ (l0 : (List S24)) (a1_0 : ByteArray) (a1_1 : ByteArray) (a1_2 : Int) (a1_3 : Int), (l0.length ≤ 9223372036854775807 ∧ ∀ z ∈ l0, W24 z) → (a1_0.size ≤ 9223372036854775807) → (a1_1.size ≤ 9223372036854775807) → ((-9223372036854775808) ≤ a1_2 ∧ a1_2 ≤ 9223372036854775807) → ((-9223372036854775808) ≤ a1_3 ∧ a1_3 ≤ 9223372036854775807) → ∃ k, mummerlaw11_BindsChecks.f k l0 a1_0 a1_1 a1_2 a1_3 = some true
end Go.Proofs.Ytpjcahjpjeiicaa.P
