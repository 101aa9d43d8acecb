import Derived.Test.YtpjcahjpjeiicaaGoalBindsChecks
import Derived.Test.YtpjcahjpjeiicaaL6
namespace Go.Proofs.Ytpjcahjpjeiicaa.Pure
open Go.RowKit Go.Proofs.Ytpjcahjpjeiicaa.P Go.Proofs.YtpjcahjpjeiicaaW.PrintWords Go.Proofs.YtpjcahjpjeiicaaW.PrintLast

theorem BindsChecks : mummerlaw11_BindsChecks.Goal := by
  intro l0 a b c d _ _ _ _ _; exact law_checks l0 ⟨a, b, c, d⟩

end Go.Proofs.Ytpjcahjpjeiicaa.Pure
