import Derived.Test.YtpjcahjpjeiicaaKG27
import Derived.Test.YtpjcahjpjeiicaaKG28
namespace Go.Proofs.Ytpjcahjpjeiicaa.Pure
open Go.RowKit Go.Proofs.Ytpjcahjpjeiicaa.P Go.Proofs.YtpjcahjpjeiicaaW.PrintWords Go.Proofs.YtpjcahjpjeiicaaW.PrintLast
theorem BindsGreatest : mummerlaw11_BindsGreatest.Goal := by
  intro l0 a b _ _ _; exact law_greatest l0 a b
end Go.Proofs.Ytpjcahjpjeiicaa.Pure
