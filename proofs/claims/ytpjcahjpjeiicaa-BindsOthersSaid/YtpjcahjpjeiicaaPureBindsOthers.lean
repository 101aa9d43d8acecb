import Derived.Test.YtpjcahjpjeiicaaGoalBindsOthers
import Derived.Test.YtpjcahjpjeiicaaL9
namespace Go.Proofs.Ytpjcahjpjeiicaa.Pure
open Go.RowKit Go.Proofs.Ytpjcahjpjeiicaa.P Go.Proofs.YtpjcahjpjeiicaaW.PrintWords Go.Proofs.YtpjcahjpjeiicaaW.PrintLast

theorem BindsOthers : mummerlaw11_BindsOthers.Goal := by
  intro l0 a b _ _ _; exact law_others l0 a b

end Go.Proofs.Ytpjcahjpjeiicaa.Pure
