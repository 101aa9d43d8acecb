import Derived.Test.YtpjcahjpjeiicaaKS26
import Derived.Test.YtpjcahjpjeiicaaKS27
namespace Go.Proofs.Ytpjcahjpjeiicaa.Pure
open Go.RowKit Go.Proofs.Ytpjcahjpjeiicaa.P Go.Proofs.YtpjcahjpjeiicaaW.PrintWords Go.Proofs.YtpjcahjpjeiicaaW.PrintLast
theorem BindsSame : mummerlaw11_BindsSame.Goal := by
  intro l0 a b c d e f g h _ _ _ _ _ _ _ _ _; exact law_same l0 ⟨a, b, c, d⟩ ⟨e, f, g, h⟩
end Go.Proofs.Ytpjcahjpjeiicaa.Pure
