import Derived.Test.YtciaocdpojnmcaaDoorKQ35
import Derived.Test.YtciaocdpojnmcaaDoorKQ37
namespace Go.Proofs.YtciaocdpojnmcaaDoor.Pure
open Go.RowKit Go.Proofs.YtciaocdpojnmcaaDoor.P Go.Proofs.YtciaocdpojnmcaaDoorW.PrintWords Go.Proofs.YtciaocdpojnmcaaDoorW.PrintLast
theorem WordsQuotes : mummerlaw01_WordsQuotes.Goal := fun a0 _ => law_quotes a0
end Go.Proofs.YtciaocdpojnmcaaDoor.Pure
