import Derived.Test.YtciaocdpojnmcaaDoorKQ34
import Derived.Test.YtciaocdpojnmcaaDoorKQ36
namespace Go.Proofs.YtciaocdpojnmcaaDoor.Pure
open Go.RowKit Go.Proofs.YtciaocdpojnmcaaDoor.P Go.Proofs.YtciaocdpojnmcaaDoorW.PrintWords Go.Proofs.YtciaocdpojnmcaaDoorW.PrintLast
theorem WordsQuotes : mummerlaw01_WordsQuotes.Goal := fun a0 _ => law_quotes a0
end Go.Proofs.YtciaocdpojnmcaaDoor.Pure
