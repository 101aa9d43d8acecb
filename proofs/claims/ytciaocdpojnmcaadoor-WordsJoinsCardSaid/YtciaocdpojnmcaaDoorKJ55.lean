import Derived.Test.YtciaocdpojnmcaaDoorKJ35
import Derived.Test.YtciaocdpojnmcaaDoorKJ54
namespace Go.Proofs.YtciaocdpojnmcaaDoor.Pure
open Go.RowKit Go.Proofs.YtciaocdpojnmcaaDoor.P Go.Proofs.YtciaocdpojnmcaaDoorW.PrintWords Go.Proofs.YtciaocdpojnmcaaDoorW.PrintLast
theorem WordsJoins : mummerlaw01_WordsJoins.Goal := fun l0 _ => law_joins l0
end Go.Proofs.YtciaocdpojnmcaaDoor.Pure
