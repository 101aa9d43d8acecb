import Derived.Test.YtciaocdpojnmcaaDoorKS35
import Derived.Test.YtciaocdpojnmcaaDoorKS37
namespace Go.Proofs.YtciaocdpojnmcaaDoor.Pure
open Go.RowKit Go.Proofs.YtciaocdpojnmcaaDoor.P Go.Proofs.YtciaocdpojnmcaaDoorW.PrintWords Go.Proofs.YtciaocdpojnmcaaDoorW.PrintLast
theorem WordsSplits : mummerlaw01_WordsSplits.Goal := fun a0 _ => law_splits a0
end Go.Proofs.YtciaocdpojnmcaaDoor.Pure
