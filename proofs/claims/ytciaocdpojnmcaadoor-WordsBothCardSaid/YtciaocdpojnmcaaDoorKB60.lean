import Derived.Test.YtciaocdpojnmcaaDoorKB35
import Derived.Test.YtciaocdpojnmcaaDoorKB59
namespace Go.Proofs.YtciaocdpojnmcaaDoor.Pure
open Go.RowKit Go.Proofs.YtciaocdpojnmcaaDoor.P Go.Proofs.YtciaocdpojnmcaaDoorW.PrintWords Go.Proofs.YtciaocdpojnmcaaDoorW.PrintLast
theorem WordsBoth : mummerlaw01_WordsBoth.Goal := fun l0 l1 _ _ => law_both l0 l1
end Go.Proofs.YtciaocdpojnmcaaDoor.Pure
