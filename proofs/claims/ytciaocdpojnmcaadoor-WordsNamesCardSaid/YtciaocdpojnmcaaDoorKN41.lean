import Derived.Test.YtciaocdpojnmcaaDoorKN35
import Derived.Test.YtciaocdpojnmcaaDoorKN40
namespace Go.Proofs.YtciaocdpojnmcaaDoor.Pure
open Go.RowKit Go.Proofs.YtciaocdpojnmcaaDoor.P Go.Proofs.YtciaocdpojnmcaaDoorW.PrintWords Go.Proofs.YtciaocdpojnmcaaDoorW.PrintLast
theorem WordsNames : mummerlaw01_WordsNames.Goal := fun a0 a1 a2 _ h1 h2 => law_names a0 a1 a2 h1 h2
end Go.Proofs.YtciaocdpojnmcaaDoor.Pure
