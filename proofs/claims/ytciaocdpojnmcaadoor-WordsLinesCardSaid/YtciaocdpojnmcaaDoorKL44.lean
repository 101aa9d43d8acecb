import Derived.Test.YtciaocdpojnmcaaDoorKL34
import Derived.Test.YtciaocdpojnmcaaDoorKL43
namespace Go.Proofs.YtciaocdpojnmcaaDoor.Pure
open Go.RowKit Go.Proofs.YtciaocdpojnmcaaDoor.P Go.Proofs.YtciaocdpojnmcaaDoorW.PrintWords Go.Proofs.YtciaocdpojnmcaaDoorW.PrintLast
theorem WordsLines : mummerlaw01_WordsLines.Goal := fun a0 a1 a2 _ _ => law_lines a0 a1 a2
end Go.Proofs.YtciaocdpojnmcaaDoor.Pure
