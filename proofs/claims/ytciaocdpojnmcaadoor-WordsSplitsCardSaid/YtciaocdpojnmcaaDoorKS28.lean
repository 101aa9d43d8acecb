import Derived.Test.YtciaocdpojnmcaaDoorKS20
import Derived.Test.YtciaocdpojnmcaaDoorKS1
import Derived.Test.YtciaocdpojnmcaaDoorKS19
import Derived.Lib.SplitLaws

