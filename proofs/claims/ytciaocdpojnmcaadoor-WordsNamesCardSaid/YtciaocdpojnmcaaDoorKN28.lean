import Derived.Test.YtciaocdpojnmcaaDoorKN20
import Derived.Test.YtciaocdpojnmcaaDoorKN1
import Derived.Test.YtciaocdpojnmcaaDoorKN19
import Derived.Lib.SplitLaws

