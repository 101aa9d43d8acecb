import Derived.Test.YtciaocdpojnmcaaDoorKQ20
import Derived.Test.YtciaocdpojnmcaaDoorKQ1
import Derived.Test.YtciaocdpojnmcaaDoorKQ19
import Derived.Lib.SplitLaws

