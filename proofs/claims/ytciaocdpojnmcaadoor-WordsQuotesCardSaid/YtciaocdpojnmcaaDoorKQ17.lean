import Derived.Test.YtciaocdpojnmcaaDoorKQ13

