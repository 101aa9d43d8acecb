import Derived.Test.YtciaocdpojnmcaaDoorKQ3

