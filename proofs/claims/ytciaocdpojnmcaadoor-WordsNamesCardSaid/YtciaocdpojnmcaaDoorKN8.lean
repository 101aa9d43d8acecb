import Derived.Test.YtciaocdpojnmcaaDoorKN3

