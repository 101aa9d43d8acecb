import Derived.Test.YtciaocdpojnmcaaDoorKN19

