import Derived.Test.YtciaocdpojnmcaaDoorKN13

