import Derived.Test.YtciaocdpojnmcaaDoorKN33

