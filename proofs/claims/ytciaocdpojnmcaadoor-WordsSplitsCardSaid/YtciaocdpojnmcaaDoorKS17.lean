import Derived.Test.YtciaocdpojnmcaaDoorKS13

