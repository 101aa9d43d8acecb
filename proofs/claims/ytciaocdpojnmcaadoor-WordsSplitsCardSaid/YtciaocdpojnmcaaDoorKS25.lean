import Derived.Test.YtciaocdpojnmcaaDoorKS19

