import Derived.Test.YtciaocdpojnmcaaDoorKS3

