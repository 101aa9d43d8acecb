import Derived.Test.YtpjcahjpjeiicaaKS10

