import Derived.Test.YtpjcahjpjeiicaaKS1

