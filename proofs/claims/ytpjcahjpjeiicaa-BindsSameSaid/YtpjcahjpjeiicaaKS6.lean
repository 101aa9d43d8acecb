import Derived.Test.YtpjcahjpjeiicaaKS4
import Derived.Test.YtpjcahjpjeiicaaKS5

