import Derived.Test.YtpjcahjpjeiicaaKS1
import Derived.Test.YtpjcahjpjeiicaaKS2

