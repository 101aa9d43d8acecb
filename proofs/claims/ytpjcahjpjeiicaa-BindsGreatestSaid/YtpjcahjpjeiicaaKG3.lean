import Derived.Test.YtpjcahjpjeiicaaKG1
import Derived.Test.YtpjcahjpjeiicaaKG2

