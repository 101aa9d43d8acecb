import Derived.Test.YtpjcahjpjeiicaaKG4
import Derived.Test.YtpjcahjpjeiicaaKG5

