import Derived.Test.YtpjcahjpjeiicaaKG10

