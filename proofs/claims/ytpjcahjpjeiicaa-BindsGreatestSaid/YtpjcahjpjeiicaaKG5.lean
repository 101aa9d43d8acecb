import Derived.Test.YtpjcahjpjeiicaaKG1

