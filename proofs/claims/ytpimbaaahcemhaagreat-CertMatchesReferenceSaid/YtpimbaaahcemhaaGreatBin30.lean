/- -/
import Derived.Test.YtpimbaaahcemhaaGreatBin15
import Derived.Test.YtpimbaaahcemhaaGreatBin26
