/- -/
import Derived.Test.YtpimbaaahcemhaaGreatBin06
import Derived.Test.YtpimbaaahcemhaaGreatBin12
