/- -/
import Derived.Test.YthipcinibldgnaaGreatBin07
import Derived.Test.YthipcinibldgnaaGreatBin09
