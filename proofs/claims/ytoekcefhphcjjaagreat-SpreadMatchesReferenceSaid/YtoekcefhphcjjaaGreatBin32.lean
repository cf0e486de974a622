/- What Leg and Route return, for all integers: the program's and the reference's. -/
import Derived.OwnWalkIn
import Derived.Test.YtoekcefhphcjjaaGreatBin31
import Derived.Test.YtoekcefhphcjjaaGreatBin08
import Derived.Test.YtoekcefhphcjjaaGreatBin30
namespace Go.Proofs.YtoekcefhphcjjaaGreat
open Go.RowKit

noncomputable def okR (m : Msn) (i : Int) : Bool := validB m && ixB m i


end Go.Proofs.YtoekcefhphcjjaaGreat
