/- What Leg and Route return, for all integers: the program's and the reference's. -/
import Derived.OwnWalkIn
import Derived.Test.YtoekcefhphcjjaaBin28
import Derived.Test.YtoekcefhphcjjaaBin08
namespace Go.Proofs.Ytoekcefhphcjjaa
open Go.RowKit

noncomputable def okR (m : Msn) (i : Int) : Bool := validB m && ixB m i


end Go.Proofs.Ytoekcefhphcjjaa
