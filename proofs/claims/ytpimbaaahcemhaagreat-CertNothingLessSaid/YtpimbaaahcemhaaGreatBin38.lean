/- Closed facts of the row of the law: If one number of the certificate that Make returns is less by 1, it is not right, or not well-formed. | Closed .. -/
import Derived.Test.YtpimbaaahcemhaaGreatBin36
import Derived.Test.YtpimbaaahcemhaaGreatBin27
namespace Go.Proofs.YtpimbaaahcemhaaGreat.certNothingLess
open Go.ChangeShapes Go.WideShapes Go.ChangeAt Go.RowKit
set_option maxRecDepth 100000 in
theorem jf_inPlace:(Rows.certNothingLessRow.inPlace == Tryz.pinned.checked.prog.inPlace 4)=true:=by kernel_rfl
set_option maxRecDepth 100000 in
theorem jf_unfollowed:(Rows.certNothingLessRow.unfollowed == Tryz.pinned.checked.prog.unfollowed 4)=true:=by kernel_rfl
end Go.Proofs.YtpimbaaahcemhaaGreat.certNothingLess
namespace Go.Proofs.YtpimbaaahcemhaaGreat.certNothingLess
open Go.ChangeShapes Go.WideShapes Go.ChangeAt Go.RowKit
set_option maxRecDepth 100000 in
theorem jf_recurses:(Rows.certNothingLessRow.recurses == Tryz.pinned.checked.prog.recurses 4)=true:=by kernel_rfl
set_option maxRecDepth 100000 in
theorem jf_named:(Rows.certNothingLessRow.named == Tryz.pinned.checked.prog.varsNamed 4)=true:=by kernel_rfl
end Go.Proofs.YtpimbaaahcemhaaGreat.certNothingLess
namespace Go.Proofs.YtpimbaaahcemhaaGreat.certNothingLess
open Go.ChangeShapes Go.WideShapes Go.ChangeAt Go.RowKit
set_option maxRecDepth 100000 in
set_option maxHeartbeats 4000000 in
theorem jf:joinedFacts Tryz.pinned.checked.prog 4 Tryz.f4 Rows.certNothingLessSpec Rows.certNothingLessRow=true:=by
 unfold joinedFacts
 rw [jf_inPlace,jf_unfollowed,jf_recurses,jf_named]
 simp only [Bool.and_eq_true]
 repeat' apply And.intro
 all_goals (first | exact True.intro | (as_aux_lemma=>kernel_rfl))
end Go.Proofs.YtpimbaaahcemhaaGreat.certNothingLess
