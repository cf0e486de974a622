/- Closed facts of the row of the law: There is a certificate exactly if all legs are kept, and it is right; otherwise the error is the one for the ki .. -/
import Derived.Test.YtpimbaaahcemhaaGreatBin37
import Derived.Test.YtpimbaaahcemhaaGreatBin28
namespace Go.Proofs.YtpimbaaahcemhaaGreat.certPlans
open Go.ChangeShapes Go.WideShapes Go.ChangeAt Go.RowKit
set_option maxRecDepth 100000 in
theorem jf_inPlace:(Rows.certPlansRow.inPlace == Tryz.pinned.checked.prog.inPlace 6)=true:=by kernel_rfl
set_option maxRecDepth 100000 in
theorem jf_unfollowed:(Rows.certPlansRow.unfollowed == Tryz.pinned.checked.prog.unfollowed 6)=true:=by kernel_rfl
end Go.Proofs.YtpimbaaahcemhaaGreat.certPlans
namespace Go.Proofs.YtpimbaaahcemhaaGreat.certPlans
open Go.ChangeShapes Go.WideShapes Go.ChangeAt Go.RowKit
set_option maxRecDepth 100000 in
theorem jf_recurses:(Rows.certPlansRow.recurses == Tryz.pinned.checked.prog.recurses 6)=true:=by kernel_rfl
set_option maxRecDepth 100000 in
theorem jf_named:(Rows.certPlansRow.named == Tryz.pinned.checked.prog.varsNamed 6)=true:=by kernel_rfl
end Go.Proofs.YtpimbaaahcemhaaGreat.certPlans
namespace Go.Proofs.YtpimbaaahcemhaaGreat.certPlans
open Go.ChangeShapes Go.WideShapes Go.ChangeAt Go.RowKit
set_option maxRecDepth 100000 in
set_option maxHeartbeats 4000000 in
theorem jf:joinedFacts Tryz.pinned.checked.prog 6 Tryz.f6 Rows.certPlansSpec Rows.certPlansRow=true:=by
 unfold joinedFacts
 rw [jf_inPlace,jf_unfollowed,jf_recurses,jf_named]
 simp only [Bool.and_eq_true]
 repeat' apply And.intro
 all_goals (first | exact True.intro | (as_aux_lemma=>kernel_rfl))
end Go.Proofs.YtpimbaaahcemhaaGreat.certPlans
