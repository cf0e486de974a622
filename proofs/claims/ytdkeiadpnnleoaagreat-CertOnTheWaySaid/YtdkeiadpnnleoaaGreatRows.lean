/-
  No cell of these rows narrows 'for every input' (looked for: loops, veiled, ifaces, maps, wideKeys, modest, calm, conditions, laid).
  DERIVED. THE GIVEN ROWS OF THIS SEAT. 16 by the template 'for every input the law returns true; each argument reads behind the call as it read before'; 0 by the template 'total and deterministic' (their statements: YtdkeiadpnnleoaaGreatTotals.lean).
  GIVEN WITH THE SEED: the statements are not yours to turn. If you find one false, say at which input.
  Laid BY PROGRAM, IN A SANDBOX (cutbox-rows.mjs): the forced cells as the released guide's own fill.sh prints them over the translation 2a47a835fd3f82d1… (all of the seat's roots in one cut). By AI agents, Wed Nov 11 2026. No macro, syntax, notation, axiom, sorry.
-/
import Derived.Test.YtdkeiadpnnleoaaGreatChecked
import GoSem.Claim
import GoSem.ClaimJoined
import GoSem.ClaimMapViews
import Derived.JoinedTies
import Derived.KernelRfl
namespace Go.Proofs.YtdkeiadpnnleoaaGreat
/- THE CELL 'sum', in the pinned program and in every row, IS THE sha256 OF THE DUMP (.gsa) THAT YtdkeiadpnnleoaaGreatProg.lean LOADS. Nothing in Lean hashes anything: it is a label: what it is worth is what the hold of that sum in a sandbox is worth. -/
noncomputable def Tryz.pinned : Pinned := { name := "ytdkeiadpnnleoaagreat", sum := "2a47a835fd3f82d13fa9bf52736255eae048e56042730c6a40d28afb1704d43c", checked := Tryz.checked }
namespace Rows
def none {H : Type} : Left H := { results := [], args := [] }

/-- 'landfalltop.TopRefused': WHATEVER THE INPUT: true; the input reads as it did. -/
def topRefusedSpec : ChangeSpec := { name := "topRefused", fn := fun _ => fun
  | [d1, d2] => { results := [.lit (.bool true)], args := [d1, d2] }
  | _ => none }
def topRefusedRow : OpenClaim := { program := "ytdkeiadpnnleoaagreat", sum := "2a47a835fd3f82d13fa9bf52736255eae048e56042730c6a40d28afb1704d43c", func := "landfall/landfalltop.TopRefused", spec := "topRefused", unfollowed := true, recurses := true, apart := false }
def TopRefusedSaid : Prop := topRefusedRow.holds Tryz.pinned (OpenSpec.ofChange topRefusedSpec)

/-- ITS FALSE NEIGHBOUR: 'it returns false'. Refute it at one input. -/
def topRefusedWrong : ChangeSpec := { name := "topRefused", fn := fun _ => fun
  | [d1, d2] => { results := [.lit (.bool false)], args := [d1, d2] }
  | _ => none }
def TopRefusedWrongFalsely : Prop := topRefusedRow.holds Tryz.pinned (OpenSpec.ofChange topRefusedWrong)

/-- 'landfalltop.TopStays': WHATEVER THE INPUT: true; the input reads as it did. -/
def topStaysSpec : ChangeSpec := { name := "topStays", fn := fun _ => fun
  | [d1, d2, d3, d4, d5] => { results := [.lit (.bool true)], args := [d1, d2, d3, d4, d5] }
  | _ => none }
def topStaysRow : OpenClaim := { program := "ytdkeiadpnnleoaagreat", sum := "2a47a835fd3f82d13fa9bf52736255eae048e56042730c6a40d28afb1704d43c", func := "landfall/landfalltop.TopStays", spec := "topStays", unfollowed := true, recurses := true, apart := false }
def TopStaysSaid : Prop := topStaysRow.holds Tryz.pinned (OpenSpec.ofChange topStaysSpec)

/-- ITS FALSE NEIGHBOUR: 'it returns false'. Refute it at one input. -/
def topStaysWrong : ChangeSpec := { name := "topStays", fn := fun _ => fun
  | [d1, d2, d3, d4, d5] => { results := [.lit (.bool false)], args := [d1, d2, d3, d4, d5] }
  | _ => none }
def TopStaysWrongFalsely : Prop := topStaysRow.holds Tryz.pinned (OpenSpec.ofChange topStaysWrong)

/-- 'landfalllaw35.PlanMatchesReference': WHATEVER THE INPUT: true; the input reads as it did. -/
def planMatchesReferenceSpec : ChangeSpec := { name := "planMatchesReference", fn := fun _ => fun
  | [d1, d2] => { results := [.lit (.bool true)], args := [d1, d2] }
  | _ => none }
def planMatchesReferenceRow : OpenClaim := { program := "ytdkeiadpnnleoaagreat", sum := "2a47a835fd3f82d13fa9bf52736255eae048e56042730c6a40d28afb1704d43c", func := "landfall/landfalllaw35.PlanMatchesReference", spec := "planMatchesReference", unfollowed := true, recurses := true, apart := false }
def PlanMatchesReferenceSaid : Prop := planMatchesReferenceRow.holds Tryz.pinned (OpenSpec.ofChange planMatchesReferenceSpec)

/-- ITS FALSE NEIGHBOUR: 'it returns false'. Refute it at one input. -/
def planMatchesReferenceWrong : ChangeSpec := { name := "planMatchesReference", fn := fun _ => fun
  | [d1, d2] => { results := [.lit (.bool false)], args := [d1, d2] }
  | _ => none }
def PlanMatchesReferenceWrongFalsely : Prop := planMatchesReferenceRow.holds Tryz.pinned (OpenSpec.ofChange planMatchesReferenceWrong)

/-- 'landfalllaw35.PlanKeeps': WHATEVER THE INPUT: true; the input reads as it did. -/
def planKeepsSpec : ChangeSpec := { name := "planKeeps", fn := fun _ => fun
  | [d1, d2] => { results := [.lit (.bool true)], args := [d1, d2] }
  | _ => none }
def planKeepsRow : OpenClaim := { program := "ytdkeiadpnnleoaagreat", sum := "2a47a835fd3f82d13fa9bf52736255eae048e56042730c6a40d28afb1704d43c", func := "landfall/landfalllaw35.PlanKeeps", spec := "planKeeps", unfollowed := true, recurses := true, apart := false }
def PlanKeepsSaid : Prop := planKeepsRow.holds Tryz.pinned (OpenSpec.ofChange planKeepsSpec)

/-- ITS FALSE NEIGHBOUR: 'it returns false'. Refute it at one input. -/
def planKeepsWrong : ChangeSpec := { name := "planKeeps", fn := fun _ => fun
  | [d1, d2] => { results := [.lit (.bool false)], args := [d1, d2] }
  | _ => none }
def PlanKeepsWrongFalsely : Prop := planKeepsRow.holds Tryz.pinned (OpenSpec.ofChange planKeepsWrong)

/-- 'landfalllaw36.CertMatchesReference': WHATEVER THE INPUT: true; the input reads as it did. -/
def certMatchesReferenceSpec : ChangeSpec := { name := "certMatchesReference", fn := fun _ => fun
  | [d1, d2, d3, d4, d5] => { results := [.lit (.bool true)], args := [d1, d2, d3, d4, d5] }
  | _ => none }
def certMatchesReferenceRow : OpenClaim := { program := "ytdkeiadpnnleoaagreat", sum := "2a47a835fd3f82d13fa9bf52736255eae048e56042730c6a40d28afb1704d43c", func := "landfall/landfalllaw36.CertMatchesReference", spec := "certMatchesReference", unfollowed := true, recurses := true, apart := false }
def CertMatchesReferenceSaid : Prop := certMatchesReferenceRow.holds Tryz.pinned (OpenSpec.ofChange certMatchesReferenceSpec)

/-- ITS FALSE NEIGHBOUR: 'it returns false'. Refute it at one input. -/
def certMatchesReferenceWrong : ChangeSpec := { name := "certMatchesReference", fn := fun _ => fun
  | [d1, d2, d3, d4, d5] => { results := [.lit (.bool false)], args := [d1, d2, d3, d4, d5] }
  | _ => none }
def CertMatchesReferenceWrongFalsely : Prop := certMatchesReferenceRow.holds Tryz.pinned (OpenSpec.ofChange certMatchesReferenceWrong)

/-- 'landfalllaw36.CertOnTheWay': WHATEVER THE INPUT: true; the input reads as it did. -/
def certOnTheWaySpec : ChangeSpec := { name := "certOnTheWay", fn := fun _ => fun
  | [d1, d2, d3, d4, d5, d6, d7] => { results := [.lit (.bool true)], args := [d1, d2, d3, d4, d5, d6, d7] }
  | _ => none }
def certOnTheWayRow : OpenClaim := { program := "ytdkeiadpnnleoaagreat", sum := "2a47a835fd3f82d13fa9bf52736255eae048e56042730c6a40d28afb1704d43c", func := "landfall/landfalllaw36.CertOnTheWay", spec := "certOnTheWay", unfollowed := true, recurses := true, apart := false }
def CertOnTheWaySaid : Prop := certOnTheWayRow.holds Tryz.pinned (OpenSpec.ofChange certOnTheWaySpec)

/-- ITS FALSE NEIGHBOUR: 'it returns false'. Refute it at one input. -/
def certOnTheWayWrong : ChangeSpec := { name := "certOnTheWay", fn := fun _ => fun
  | [d1, d2, d3, d4, d5, d6, d7] => { results := [.lit (.bool false)], args := [d1, d2, d3, d4, d5, d6, d7] }
  | _ => none }
def CertOnTheWayWrongFalsely : Prop := certOnTheWayRow.holds Tryz.pinned (OpenSpec.ofChange certOnTheWayWrong)

/-- 'landfalllaw36.CertNothingLess': WHATEVER THE INPUT: true; the input reads as it did. -/
def certNothingLessSpec : ChangeSpec := { name := "certNothingLess", fn := fun _ => fun
  | [d1, d2, d3, d4] => { results := [.lit (.bool true)], args := [d1, d2, d3, d4] }
  | _ => none }
def certNothingLessRow : OpenClaim := { program := "ytdkeiadpnnleoaagreat", sum := "2a47a835fd3f82d13fa9bf52736255eae048e56042730c6a40d28afb1704d43c", func := "landfall/landfalllaw36.CertNothingLess", spec := "certNothingLess", unfollowed := true, recurses := true, apart := false }
def CertNothingLessSaid : Prop := certNothingLessRow.holds Tryz.pinned (OpenSpec.ofChange certNothingLessSpec)

/-- ITS FALSE NEIGHBOUR: 'it returns false'. Refute it at one input. -/
def certNothingLessWrong : ChangeSpec := { name := "certNothingLess", fn := fun _ => fun
  | [d1, d2, d3, d4] => { results := [.lit (.bool false)], args := [d1, d2, d3, d4] }
  | _ => none }
def CertNothingLessWrongFalsely : Prop := certNothingLessRow.holds Tryz.pinned (OpenSpec.ofChange certNothingLessWrong)

/-- 'landfalllaw36.CertRocks': WHATEVER THE INPUT: true; the input reads as it did. -/
def certRocksSpec : ChangeSpec := { name := "certRocks", fn := fun _ => fun
  | [d1, d2, d3, d4] => { results := [.lit (.bool true)], args := [d1, d2, d3, d4] }
  | _ => none }
def certRocksRow : OpenClaim := { program := "ytdkeiadpnnleoaagreat", sum := "2a47a835fd3f82d13fa9bf52736255eae048e56042730c6a40d28afb1704d43c", func := "landfall/landfalllaw36.CertRocks", spec := "certRocks", unfollowed := true, recurses := true, apart := false }
def CertRocksSaid : Prop := certRocksRow.holds Tryz.pinned (OpenSpec.ofChange certRocksSpec)

/-- ITS FALSE NEIGHBOUR: 'it returns false'. Refute it at one input. -/
def certRocksWrong : ChangeSpec := { name := "certRocks", fn := fun _ => fun
  | [d1, d2, d3, d4] => { results := [.lit (.bool false)], args := [d1, d2, d3, d4] }
  | _ => none }
def CertRocksWrongFalsely : Prop := certRocksRow.holds Tryz.pinned (OpenSpec.ofChange certRocksWrong)

/-- 'landfalllaw36.CertCovers': WHATEVER THE INPUT: true; the input reads as it did. -/
def certCoversSpec : ChangeSpec := { name := "certCovers", fn := fun _ => fun
  | [d1, d2, d3, d4, d5, d6] => { results := [.lit (.bool true)], args := [d1, d2, d3, d4, d5, d6] }
  | _ => none }
def certCoversRow : OpenClaim := { program := "ytdkeiadpnnleoaagreat", sum := "2a47a835fd3f82d13fa9bf52736255eae048e56042730c6a40d28afb1704d43c", func := "landfall/landfalllaw36.CertCovers", spec := "certCovers", unfollowed := true, recurses := true, apart := false }
def CertCoversSaid : Prop := certCoversRow.holds Tryz.pinned (OpenSpec.ofChange certCoversSpec)

/-- ITS FALSE NEIGHBOUR: 'it returns false'. Refute it at one input. -/
def certCoversWrong : ChangeSpec := { name := "certCovers", fn := fun _ => fun
  | [d1, d2, d3, d4, d5, d6] => { results := [.lit (.bool false)], args := [d1, d2, d3, d4, d5, d6] }
  | _ => none }
def CertCoversWrongFalsely : Prop := certCoversRow.holds Tryz.pinned (OpenSpec.ofChange certCoversWrong)

/-- 'landfalllaw36.CertMore': WHATEVER THE INPUT: true; the input reads as it did. -/
def certMoreSpec : ChangeSpec := { name := "certMore", fn := fun _ => fun
  | [d1, d2, d3, d4, d5] => { results := [.lit (.bool true)], args := [d1, d2, d3, d4, d5] }
  | _ => none }
def certMoreRow : OpenClaim := { program := "ytdkeiadpnnleoaagreat", sum := "2a47a835fd3f82d13fa9bf52736255eae048e56042730c6a40d28afb1704d43c", func := "landfall/landfalllaw36.CertMore", spec := "certMore", unfollowed := true, recurses := true, apart := false }
def CertMoreSaid : Prop := certMoreRow.holds Tryz.pinned (OpenSpec.ofChange certMoreSpec)

/-- ITS FALSE NEIGHBOUR: 'it returns false'. Refute it at one input. -/
def certMoreWrong : ChangeSpec := { name := "certMore", fn := fun _ => fun
  | [d1, d2, d3, d4, d5] => { results := [.lit (.bool false)], args := [d1, d2, d3, d4, d5] }
  | _ => none }
def CertMoreWrongFalsely : Prop := certMoreRow.holds Tryz.pinned (OpenSpec.ofChange certMoreWrong)

/-- 'landfalllaw36.CertPlans': WHATEVER THE INPUT: true; the input reads as it did. -/
def certPlansSpec : ChangeSpec := { name := "certPlans", fn := fun _ => fun
  | [d1, d2] => { results := [.lit (.bool true)], args := [d1, d2] }
  | _ => none }
def certPlansRow : OpenClaim := { program := "ytdkeiadpnnleoaagreat", sum := "2a47a835fd3f82d13fa9bf52736255eae048e56042730c6a40d28afb1704d43c", func := "landfall/landfalllaw36.CertPlans", spec := "certPlans", unfollowed := true, recurses := true, apart := false }
def CertPlansSaid : Prop := certPlansRow.holds Tryz.pinned (OpenSpec.ofChange certPlansSpec)

/-- ITS FALSE NEIGHBOUR: 'it returns false'. Refute it at one input. -/
def certPlansWrong : ChangeSpec := { name := "certPlans", fn := fun _ => fun
  | [d1, d2] => { results := [.lit (.bool false)], args := [d1, d2] }
  | _ => none }
def CertPlansWrongFalsely : Prop := certPlansRow.holds Tryz.pinned (OpenSpec.ofChange certPlansWrong)

/-- 'landfalllaw37.SceneBreaks': WHATEVER THE INPUT: true; the input reads as it did. -/
def sceneBreaksSpec : ChangeSpec := { name := "sceneBreaks", fn := fun _ => fun
  | [d1, d2] => { results := [.lit (.bool true)], args := [d1, d2] }
  | _ => none }
def sceneBreaksRow : OpenClaim := { program := "ytdkeiadpnnleoaagreat", sum := "2a47a835fd3f82d13fa9bf52736255eae048e56042730c6a40d28afb1704d43c", func := "landfall/landfalllaw37.SceneBreaks", spec := "sceneBreaks", unfollowed := true, recurses := true, apart := false }
def SceneBreaksSaid : Prop := sceneBreaksRow.holds Tryz.pinned (OpenSpec.ofChange sceneBreaksSpec)

/-- ITS FALSE NEIGHBOUR: 'it returns false'. Refute it at one input. -/
def sceneBreaksWrong : ChangeSpec := { name := "sceneBreaks", fn := fun _ => fun
  | [d1, d2] => { results := [.lit (.bool false)], args := [d1, d2] }
  | _ => none }
def SceneBreaksWrongFalsely : Prop := sceneBreaksRow.holds Tryz.pinned (OpenSpec.ofChange sceneBreaksWrong)

/-- 'landfalllaw37.ScenePlaces': WHATEVER THE INPUT: true; the input reads as it did. -/
def scenePlacesSpec : ChangeSpec := { name := "scenePlaces", fn := fun _ => fun
  | [d1, d2] => { results := [.lit (.bool true)], args := [d1, d2] }
  | _ => none }
def scenePlacesRow : OpenClaim := { program := "ytdkeiadpnnleoaagreat", sum := "2a47a835fd3f82d13fa9bf52736255eae048e56042730c6a40d28afb1704d43c", func := "landfall/landfalllaw37.ScenePlaces", spec := "scenePlaces", unfollowed := true, recurses := true, apart := false }
def ScenePlacesSaid : Prop := scenePlacesRow.holds Tryz.pinned (OpenSpec.ofChange scenePlacesSpec)

/-- ITS FALSE NEIGHBOUR: 'it returns false'. Refute it at one input. -/
def scenePlacesWrong : ChangeSpec := { name := "scenePlaces", fn := fun _ => fun
  | [d1, d2] => { results := [.lit (.bool false)], args := [d1, d2] }
  | _ => none }
def ScenePlacesWrongFalsely : Prop := scenePlacesRow.holds Tryz.pinned (OpenSpec.ofChange scenePlacesWrong)

/-- 'landfalllaw37.SceneOne': WHATEVER THE INPUT: true; the input reads as it did. -/
def sceneOneSpec : ChangeSpec := { name := "sceneOne", fn := fun _ => fun
  | [d1, d2, d3, d4] => { results := [.lit (.bool true)], args := [d1, d2, d3, d4] }
  | _ => none }
def sceneOneRow : OpenClaim := { program := "ytdkeiadpnnleoaagreat", sum := "2a47a835fd3f82d13fa9bf52736255eae048e56042730c6a40d28afb1704d43c", func := "landfall/landfalllaw37.SceneOne", spec := "sceneOne", unfollowed := true, recurses := true, apart := false }
def SceneOneSaid : Prop := sceneOneRow.holds Tryz.pinned (OpenSpec.ofChange sceneOneSpec)

/-- ITS FALSE NEIGHBOUR: 'it returns false'. Refute it at one input. -/
def sceneOneWrong : ChangeSpec := { name := "sceneOne", fn := fun _ => fun
  | [d1, d2, d3, d4] => { results := [.lit (.bool false)], args := [d1, d2, d3, d4] }
  | _ => none }
def SceneOneWrongFalsely : Prop := sceneOneRow.holds Tryz.pinned (OpenSpec.ofChange sceneOneWrong)

/-- 'landfalllaw37.SceneLimits': WHATEVER THE INPUT: true; the input reads as it did. -/
def sceneLimitsSpec : ChangeSpec := { name := "sceneLimits", fn := fun _ => fun
  | [d] => { results := [.lit (.bool true)], args := [d] }
  | _ => none }
def sceneLimitsRow : OpenClaim := { program := "ytdkeiadpnnleoaagreat", sum := "2a47a835fd3f82d13fa9bf52736255eae048e56042730c6a40d28afb1704d43c", func := "landfall/landfalllaw37.SceneLimits", spec := "sceneLimits", unfollowed := true, recurses := true, apart := false }
def SceneLimitsSaid : Prop := sceneLimitsRow.holds Tryz.pinned (OpenSpec.ofChange sceneLimitsSpec)

/-- ITS FALSE NEIGHBOUR: 'it returns false'. Refute it at one input. -/
def sceneLimitsWrong : ChangeSpec := { name := "sceneLimits", fn := fun _ => fun
  | [d] => { results := [.lit (.bool false)], args := [d] }
  | _ => none }
def SceneLimitsWrongFalsely : Prop := sceneLimitsRow.holds Tryz.pinned (OpenSpec.ofChange sceneLimitsWrong)

/-- 'landfalllaw37.SceneNone': WHATEVER THE INPUT: true; the input reads as it did. -/
def sceneNoneSpec : ChangeSpec := { name := "sceneNone", fn := fun _ => fun
  | [d] => { results := [.lit (.bool true)], args := [d] }
  | _ => none }
def sceneNoneRow : OpenClaim := { program := "ytdkeiadpnnleoaagreat", sum := "2a47a835fd3f82d13fa9bf52736255eae048e56042730c6a40d28afb1704d43c", func := "landfall/landfalllaw37.SceneNone", spec := "sceneNone", unfollowed := true, recurses := true, apart := false }
def SceneNoneSaid : Prop := sceneNoneRow.holds Tryz.pinned (OpenSpec.ofChange sceneNoneSpec)

/-- ITS FALSE NEIGHBOUR: 'it returns false'. Refute it at one input. -/
def sceneNoneWrong : ChangeSpec := { name := "sceneNone", fn := fun _ => fun
  | [d] => { results := [.lit (.bool false)], args := [d] }
  | _ => none }
def SceneNoneWrongFalsely : Prop := sceneNoneRow.holds Tryz.pinned (OpenSpec.ofChange sceneNoneWrong)

/- THE SECOND FORM. 'bulk': how many values and letters a reading holds, each counted each time it is reached (what is shared counts as often as it is met; a slice's spare places count too). A statement '..UptoSaid' is the law's where the arguments, and the package variables that the reading takes, are together of bulk at most 1048576: NARROWER than '..Said'. Prove '..Said' where nothing that the law and all that it calls make is longer than what came in: it says more and counts as full. Else prove '..UptoSaid'. A law counts once. -/
mutual
def uptoBulk {H : Type} : DataW H → Nat
  | .lit (.string bytes) => bytes.length + 1
  | .lit _ => 1
  | .nil => 1
  | .ptr d => uptoBulk d + 1
  | .slice elems spare => uptoBulkAll elems + uptoBulkAll spare + 1
  | .agg parts => uptoBulkAll parts + 1
  | .iface _ d => uptoBulk d + 1
  | .map entries => uptoBulkEntries entries + 1
  | .held _ => 1
def uptoBulkAll {H : Type} : List (DataW H) → Nat
  | [] => 0
  | d :: r => uptoBulk d + uptoBulkAll r
def uptoBulkEntries {H : Type} : List (Lit × DataW H) → Nat
  | [] => 0
  | x :: r => uptoBulkEntry x + uptoBulkEntries r
def uptoBulkEntry {H : Type} : Lit × DataW H → Nat
  | (.string bytes, d) => bytes.length + uptoBulk d + 1
  | (_, d) => uptoBulk d + 1
 end
def uptoSmall : (H : Type) → List (DataW H) → Bool := fun _ ds => decide (uptoBulkAll ds ≤ 1048576)
def OpenSpec.upto (s : _root_.Go.ChangeSpec) : _root_.Go.OpenSpec := { _root_.Go.OpenSpec.ofChange s with cond := some uptoSmall }

/-- 'landfalltop.TopRefused', WHERE WHAT IT READS IS OF BULK AT MOST 1048576: true; the input reads as it did. -/
def topRefusedUptoRow : OpenClaim := { program := "ytdkeiadpnnleoaagreat", sum := "2a47a835fd3f82d13fa9bf52736255eae048e56042730c6a40d28afb1704d43c", func := "landfall/landfalltop.TopRefused", spec := "topRefused", unfollowed := true, recurses := true, apart := false, narrowed := true }
def TopRefusedUptoSaid : Prop := topRefusedUptoRow.holds Tryz.pinned (OpenSpec.upto topRefusedSpec)

/-- 'landfalltop.TopStays', WHERE WHAT IT READS IS OF BULK AT MOST 1048576: true; the input reads as it did. -/
def topStaysUptoRow : OpenClaim := { program := "ytdkeiadpnnleoaagreat", sum := "2a47a835fd3f82d13fa9bf52736255eae048e56042730c6a40d28afb1704d43c", func := "landfall/landfalltop.TopStays", spec := "topStays", unfollowed := true, recurses := true, apart := false, narrowed := true }
def TopStaysUptoSaid : Prop := topStaysUptoRow.holds Tryz.pinned (OpenSpec.upto topStaysSpec)

/-- 'landfalllaw35.PlanMatchesReference', WHERE WHAT IT READS IS OF BULK AT MOST 1048576: true; the input reads as it did. -/
def planMatchesReferenceUptoRow : OpenClaim := { program := "ytdkeiadpnnleoaagreat", sum := "2a47a835fd3f82d13fa9bf52736255eae048e56042730c6a40d28afb1704d43c", func := "landfall/landfalllaw35.PlanMatchesReference", spec := "planMatchesReference", unfollowed := true, recurses := true, apart := false, narrowed := true }
def PlanMatchesReferenceUptoSaid : Prop := planMatchesReferenceUptoRow.holds Tryz.pinned (OpenSpec.upto planMatchesReferenceSpec)

/-- 'landfalllaw35.PlanKeeps', WHERE WHAT IT READS IS OF BULK AT MOST 1048576: true; the input reads as it did. -/
def planKeepsUptoRow : OpenClaim := { program := "ytdkeiadpnnleoaagreat", sum := "2a47a835fd3f82d13fa9bf52736255eae048e56042730c6a40d28afb1704d43c", func := "landfall/landfalllaw35.PlanKeeps", spec := "planKeeps", unfollowed := true, recurses := true, apart := false, narrowed := true }
def PlanKeepsUptoSaid : Prop := planKeepsUptoRow.holds Tryz.pinned (OpenSpec.upto planKeepsSpec)

/-- 'landfalllaw36.CertMatchesReference', WHERE WHAT IT READS IS OF BULK AT MOST 1048576: true; the input reads as it did. -/
def certMatchesReferenceUptoRow : OpenClaim := { program := "ytdkeiadpnnleoaagreat", sum := "2a47a835fd3f82d13fa9bf52736255eae048e56042730c6a40d28afb1704d43c", func := "landfall/landfalllaw36.CertMatchesReference", spec := "certMatchesReference", unfollowed := true, recurses := true, apart := false, narrowed := true }
def CertMatchesReferenceUptoSaid : Prop := certMatchesReferenceUptoRow.holds Tryz.pinned (OpenSpec.upto certMatchesReferenceSpec)

/-- 'landfalllaw36.CertOnTheWay', WHERE WHAT IT READS IS OF BULK AT MOST 1048576: true; the input reads as it did. -/
def certOnTheWayUptoRow : OpenClaim := { program := "ytdkeiadpnnleoaagreat", sum := "2a47a835fd3f82d13fa9bf52736255eae048e56042730c6a40d28afb1704d43c", func := "landfall/landfalllaw36.CertOnTheWay", spec := "certOnTheWay", unfollowed := true, recurses := true, apart := false, narrowed := true }
def CertOnTheWayUptoSaid : Prop := certOnTheWayUptoRow.holds Tryz.pinned (OpenSpec.upto certOnTheWaySpec)

/-- 'landfalllaw36.CertNothingLess', WHERE WHAT IT READS IS OF BULK AT MOST 1048576: true; the input reads as it did. -/
def certNothingLessUptoRow : OpenClaim := { program := "ytdkeiadpnnleoaagreat", sum := "2a47a835fd3f82d13fa9bf52736255eae048e56042730c6a40d28afb1704d43c", func := "landfall/landfalllaw36.CertNothingLess", spec := "certNothingLess", unfollowed := true, recurses := true, apart := false, narrowed := true }
def CertNothingLessUptoSaid : Prop := certNothingLessUptoRow.holds Tryz.pinned (OpenSpec.upto certNothingLessSpec)

/-- 'landfalllaw36.CertRocks', WHERE WHAT IT READS IS OF BULK AT MOST 1048576: true; the input reads as it did. -/
def certRocksUptoRow : OpenClaim := { program := "ytdkeiadpnnleoaagreat", sum := "2a47a835fd3f82d13fa9bf52736255eae048e56042730c6a40d28afb1704d43c", func := "landfall/landfalllaw36.CertRocks", spec := "certRocks", unfollowed := true, recurses := true, apart := false, narrowed := true }
def CertRocksUptoSaid : Prop := certRocksUptoRow.holds Tryz.pinned (OpenSpec.upto certRocksSpec)

/-- 'landfalllaw36.CertCovers', WHERE WHAT IT READS IS OF BULK AT MOST 1048576: true; the input reads as it did. -/
def certCoversUptoRow : OpenClaim := { program := "ytdkeiadpnnleoaagreat", sum := "2a47a835fd3f82d13fa9bf52736255eae048e56042730c6a40d28afb1704d43c", func := "landfall/landfalllaw36.CertCovers", spec := "certCovers", unfollowed := true, recurses := true, apart := false, narrowed := true }
def CertCoversUptoSaid : Prop := certCoversUptoRow.holds Tryz.pinned (OpenSpec.upto certCoversSpec)

/-- 'landfalllaw36.CertMore', WHERE WHAT IT READS IS OF BULK AT MOST 1048576: true; the input reads as it did. -/
def certMoreUptoRow : OpenClaim := { program := "ytdkeiadpnnleoaagreat", sum := "2a47a835fd3f82d13fa9bf52736255eae048e56042730c6a40d28afb1704d43c", func := "landfall/landfalllaw36.CertMore", spec := "certMore", unfollowed := true, recurses := true, apart := false, narrowed := true }
def CertMoreUptoSaid : Prop := certMoreUptoRow.holds Tryz.pinned (OpenSpec.upto certMoreSpec)

/-- 'landfalllaw36.CertPlans', WHERE WHAT IT READS IS OF BULK AT MOST 1048576: true; the input reads as it did. -/
def certPlansUptoRow : OpenClaim := { program := "ytdkeiadpnnleoaagreat", sum := "2a47a835fd3f82d13fa9bf52736255eae048e56042730c6a40d28afb1704d43c", func := "landfall/landfalllaw36.CertPlans", spec := "certPlans", unfollowed := true, recurses := true, apart := false, narrowed := true }
def CertPlansUptoSaid : Prop := certPlansUptoRow.holds Tryz.pinned (OpenSpec.upto certPlansSpec)

/-- 'landfalllaw37.SceneBreaks', WHERE WHAT IT READS IS OF BULK AT MOST 1048576: true; the input reads as it did. -/
def sceneBreaksUptoRow : OpenClaim := { program := "ytdkeiadpnnleoaagreat", sum := "2a47a835fd3f82d13fa9bf52736255eae048e56042730c6a40d28afb1704d43c", func := "landfall/landfalllaw37.SceneBreaks", spec := "sceneBreaks", unfollowed := true, recurses := true, apart := false, narrowed := true }
def SceneBreaksUptoSaid : Prop := sceneBreaksUptoRow.holds Tryz.pinned (OpenSpec.upto sceneBreaksSpec)

/-- 'landfalllaw37.ScenePlaces', WHERE WHAT IT READS IS OF BULK AT MOST 1048576: true; the input reads as it did. -/
def scenePlacesUptoRow : OpenClaim := { program := "ytdkeiadpnnleoaagreat", sum := "2a47a835fd3f82d13fa9bf52736255eae048e56042730c6a40d28afb1704d43c", func := "landfall/landfalllaw37.ScenePlaces", spec := "scenePlaces", unfollowed := true, recurses := true, apart := false, narrowed := true }
def ScenePlacesUptoSaid : Prop := scenePlacesUptoRow.holds Tryz.pinned (OpenSpec.upto scenePlacesSpec)

/-- 'landfalllaw37.SceneOne', WHERE WHAT IT READS IS OF BULK AT MOST 1048576: true; the input reads as it did. -/
def sceneOneUptoRow : OpenClaim := { program := "ytdkeiadpnnleoaagreat", sum := "2a47a835fd3f82d13fa9bf52736255eae048e56042730c6a40d28afb1704d43c", func := "landfall/landfalllaw37.SceneOne", spec := "sceneOne", unfollowed := true, recurses := true, apart := false, narrowed := true }
def SceneOneUptoSaid : Prop := sceneOneUptoRow.holds Tryz.pinned (OpenSpec.upto sceneOneSpec)

/-- 'landfalllaw37.SceneLimits', WHERE WHAT IT READS IS OF BULK AT MOST 1048576: true; the input reads as it did. -/
def sceneLimitsUptoRow : OpenClaim := { program := "ytdkeiadpnnleoaagreat", sum := "2a47a835fd3f82d13fa9bf52736255eae048e56042730c6a40d28afb1704d43c", func := "landfall/landfalllaw37.SceneLimits", spec := "sceneLimits", unfollowed := true, recurses := true, apart := false, narrowed := true }
def SceneLimitsUptoSaid : Prop := sceneLimitsUptoRow.holds Tryz.pinned (OpenSpec.upto sceneLimitsSpec)

/-- 'landfalllaw37.SceneNone', WHERE WHAT IT READS IS OF BULK AT MOST 1048576: true; the input reads as it did. -/
def sceneNoneUptoRow : OpenClaim := { program := "ytdkeiadpnnleoaagreat", sum := "2a47a835fd3f82d13fa9bf52736255eae048e56042730c6a40d28afb1704d43c", func := "landfall/landfalllaw37.SceneNone", spec := "sceneNone", unfollowed := true, recurses := true, apart := false, narrowed := true }
def SceneNoneUptoSaid : Prop := sceneNoneUptoRow.holds Tryz.pinned (OpenSpec.upto sceneNoneSpec)

end Rows
end Go.Proofs.YtdkeiadpnnleoaaGreat
