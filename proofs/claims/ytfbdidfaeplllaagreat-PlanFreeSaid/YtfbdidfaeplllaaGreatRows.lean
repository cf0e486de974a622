/-
  No cell of these rows narrows 'for every input' (looked for: loops, veiled, ifaces, maps, wideKeys, modest, calm, conditions, laid).
  DERIVED. THE GIVEN ROWS OF THIS SEAT. 9 by the template 'for every input the law returns true; each argument reads behind the call as it read before'; 0 by the template 'total and deterministic' (their statements: YtfbdidfaeplllaaGreatTotals.lean).
  GIVEN WITH THE SEED: the statements are not yours to turn. If you find one false, say at which input.
  Laid BY PROGRAM, IN A SANDBOX (cutbox-rows.mjs): the forced cells as the released guide's own fill.sh prints them over the translation 3d8e61d7e8c0deb0… (all of the seat's roots in one cut). By AI agents, Wed Nov 11 2026. No macro, syntax, notation, axiom, sorry.
-/
import Derived.Test.YtfbdidfaeplllaaGreatChecked
import GoSem.Claim
import GoSem.ClaimJoined
import GoSem.ClaimMapViews
import Derived.JoinedTies
import Derived.KernelRfl
namespace Go.Proofs.YtfbdidfaeplllaaGreat
/- THE CELL 'sum', in the pinned program and in every row, IS THE sha256 OF THE DUMP (.gsa) THAT YtfbdidfaeplllaaGreatProg.lean LOADS. Nothing in Lean hashes anything: it is a label: what it is worth is what the hold of that sum in a sandbox is worth. -/
noncomputable def Tryz.pinned : Pinned := { name := "ytfbdidfaeplllaagreat", sum := "3d8e61d7e8c0deb08b1fde70d91ab61d89c926d6f83d084421945e24d4d1f59f", checked := Tryz.checked }
namespace Rows
def none {H : Type} : Left H := { results := [], args := [] }

/-- 'landfalllaw38.TrystMeets': WHATEVER THE INPUT: true; the input reads as it did. -/
def trystMeetsSpec : ChangeSpec := { name := "trystMeets", fn := fun _ => fun
  | [d1, d2, d3, d4, d5, d6, d7] => { results := [.lit (.bool true)], args := [d1, d2, d3, d4, d5, d6, d7] }
  | _ => none }
def trystMeetsRow : OpenClaim := { program := "ytfbdidfaeplllaagreat", sum := "3d8e61d7e8c0deb08b1fde70d91ab61d89c926d6f83d084421945e24d4d1f59f", func := "landfall/landfalllaw38.TrystMeets", spec := "trystMeets", unfollowed := true, recurses := true, apart := false }
def TrystMeetsSaid : Prop := trystMeetsRow.holds Tryz.pinned (OpenSpec.ofChange trystMeetsSpec)

/-- ITS FALSE NEIGHBOUR: 'it returns false'. Refute it at one input. -/
def trystMeetsWrong : ChangeSpec := { name := "trystMeets", fn := fun _ => fun
  | [d1, d2, d3, d4, d5, d6, d7] => { results := [.lit (.bool false)], args := [d1, d2, d3, d4, d5, d6, d7] }
  | _ => none }
def TrystMeetsWrongFalsely : Prop := trystMeetsRow.holds Tryz.pinned (OpenSpec.ofChange trystMeetsWrong)

/-- 'landfalllaw38.TrystRanges': WHATEVER THE INPUT: true; the input reads as it did. -/
def trystRangesSpec : ChangeSpec := { name := "trystRanges", fn := fun _ => fun
  | [d1, d2, d3, d4] => { results := [.lit (.bool true)], args := [d1, d2, d3, d4] }
  | _ => none }
def trystRangesRow : OpenClaim := { program := "ytfbdidfaeplllaagreat", sum := "3d8e61d7e8c0deb08b1fde70d91ab61d89c926d6f83d084421945e24d4d1f59f", func := "landfall/landfalllaw38.TrystRanges", spec := "trystRanges", unfollowed := true, recurses := true, apart := false }
def TrystRangesSaid : Prop := trystRangesRow.holds Tryz.pinned (OpenSpec.ofChange trystRangesSpec)

/-- ITS FALSE NEIGHBOUR: 'it returns false'. Refute it at one input. -/
def trystRangesWrong : ChangeSpec := { name := "trystRanges", fn := fun _ => fun
  | [d1, d2, d3, d4] => { results := [.lit (.bool false)], args := [d1, d2, d3, d4] }
  | _ => none }
def TrystRangesWrongFalsely : Prop := trystRangesRow.holds Tryz.pinned (OpenSpec.ofChange trystRangesWrong)

/-- 'landfalllaw35.PlanMatchesReference': WHATEVER THE INPUT: true; the input reads as it did. -/
def planMatchesReferenceSpec : ChangeSpec := { name := "planMatchesReference", fn := fun _ => fun
  | [d1, d2] => { results := [.lit (.bool true)], args := [d1, d2] }
  | _ => none }
def planMatchesReferenceRow : OpenClaim := { program := "ytfbdidfaeplllaagreat", sum := "3d8e61d7e8c0deb08b1fde70d91ab61d89c926d6f83d084421945e24d4d1f59f", func := "landfall/landfalllaw35.PlanMatchesReference", spec := "planMatchesReference", unfollowed := true, recurses := true, apart := false }
def PlanMatchesReferenceSaid : Prop := planMatchesReferenceRow.holds Tryz.pinned (OpenSpec.ofChange planMatchesReferenceSpec)

/-- ITS FALSE NEIGHBOUR: 'it returns false'. Refute it at one input. -/
def planMatchesReferenceWrong : ChangeSpec := { name := "planMatchesReference", fn := fun _ => fun
  | [d1, d2] => { results := [.lit (.bool false)], args := [d1, d2] }
  | _ => none }
def PlanMatchesReferenceWrongFalsely : Prop := planMatchesReferenceRow.holds Tryz.pinned (OpenSpec.ofChange planMatchesReferenceWrong)

/-- 'landfalllaw35.PlanKeeps': WHATEVER THE INPUT: true; the input reads as it did. -/
def planKeepsSpec : ChangeSpec := { name := "planKeeps", fn := fun _ => fun
  | [d1, d2] => { results := [.lit (.bool true)], args := [d1, d2] }
  | _ => none }
def planKeepsRow : OpenClaim := { program := "ytfbdidfaeplllaagreat", sum := "3d8e61d7e8c0deb08b1fde70d91ab61d89c926d6f83d084421945e24d4d1f59f", func := "landfall/landfalllaw35.PlanKeeps", spec := "planKeeps", unfollowed := true, recurses := true, apart := false }
def PlanKeepsSaid : Prop := planKeepsRow.holds Tryz.pinned (OpenSpec.ofChange planKeepsSpec)

/-- ITS FALSE NEIGHBOUR: 'it returns false'. Refute it at one input. -/
def planKeepsWrong : ChangeSpec := { name := "planKeeps", fn := fun _ => fun
  | [d1, d2] => { results := [.lit (.bool false)], args := [d1, d2] }
  | _ => none }
def PlanKeepsWrongFalsely : Prop := planKeepsRow.holds Tryz.pinned (OpenSpec.ofChange planKeepsWrong)

/-- 'landfalllaw35.PlanBest': WHATEVER THE INPUT: true; the input reads as it did. -/
def planBestSpec : ChangeSpec := { name := "planBest", fn := fun _ => fun
  | [d1, d2] => { results := [.lit (.bool true)], args := [d1, d2] }
  | _ => none }
def planBestRow : OpenClaim := { program := "ytfbdidfaeplllaagreat", sum := "3d8e61d7e8c0deb08b1fde70d91ab61d89c926d6f83d084421945e24d4d1f59f", func := "landfall/landfalllaw35.PlanBest", spec := "planBest", unfollowed := true, recurses := true, apart := false }
def PlanBestSaid : Prop := planBestRow.holds Tryz.pinned (OpenSpec.ofChange planBestSpec)

/-- ITS FALSE NEIGHBOUR: 'it returns false'. Refute it at one input. -/
def planBestWrong : ChangeSpec := { name := "planBest", fn := fun _ => fun
  | [d1, d2] => { results := [.lit (.bool false)], args := [d1, d2] }
  | _ => none }
def PlanBestWrongFalsely : Prop := planBestRow.holds Tryz.pinned (OpenSpec.ofChange planBestWrong)

/-- 'landfalllaw35.PlanRefuses': WHATEVER THE INPUT: true; the input reads as it did. -/
def planRefusesSpec : ChangeSpec := { name := "planRefuses", fn := fun _ => fun
  | [d1, d2] => { results := [.lit (.bool true)], args := [d1, d2] }
  | _ => none }
def planRefusesRow : OpenClaim := { program := "ytfbdidfaeplllaagreat", sum := "3d8e61d7e8c0deb08b1fde70d91ab61d89c926d6f83d084421945e24d4d1f59f", func := "landfall/landfalllaw35.PlanRefuses", spec := "planRefuses", unfollowed := true, recurses := true, apart := false }
def PlanRefusesSaid : Prop := planRefusesRow.holds Tryz.pinned (OpenSpec.ofChange planRefusesSpec)

/-- ITS FALSE NEIGHBOUR: 'it returns false'. Refute it at one input. -/
def planRefusesWrong : ChangeSpec := { name := "planRefuses", fn := fun _ => fun
  | [d1, d2] => { results := [.lit (.bool false)], args := [d1, d2] }
  | _ => none }
def PlanRefusesWrongFalsely : Prop := planRefusesRow.holds Tryz.pinned (OpenSpec.ofChange planRefusesWrong)

/-- 'landfalllaw35.PlanEasier': WHATEVER THE INPUT: true; the input reads as it did. -/
def planEasierSpec : ChangeSpec := { name := "planEasier", fn := fun _ => fun
  | [d1, d2, d3, d4, d5] => { results := [.lit (.bool true)], args := [d1, d2, d3, d4, d5] }
  | _ => none }
def planEasierRow : OpenClaim := { program := "ytfbdidfaeplllaagreat", sum := "3d8e61d7e8c0deb08b1fde70d91ab61d89c926d6f83d084421945e24d4d1f59f", func := "landfall/landfalllaw35.PlanEasier", spec := "planEasier", unfollowed := true, recurses := true, apart := false }
def PlanEasierSaid : Prop := planEasierRow.holds Tryz.pinned (OpenSpec.ofChange planEasierSpec)

/-- ITS FALSE NEIGHBOUR: 'it returns false'. Refute it at one input. -/
def planEasierWrong : ChangeSpec := { name := "planEasier", fn := fun _ => fun
  | [d1, d2, d3, d4, d5] => { results := [.lit (.bool false)], args := [d1, d2, d3, d4, d5] }
  | _ => none }
def PlanEasierWrongFalsely : Prop := planEasierRow.holds Tryz.pinned (OpenSpec.ofChange planEasierWrong)

/-- 'landfalllaw35.PlanFirst': WHATEVER THE INPUT: true; the input reads as it did. -/
def planFirstSpec : ChangeSpec := { name := "planFirst", fn := fun _ => fun
  | [d1, d2, d3] => { results := [.lit (.bool true)], args := [d1, d2, d3] }
  | _ => none }
def planFirstRow : OpenClaim := { program := "ytfbdidfaeplllaagreat", sum := "3d8e61d7e8c0deb08b1fde70d91ab61d89c926d6f83d084421945e24d4d1f59f", func := "landfall/landfalllaw35.PlanFirst", spec := "planFirst", unfollowed := true, recurses := true, apart := false }
def PlanFirstSaid : Prop := planFirstRow.holds Tryz.pinned (OpenSpec.ofChange planFirstSpec)

/-- ITS FALSE NEIGHBOUR: 'it returns false'. Refute it at one input. -/
def planFirstWrong : ChangeSpec := { name := "planFirst", fn := fun _ => fun
  | [d1, d2, d3] => { results := [.lit (.bool false)], args := [d1, d2, d3] }
  | _ => none }
def PlanFirstWrongFalsely : Prop := planFirstRow.holds Tryz.pinned (OpenSpec.ofChange planFirstWrong)

/-- 'landfalllaw35.PlanFree': WHATEVER THE INPUT: true; the input reads as it did. -/
def planFreeSpec : ChangeSpec := { name := "planFree", fn := fun _ => fun
  | [d1, d2] => { results := [.lit (.bool true)], args := [d1, d2] }
  | _ => none }
def planFreeRow : OpenClaim := { program := "ytfbdidfaeplllaagreat", sum := "3d8e61d7e8c0deb08b1fde70d91ab61d89c926d6f83d084421945e24d4d1f59f", func := "landfall/landfalllaw35.PlanFree", spec := "planFree", unfollowed := true, recurses := true, apart := false }
def PlanFreeSaid : Prop := planFreeRow.holds Tryz.pinned (OpenSpec.ofChange planFreeSpec)

/-- ITS FALSE NEIGHBOUR: 'it returns false'. Refute it at one input. -/
def planFreeWrong : ChangeSpec := { name := "planFree", fn := fun _ => fun
  | [d1, d2] => { results := [.lit (.bool false)], args := [d1, d2] }
  | _ => none }
def PlanFreeWrongFalsely : Prop := planFreeRow.holds Tryz.pinned (OpenSpec.ofChange planFreeWrong)

/- THE SECOND FORM. 'bulk': how many values and letters a reading holds, each counted each time it is reached (what is shared counts as often as it is met; a slice's spare places count too). A statement '..UptoSaid' is the law's where the arguments, and the package variables that the reading takes, are together of bulk at most 1048576: NARROWER than '..Said'. Prove '..Said' where nothing that the law and all that it calls make is longer than what came in: it says more and counts as full. Else prove '..UptoSaid'. A law counts once. -/
mutual
def uptoBulk {H : Type} : DataW H → Nat
  | .lit (.string bytes) => bytes.length + 1
  | .lit _ => 1
  | .nil => 1
  | .ptr d => uptoBulk d + 1
  | .slice elems spare => uptoBulkAll elems + uptoBulkAll spare + 1
  | .agg parts => uptoBulkAll parts + 1
  | .iface _ d => uptoBulk d + 1
  | .map entries => uptoBulkEntries entries + 1
  | .held _ => 1
def uptoBulkAll {H : Type} : List (DataW H) → Nat
  | [] => 0
  | d :: r => uptoBulk d + uptoBulkAll r
def uptoBulkEntries {H : Type} : List (Lit × DataW H) → Nat
  | [] => 0
  | x :: r => uptoBulkEntry x + uptoBulkEntries r
def uptoBulkEntry {H : Type} : Lit × DataW H → Nat
  | (.string bytes, d) => bytes.length + uptoBulk d + 1
  | (_, d) => uptoBulk d + 1
 end
def uptoSmall : (H : Type) → List (DataW H) → Bool := fun _ ds => decide (uptoBulkAll ds ≤ 1048576)
def OpenSpec.upto (s : _root_.Go.ChangeSpec) : _root_.Go.OpenSpec := { _root_.Go.OpenSpec.ofChange s with cond := some uptoSmall }

/-- 'landfalllaw38.TrystMeets', WHERE WHAT IT READS IS OF BULK AT MOST 1048576: true; the input reads as it did. -/
def trystMeetsUptoRow : OpenClaim := { program := "ytfbdidfaeplllaagreat", sum := "3d8e61d7e8c0deb08b1fde70d91ab61d89c926d6f83d084421945e24d4d1f59f", func := "landfall/landfalllaw38.TrystMeets", spec := "trystMeets", unfollowed := true, recurses := true, apart := false, narrowed := true }
def TrystMeetsUptoSaid : Prop := trystMeetsUptoRow.holds Tryz.pinned (OpenSpec.upto trystMeetsSpec)

/-- 'landfalllaw38.TrystRanges', WHERE WHAT IT READS IS OF BULK AT MOST 1048576: true; the input reads as it did. -/
def trystRangesUptoRow : OpenClaim := { program := "ytfbdidfaeplllaagreat", sum := "3d8e61d7e8c0deb08b1fde70d91ab61d89c926d6f83d084421945e24d4d1f59f", func := "landfall/landfalllaw38.TrystRanges", spec := "trystRanges", unfollowed := true, recurses := true, apart := false, narrowed := true }
def TrystRangesUptoSaid : Prop := trystRangesUptoRow.holds Tryz.pinned (OpenSpec.upto trystRangesSpec)

/-- 'landfalllaw35.PlanMatchesReference', WHERE WHAT IT READS IS OF BULK AT MOST 1048576: true; the input reads as it did. -/
def planMatchesReferenceUptoRow : OpenClaim := { program := "ytfbdidfaeplllaagreat", sum := "3d8e61d7e8c0deb08b1fde70d91ab61d89c926d6f83d084421945e24d4d1f59f", func := "landfall/landfalllaw35.PlanMatchesReference", spec := "planMatchesReference", unfollowed := true, recurses := true, apart := false, narrowed := true }
def PlanMatchesReferenceUptoSaid : Prop := planMatchesReferenceUptoRow.holds Tryz.pinned (OpenSpec.upto planMatchesReferenceSpec)

/-- 'landfalllaw35.PlanKeeps', WHERE WHAT IT READS IS OF BULK AT MOST 1048576: true; the input reads as it did. -/
def planKeepsUptoRow : OpenClaim := { program := "ytfbdidfaeplllaagreat", sum := "3d8e61d7e8c0deb08b1fde70d91ab61d89c926d6f83d084421945e24d4d1f59f", func := "landfall/landfalllaw35.PlanKeeps", spec := "planKeeps", unfollowed := true, recurses := true, apart := false, narrowed := true }
def PlanKeepsUptoSaid : Prop := planKeepsUptoRow.holds Tryz.pinned (OpenSpec.upto planKeepsSpec)

/-- 'landfalllaw35.PlanBest', WHERE WHAT IT READS IS OF BULK AT MOST 1048576: true; the input reads as it did. -/
def planBestUptoRow : OpenClaim := { program := "ytfbdidfaeplllaagreat", sum := "3d8e61d7e8c0deb08b1fde70d91ab61d89c926d6f83d084421945e24d4d1f59f", func := "landfall/landfalllaw35.PlanBest", spec := "planBest", unfollowed := true, recurses := true, apart := false, narrowed := true }
def PlanBestUptoSaid : Prop := planBestUptoRow.holds Tryz.pinned (OpenSpec.upto planBestSpec)

/-- 'landfalllaw35.PlanRefuses', WHERE WHAT IT READS IS OF BULK AT MOST 1048576: true; the input reads as it did. -/
def planRefusesUptoRow : OpenClaim := { program := "ytfbdidfaeplllaagreat", sum := "3d8e61d7e8c0deb08b1fde70d91ab61d89c926d6f83d084421945e24d4d1f59f", func := "landfall/landfalllaw35.PlanRefuses", spec := "planRefuses", unfollowed := true, recurses := true, apart := false, narrowed := true }
def PlanRefusesUptoSaid : Prop := planRefusesUptoRow.holds Tryz.pinned (OpenSpec.upto planRefusesSpec)

/-- 'landfalllaw35.PlanEasier', WHERE WHAT IT READS IS OF BULK AT MOST 1048576: true; the input reads as it did. -/
def planEasierUptoRow : OpenClaim := { program := "ytfbdidfaeplllaagreat", sum := "3d8e61d7e8c0deb08b1fde70d91ab61d89c926d6f83d084421945e24d4d1f59f", func := "landfall/landfalllaw35.PlanEasier", spec := "planEasier", unfollowed := true, recurses := true, apart := false, narrowed := true }
def PlanEasierUptoSaid : Prop := planEasierUptoRow.holds Tryz.pinned (OpenSpec.upto planEasierSpec)

/-- 'landfalllaw35.PlanFirst', WHERE WHAT IT READS IS OF BULK AT MOST 1048576: true; the input reads as it did. -/
def planFirstUptoRow : OpenClaim := { program := "ytfbdidfaeplllaagreat", sum := "3d8e61d7e8c0deb08b1fde70d91ab61d89c926d6f83d084421945e24d4d1f59f", func := "landfall/landfalllaw35.PlanFirst", spec := "planFirst", unfollowed := true, recurses := true, apart := false, narrowed := true }
def PlanFirstUptoSaid : Prop := planFirstUptoRow.holds Tryz.pinned (OpenSpec.upto planFirstSpec)

/-- 'landfalllaw35.PlanFree', WHERE WHAT IT READS IS OF BULK AT MOST 1048576: true; the input reads as it did. -/
def planFreeUptoRow : OpenClaim := { program := "ytfbdidfaeplllaagreat", sum := "3d8e61d7e8c0deb08b1fde70d91ab61d89c926d6f83d084421945e24d4d1f59f", func := "landfall/landfalllaw35.PlanFree", spec := "planFree", unfollowed := true, recurses := true, apart := false, narrowed := true }
def PlanFreeUptoSaid : Prop := planFreeUptoRow.holds Tryz.pinned (OpenSpec.upto planFreeSpec)

end Rows
end Go.Proofs.YtfbdidfaeplllaaGreat
