/-
  No cell of these rows narrows 'for every input' (looked for: loops, veiled, ifaces, maps, wideKeys, modest, calm, conditions, laid).
  DERIVED. THE GIVEN ROWS OF THIS SEAT. 12 by the template 'for every input the law returns true; each argument reads behind the call as it read before'; 0 by the template 'total and deterministic' (their statements: YtjnjmpakmgmdbaaTotals.lean).
  GIVEN WITH THE SEED: the statements are not yours to turn. If you find one false, say at which input.
  Laid BY PROGRAM, IN A SANDBOX (cutbox-rows.mjs): the forced cells as the released guide's own fill.sh prints them over the translation 0830ef83b8a65bca… (all of the seat's roots in one cut). By AI agents, Wed Nov 11 2026. No macro, syntax, notation, axiom, sorry.
-/
import Derived.Test.YtjnjmpakmgmdbaaChecked
import GoSem.Claim
import GoSem.ClaimJoined
import GoSem.ClaimMapViews
import Derived.JoinedTies
import Derived.KernelRfl
namespace Go.Proofs.Ytjnjmpakmgmdbaa
/- THE CELL 'sum', in the pinned program and in every row, IS THE sha256 OF THE DUMP (.gsa) THAT YtjnjmpakmgmdbaaProg.lean LOADS. Nothing in Lean hashes anything: it is a label: what it is worth is what the hold of that sum in a sandbox is worth. -/
noncomputable def Try.pinned : Pinned := { name := "ytjnjmpakmgmdbaa", sum := "0830ef83b8a65bca44863ff2290c5194528bb307611e2bae6c3386e0054349ec", checked := Try.checked }
namespace Rows
def none {H : Type} : Left H := { results := [], args := [] }

/-- 'landfalllaw31.MissionMatchesReference': WHATEVER THE INPUT: true; the input reads as it did. -/
def missionMatchesReferenceSpec : ChangeSpec := { name := "missionMatchesReference", fn := fun _ => fun
  | [d1, d2, d3] => { results := [.lit (.bool true)], args := [d1, d2, d3] }
  | _ => none }
def missionMatchesReferenceRow : OpenClaim := { program := "ytjnjmpakmgmdbaa", sum := "0830ef83b8a65bca44863ff2290c5194528bb307611e2bae6c3386e0054349ec", func := "landfall/landfalllaw31.MissionMatchesReference", spec := "missionMatchesReference", unfollowed := true, recurses := true, apart := false }
def MissionMatchesReferenceSaid : Prop := missionMatchesReferenceRow.holds Try.pinned (OpenSpec.ofChange missionMatchesReferenceSpec)

/-- ITS FALSE NEIGHBOUR: 'it returns false'. Refute it at one input. -/
def missionMatchesReferenceWrong : ChangeSpec := { name := "missionMatchesReference", fn := fun _ => fun
  | [d1, d2, d3] => { results := [.lit (.bool false)], args := [d1, d2, d3] }
  | _ => none }
def MissionMatchesReferenceWrongFalsely : Prop := missionMatchesReferenceRow.holds Try.pinned (OpenSpec.ofChange missionMatchesReferenceWrong)

/-- 'landfalllaw31.MissionLengths': WHATEVER THE INPUT: true; the input reads as it did. -/
def missionLengthsSpec : ChangeSpec := { name := "missionLengths", fn := fun _ => fun
  | [d1, d2, d3, d4] => { results := [.lit (.bool true)], args := [d1, d2, d3, d4] }
  | _ => none }
def missionLengthsRow : OpenClaim := { program := "ytjnjmpakmgmdbaa", sum := "0830ef83b8a65bca44863ff2290c5194528bb307611e2bae6c3386e0054349ec", func := "landfall/landfalllaw31.MissionLengths", spec := "missionLengths", unfollowed := true, recurses := true, apart := false }
def MissionLengthsSaid : Prop := missionLengthsRow.holds Try.pinned (OpenSpec.ofChange missionLengthsSpec)

/-- ITS FALSE NEIGHBOUR: 'it returns false'. Refute it at one input. -/
def missionLengthsWrong : ChangeSpec := { name := "missionLengths", fn := fun _ => fun
  | [d1, d2, d3, d4] => { results := [.lit (.bool false)], args := [d1, d2, d3, d4] }
  | _ => none }
def MissionLengthsWrongFalsely : Prop := missionLengthsRow.holds Try.pinned (OpenSpec.ofChange missionLengthsWrong)

/-- 'landfalllaw31.MissionTimes': WHATEVER THE INPUT: true; the input reads as it did. -/
def missionTimesSpec : ChangeSpec := { name := "missionTimes", fn := fun _ => fun
  | [d1, d2, d3] => { results := [.lit (.bool true)], args := [d1, d2, d3] }
  | _ => none }
def missionTimesRow : OpenClaim := { program := "ytjnjmpakmgmdbaa", sum := "0830ef83b8a65bca44863ff2290c5194528bb307611e2bae6c3386e0054349ec", func := "landfall/landfalllaw31.MissionTimes", spec := "missionTimes", unfollowed := true, recurses := true, apart := false }
def MissionTimesSaid : Prop := missionTimesRow.holds Try.pinned (OpenSpec.ofChange missionTimesSpec)

/-- ITS FALSE NEIGHBOUR: 'it returns false'. Refute it at one input. -/
def missionTimesWrong : ChangeSpec := { name := "missionTimes", fn := fun _ => fun
  | [d1, d2, d3] => { results := [.lit (.bool false)], args := [d1, d2, d3] }
  | _ => none }
def MissionTimesWrongFalsely : Prop := missionTimesRow.holds Try.pinned (OpenSpec.ofChange missionTimesWrong)

/-- 'landfalllaw31.MissionRoutes': WHATEVER THE INPUT: true; the input reads as it did. -/
def missionRoutesSpec : ChangeSpec := { name := "missionRoutes", fn := fun _ => fun
  | [d1, d2] => { results := [.lit (.bool true)], args := [d1, d2] }
  | _ => none }
def missionRoutesRow : OpenClaim := { program := "ytjnjmpakmgmdbaa", sum := "0830ef83b8a65bca44863ff2290c5194528bb307611e2bae6c3386e0054349ec", func := "landfall/landfalllaw31.MissionRoutes", spec := "missionRoutes", unfollowed := true, recurses := true, apart := false }
def MissionRoutesSaid : Prop := missionRoutesRow.holds Try.pinned (OpenSpec.ofChange missionRoutesSpec)

/-- ITS FALSE NEIGHBOUR: 'it returns false'. Refute it at one input. -/
def missionRoutesWrong : ChangeSpec := { name := "missionRoutes", fn := fun _ => fun
  | [d1, d2] => { results := [.lit (.bool false)], args := [d1, d2] }
  | _ => none }
def MissionRoutesWrongFalsely : Prop := missionRoutesRow.holds Try.pinned (OpenSpec.ofChange missionRoutesWrong)

/-- 'landfalllaw31.MissionRadii': WHATEVER THE INPUT: true; the input reads as it did. -/
def missionRadiiSpec : ChangeSpec := { name := "missionRadii", fn := fun _ => fun
  | [d1, d2] => { results := [.lit (.bool true)], args := [d1, d2] }
  | _ => none }
def missionRadiiRow : OpenClaim := { program := "ytjnjmpakmgmdbaa", sum := "0830ef83b8a65bca44863ff2290c5194528bb307611e2bae6c3386e0054349ec", func := "landfall/landfalllaw31.MissionRadii", spec := "missionRadii", unfollowed := true, recurses := true, apart := false }
def MissionRadiiSaid : Prop := missionRadiiRow.holds Try.pinned (OpenSpec.ofChange missionRadiiSpec)

/-- ITS FALSE NEIGHBOUR: 'it returns false'. Refute it at one input. -/
def missionRadiiWrong : ChangeSpec := { name := "missionRadii", fn := fun _ => fun
  | [d1, d2] => { results := [.lit (.bool false)], args := [d1, d2] }
  | _ => none }
def MissionRadiiWrongFalsely : Prop := missionRadiiRow.holds Try.pinned (OpenSpec.ofChange missionRadiiWrong)

/-- 'landfalllaw31.MissionMoved': WHATEVER THE INPUT: true; the input reads as it did. -/
def missionMovedSpec : ChangeSpec := { name := "missionMoved", fn := fun _ => fun
  | [d1, d2, d3, d4, d5] => { results := [.lit (.bool true)], args := [d1, d2, d3, d4, d5] }
  | _ => none }
def missionMovedRow : OpenClaim := { program := "ytjnjmpakmgmdbaa", sum := "0830ef83b8a65bca44863ff2290c5194528bb307611e2bae6c3386e0054349ec", func := "landfall/landfalllaw31.MissionMoved", spec := "missionMoved", unfollowed := true, recurses := true, apart := false }
def MissionMovedSaid : Prop := missionMovedRow.holds Try.pinned (OpenSpec.ofChange missionMovedSpec)

/-- ITS FALSE NEIGHBOUR: 'it returns false'. Refute it at one input. -/
def missionMovedWrong : ChangeSpec := { name := "missionMoved", fn := fun _ => fun
  | [d1, d2, d3, d4, d5] => { results := [.lit (.bool false)], args := [d1, d2, d3, d4, d5] }
  | _ => none }
def MissionMovedWrongFalsely : Prop := missionMovedRow.holds Try.pinned (OpenSpec.ofChange missionMovedWrong)

/-- 'landfalllaw34.PowerMatchesReference': WHATEVER THE INPUT: true; the input reads as it did. -/
def powerMatchesReferenceSpec : ChangeSpec := { name := "powerMatchesReference", fn := fun _ => fun
  | [d1, d2, d3, d4] => { results := [.lit (.bool true)], args := [d1, d2, d3, d4] }
  | _ => none }
def powerMatchesReferenceRow : OpenClaim := { program := "ytjnjmpakmgmdbaa", sum := "0830ef83b8a65bca44863ff2290c5194528bb307611e2bae6c3386e0054349ec", func := "landfall/landfalllaw34.PowerMatchesReference", spec := "powerMatchesReference", unfollowed := true, recurses := true, apart := false }
def PowerMatchesReferenceSaid : Prop := powerMatchesReferenceRow.holds Try.pinned (OpenSpec.ofChange powerMatchesReferenceSpec)

/-- ITS FALSE NEIGHBOUR: 'it returns false'. Refute it at one input. -/
def powerMatchesReferenceWrong : ChangeSpec := { name := "powerMatchesReference", fn := fun _ => fun
  | [d1, d2, d3, d4] => { results := [.lit (.bool false)], args := [d1, d2, d3, d4] }
  | _ => none }
def PowerMatchesReferenceWrongFalsely : Prop := powerMatchesReferenceRow.holds Try.pinned (OpenSpec.ofChange powerMatchesReferenceWrong)

/-- 'landfalllaw34.PowerLegs': WHATEVER THE INPUT: true; the input reads as it did. -/
def powerLegsSpec : ChangeSpec := { name := "powerLegs", fn := fun _ => fun
  | [d1, d2, d3, d4] => { results := [.lit (.bool true)], args := [d1, d2, d3, d4] }
  | _ => none }
def powerLegsRow : OpenClaim := { program := "ytjnjmpakmgmdbaa", sum := "0830ef83b8a65bca44863ff2290c5194528bb307611e2bae6c3386e0054349ec", func := "landfall/landfalllaw34.PowerLegs", spec := "powerLegs", unfollowed := true, recurses := true, apart := false }
def PowerLegsSaid : Prop := powerLegsRow.holds Try.pinned (OpenSpec.ofChange powerLegsSpec)

/-- ITS FALSE NEIGHBOUR: 'it returns false'. Refute it at one input. -/
def powerLegsWrong : ChangeSpec := { name := "powerLegs", fn := fun _ => fun
  | [d1, d2, d3, d4] => { results := [.lit (.bool false)], args := [d1, d2, d3, d4] }
  | _ => none }
def PowerLegsWrongFalsely : Prop := powerLegsRow.holds Try.pinned (OpenSpec.ofChange powerLegsWrong)

/-- 'landfalllaw34.PowerUsed': WHATEVER THE INPUT: true; the input reads as it did. -/
def powerUsedSpec : ChangeSpec := { name := "powerUsed", fn := fun _ => fun
  | [d1, d2] => { results := [.lit (.bool true)], args := [d1, d2] }
  | _ => none }
def powerUsedRow : OpenClaim := { program := "ytjnjmpakmgmdbaa", sum := "0830ef83b8a65bca44863ff2290c5194528bb307611e2bae6c3386e0054349ec", func := "landfall/landfalllaw34.PowerUsed", spec := "powerUsed", unfollowed := true, recurses := true, apart := false }
def PowerUsedSaid : Prop := powerUsedRow.holds Try.pinned (OpenSpec.ofChange powerUsedSpec)

/-- ITS FALSE NEIGHBOUR: 'it returns false'. Refute it at one input. -/
def powerUsedWrong : ChangeSpec := { name := "powerUsed", fn := fun _ => fun
  | [d1, d2] => { results := [.lit (.bool false)], args := [d1, d2] }
  | _ => none }
def PowerUsedWrongFalsely : Prop := powerUsedRow.holds Try.pinned (OpenSpec.ofChange powerUsedWrong)

/-- 'landfalllaw34.PowerStops': WHATEVER THE INPUT: true; the input reads as it did. -/
def powerStopsSpec : ChangeSpec := { name := "powerStops", fn := fun _ => fun
  | [d1, d2, d3] => { results := [.lit (.bool true)], args := [d1, d2, d3] }
  | _ => none }
def powerStopsRow : OpenClaim := { program := "ytjnjmpakmgmdbaa", sum := "0830ef83b8a65bca44863ff2290c5194528bb307611e2bae6c3386e0054349ec", func := "landfall/landfalllaw34.PowerStops", spec := "powerStops", unfollowed := true, recurses := true, apart := false }
def PowerStopsSaid : Prop := powerStopsRow.holds Try.pinned (OpenSpec.ofChange powerStopsSpec)

/-- ITS FALSE NEIGHBOUR: 'it returns false'. Refute it at one input. -/
def powerStopsWrong : ChangeSpec := { name := "powerStops", fn := fun _ => fun
  | [d1, d2, d3] => { results := [.lit (.bool false)], args := [d1, d2, d3] }
  | _ => none }
def PowerStopsWrongFalsely : Prop := powerStopsRow.holds Try.pinned (OpenSpec.ofChange powerStopsWrong)

/-- 'landfalllaw34.PowerHome': WHATEVER THE INPUT: true; the input reads as it did. -/
def powerHomeSpec : ChangeSpec := { name := "powerHome", fn := fun _ => fun
  | [d1, d2] => { results := [.lit (.bool true)], args := [d1, d2] }
  | _ => none }
def powerHomeRow : OpenClaim := { program := "ytjnjmpakmgmdbaa", sum := "0830ef83b8a65bca44863ff2290c5194528bb307611e2bae6c3386e0054349ec", func := "landfall/landfalllaw34.PowerHome", spec := "powerHome", unfollowed := true, recurses := true, apart := false }
def PowerHomeSaid : Prop := powerHomeRow.holds Try.pinned (OpenSpec.ofChange powerHomeSpec)

/-- ITS FALSE NEIGHBOUR: 'it returns false'. Refute it at one input. -/
def powerHomeWrong : ChangeSpec := { name := "powerHome", fn := fun _ => fun
  | [d1, d2] => { results := [.lit (.bool false)], args := [d1, d2] }
  | _ => none }
def PowerHomeWrongFalsely : Prop := powerHomeRow.holds Try.pinned (OpenSpec.ofChange powerHomeWrong)

/-- 'landfalllaw34.PowerTwice': WHATEVER THE INPUT: true; the input reads as it did. -/
def powerTwiceSpec : ChangeSpec := { name := "powerTwice", fn := fun _ => fun
  | [d1, d2] => { results := [.lit (.bool true)], args := [d1, d2] }
  | _ => none }
def powerTwiceRow : OpenClaim := { program := "ytjnjmpakmgmdbaa", sum := "0830ef83b8a65bca44863ff2290c5194528bb307611e2bae6c3386e0054349ec", func := "landfall/landfalllaw34.PowerTwice", spec := "powerTwice", unfollowed := true, recurses := true, apart := false }
def PowerTwiceSaid : Prop := powerTwiceRow.holds Try.pinned (OpenSpec.ofChange powerTwiceSpec)

/-- ITS FALSE NEIGHBOUR: 'it returns false'. Refute it at one input. -/
def powerTwiceWrong : ChangeSpec := { name := "powerTwice", fn := fun _ => fun
  | [d1, d2] => { results := [.lit (.bool false)], args := [d1, d2] }
  | _ => none }
def PowerTwiceWrongFalsely : Prop := powerTwiceRow.holds Try.pinned (OpenSpec.ofChange powerTwiceWrong)

/- THE SECOND FORM. 'bulk': how many values and letters a reading holds, each counted each time it is reached (what is shared counts as often as it is met; a slice's spare places count too). A statement '..UptoSaid' is the law's where the arguments, and the package variables that the reading takes, are together of bulk at most 1048576: NARROWER than '..Said'. Prove '..Said' where nothing that the law and all that it calls make is longer than what came in: it says more and counts as full. Else prove '..UptoSaid'. A law counts once. -/
mutual
def uptoBulk {H : Type} : DataW H → Nat
  | .lit (.string bytes) => bytes.length + 1
  | .lit _ => 1
  | .nil => 1
  | .ptr d => uptoBulk d + 1
  | .slice elems spare => uptoBulkAll elems + uptoBulkAll spare + 1
  | .agg parts => uptoBulkAll parts + 1
  | .iface _ d => uptoBulk d + 1
  | .map entries => uptoBulkEntries entries + 1
  | .held _ => 1
def uptoBulkAll {H : Type} : List (DataW H) → Nat
  | [] => 0
  | d :: r => uptoBulk d + uptoBulkAll r
def uptoBulkEntries {H : Type} : List (Lit × DataW H) → Nat
  | [] => 0
  | x :: r => uptoBulkEntry x + uptoBulkEntries r
def uptoBulkEntry {H : Type} : Lit × DataW H → Nat
  | (.string bytes, d) => bytes.length + uptoBulk d + 1
  | (_, d) => uptoBulk d + 1
 end
def uptoSmall : (H : Type) → List (DataW H) → Bool := fun _ ds => decide (uptoBulkAll ds ≤ 1048576)
def OpenSpec.upto (s : _root_.Go.ChangeSpec) : _root_.Go.OpenSpec := { _root_.Go.OpenSpec.ofChange s with cond := some uptoSmall }

/-- 'landfalllaw31.MissionMatchesReference', WHERE WHAT IT READS IS OF BULK AT MOST 1048576: true; the input reads as it did. -/
def missionMatchesReferenceUptoRow : OpenClaim := { program := "ytjnjmpakmgmdbaa", sum := "0830ef83b8a65bca44863ff2290c5194528bb307611e2bae6c3386e0054349ec", func := "landfall/landfalllaw31.MissionMatchesReference", spec := "missionMatchesReference", unfollowed := true, recurses := true, apart := false, narrowed := true }
def MissionMatchesReferenceUptoSaid : Prop := missionMatchesReferenceUptoRow.holds Try.pinned (OpenSpec.upto missionMatchesReferenceSpec)

/-- 'landfalllaw31.MissionLengths', WHERE WHAT IT READS IS OF BULK AT MOST 1048576: true; the input reads as it did. -/
def missionLengthsUptoRow : OpenClaim := { program := "ytjnjmpakmgmdbaa", sum := "0830ef83b8a65bca44863ff2290c5194528bb307611e2bae6c3386e0054349ec", func := "landfall/landfalllaw31.MissionLengths", spec := "missionLengths", unfollowed := true, recurses := true, apart := false, narrowed := true }
def MissionLengthsUptoSaid : Prop := missionLengthsUptoRow.holds Try.pinned (OpenSpec.upto missionLengthsSpec)

/-- 'landfalllaw31.MissionTimes', WHERE WHAT IT READS IS OF BULK AT MOST 1048576: true; the input reads as it did. -/
def missionTimesUptoRow : OpenClaim := { program := "ytjnjmpakmgmdbaa", sum := "0830ef83b8a65bca44863ff2290c5194528bb307611e2bae6c3386e0054349ec", func := "landfall/landfalllaw31.MissionTimes", spec := "missionTimes", unfollowed := true, recurses := true, apart := false, narrowed := true }
def MissionTimesUptoSaid : Prop := missionTimesUptoRow.holds Try.pinned (OpenSpec.upto missionTimesSpec)

/-- 'landfalllaw31.MissionRoutes', WHERE WHAT IT READS IS OF BULK AT MOST 1048576: true; the input reads as it did. -/
def missionRoutesUptoRow : OpenClaim := { program := "ytjnjmpakmgmdbaa", sum := "0830ef83b8a65bca44863ff2290c5194528bb307611e2bae6c3386e0054349ec", func := "landfall/landfalllaw31.MissionRoutes", spec := "missionRoutes", unfollowed := true, recurses := true, apart := false, narrowed := true }
def MissionRoutesUptoSaid : Prop := missionRoutesUptoRow.holds Try.pinned (OpenSpec.upto missionRoutesSpec)

/-- 'landfalllaw31.MissionRadii', WHERE WHAT IT READS IS OF BULK AT MOST 1048576: true; the input reads as it did. -/
def missionRadiiUptoRow : OpenClaim := { program := "ytjnjmpakmgmdbaa", sum := "0830ef83b8a65bca44863ff2290c5194528bb307611e2bae6c3386e0054349ec", func := "landfall/landfalllaw31.MissionRadii", spec := "missionRadii", unfollowed := true, recurses := true, apart := false, narrowed := true }
def MissionRadiiUptoSaid : Prop := missionRadiiUptoRow.holds Try.pinned (OpenSpec.upto missionRadiiSpec)

/-- 'landfalllaw31.MissionMoved', WHERE WHAT IT READS IS OF BULK AT MOST 1048576: true; the input reads as it did. -/
def missionMovedUptoRow : OpenClaim := { program := "ytjnjmpakmgmdbaa", sum := "0830ef83b8a65bca44863ff2290c5194528bb307611e2bae6c3386e0054349ec", func := "landfall/landfalllaw31.MissionMoved", spec := "missionMoved", unfollowed := true, recurses := true, apart := false, narrowed := true }
def MissionMovedUptoSaid : Prop := missionMovedUptoRow.holds Try.pinned (OpenSpec.upto missionMovedSpec)

/-- 'landfalllaw34.PowerMatchesReference', WHERE WHAT IT READS IS OF BULK AT MOST 1048576: true; the input reads as it did. -/
def powerMatchesReferenceUptoRow : OpenClaim := { program := "ytjnjmpakmgmdbaa", sum := "0830ef83b8a65bca44863ff2290c5194528bb307611e2bae6c3386e0054349ec", func := "landfall/landfalllaw34.PowerMatchesReference", spec := "powerMatchesReference", unfollowed := true, recurses := true, apart := false, narrowed := true }
def PowerMatchesReferenceUptoSaid : Prop := powerMatchesReferenceUptoRow.holds Try.pinned (OpenSpec.upto powerMatchesReferenceSpec)

/-- 'landfalllaw34.PowerLegs', WHERE WHAT IT READS IS OF BULK AT MOST 1048576: true; the input reads as it did. -/
def powerLegsUptoRow : OpenClaim := { program := "ytjnjmpakmgmdbaa", sum := "0830ef83b8a65bca44863ff2290c5194528bb307611e2bae6c3386e0054349ec", func := "landfall/landfalllaw34.PowerLegs", spec := "powerLegs", unfollowed := true, recurses := true, apart := false, narrowed := true }
def PowerLegsUptoSaid : Prop := powerLegsUptoRow.holds Try.pinned (OpenSpec.upto powerLegsSpec)

/-- 'landfalllaw34.PowerUsed', WHERE WHAT IT READS IS OF BULK AT MOST 1048576: true; the input reads as it did. -/
def powerUsedUptoRow : OpenClaim := { program := "ytjnjmpakmgmdbaa", sum := "0830ef83b8a65bca44863ff2290c5194528bb307611e2bae6c3386e0054349ec", func := "landfall/landfalllaw34.PowerUsed", spec := "powerUsed", unfollowed := true, recurses := true, apart := false, narrowed := true }
def PowerUsedUptoSaid : Prop := powerUsedUptoRow.holds Try.pinned (OpenSpec.upto powerUsedSpec)

/-- 'landfalllaw34.PowerStops', WHERE WHAT IT READS IS OF BULK AT MOST 1048576: true; the input reads as it did. -/
def powerStopsUptoRow : OpenClaim := { program := "ytjnjmpakmgmdbaa", sum := "0830ef83b8a65bca44863ff2290c5194528bb307611e2bae6c3386e0054349ec", func := "landfall/landfalllaw34.PowerStops", spec := "powerStops", unfollowed := true, recurses := true, apart := false, narrowed := true }
def PowerStopsUptoSaid : Prop := powerStopsUptoRow.holds Try.pinned (OpenSpec.upto powerStopsSpec)

/-- 'landfalllaw34.PowerHome', WHERE WHAT IT READS IS OF BULK AT MOST 1048576: true; the input reads as it did. -/
def powerHomeUptoRow : OpenClaim := { program := "ytjnjmpakmgmdbaa", sum := "0830ef83b8a65bca44863ff2290c5194528bb307611e2bae6c3386e0054349ec", func := "landfall/landfalllaw34.PowerHome", spec := "powerHome", unfollowed := true, recurses := true, apart := false, narrowed := true }
def PowerHomeUptoSaid : Prop := powerHomeUptoRow.holds Try.pinned (OpenSpec.upto powerHomeSpec)

/-- 'landfalllaw34.PowerTwice', WHERE WHAT IT READS IS OF BULK AT MOST 1048576: true; the input reads as it did. -/
def powerTwiceUptoRow : OpenClaim := { program := "ytjnjmpakmgmdbaa", sum := "0830ef83b8a65bca44863ff2290c5194528bb307611e2bae6c3386e0054349ec", func := "landfall/landfalllaw34.PowerTwice", spec := "powerTwice", unfollowed := true, recurses := true, apart := false, narrowed := true }
def PowerTwiceUptoSaid : Prop := powerTwiceUptoRow.holds Try.pinned (OpenSpec.upto powerTwiceSpec)

end Rows
end Go.Proofs.Ytjnjmpakmgmdbaa
