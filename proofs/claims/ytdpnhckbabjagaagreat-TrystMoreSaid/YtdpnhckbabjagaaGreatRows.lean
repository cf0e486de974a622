/-
  No cell of these rows narrows 'for every input' (looked for: loops, veiled, ifaces, maps, wideKeys, modest, calm, conditions, laid).
  DERIVED. THE GIVEN ROWS OF THIS SEAT. 7 by the template 'for every input the law returns true; each argument reads behind the call as it read before'; 0 by the template 'total and deterministic' (their statements: YtdpnhckbabjagaaGreatTotals.lean).
  GIVEN WITH THE SEED: the statements are not yours to turn. If you find one false, say at which input.
  Laid BY PROGRAM, IN A SANDBOX (cutbox-rows.mjs): the forced cells as the released guide's own fill.sh prints them over the translation e53a85e012701f1f… (all of the seat's roots in one cut). By AI agents, Wed Nov 11 2026. No macro, syntax, notation, axiom, sorry.
-/
import Derived.Test.YtdpnhckbabjagaaGreatChecked
import GoSem.Claim
import GoSem.ClaimJoined
import GoSem.ClaimMapViews
import Derived.JoinedTies
import Derived.KernelRfl
namespace Go.Proofs.YtdpnhckbabjagaaGreat
/- THE CELL 'sum', in the pinned program and in every row, IS THE sha256 OF THE DUMP (.gsa) THAT YtdpnhckbabjagaaGreatProg.lean LOADS. Nothing in Lean hashes anything: it is a label: what it is worth is what the hold of that sum in a sandbox is worth. -/
noncomputable def Tryz.pinned : Pinned := { name := "ytdpnhckbabjagaagreat", sum := "e53a85e012701f1fd0a0460c43f25a077dad2334a2d9ff0f390d531d33288b54", checked := Tryz.checked }
namespace Rows
def none {H : Type} : Left H := { results := [], args := [] }

/-- 'landfalllaw38.TrystMatchesReference': WHATEVER THE INPUT: true; the input reads as it did. -/
def trystMatchesReferenceSpec : ChangeSpec := { name := "trystMatchesReference", fn := fun _ => fun
  | [d1, d2, d3, d4, d5, d6, d7] => { results := [.lit (.bool true)], args := [d1, d2, d3, d4, d5, d6, d7] }
  | _ => none }
def trystMatchesReferenceRow : OpenClaim := { program := "ytdpnhckbabjagaagreat", sum := "e53a85e012701f1fd0a0460c43f25a077dad2334a2d9ff0f390d531d33288b54", func := "landfall/landfalllaw38.TrystMatchesReference", spec := "trystMatchesReference", unfollowed := true, recurses := true, apart := false }
def TrystMatchesReferenceSaid : Prop := trystMatchesReferenceRow.holds Tryz.pinned (OpenSpec.ofChange trystMatchesReferenceSpec)

/-- ITS FALSE NEIGHBOUR: 'it returns false'. Refute it at one input. -/
def trystMatchesReferenceWrong : ChangeSpec := { name := "trystMatchesReference", fn := fun _ => fun
  | [d1, d2, d3, d4, d5, d6, d7] => { results := [.lit (.bool false)], args := [d1, d2, d3, d4, d5, d6, d7] }
  | _ => none }
def TrystMatchesReferenceWrongFalsely : Prop := trystMatchesReferenceRow.holds Tryz.pinned (OpenSpec.ofChange trystMatchesReferenceWrong)

/-- 'landfalllaw38.TrystMoved': WHATEVER THE INPUT: true; the input reads as it did. -/
def trystMovedSpec : ChangeSpec := { name := "trystMoved", fn := fun _ => fun
  | [d1, d2, d3, d4] => { results := [.lit (.bool true)], args := [d1, d2, d3, d4] }
  | _ => none }
def trystMovedRow : OpenClaim := { program := "ytdpnhckbabjagaagreat", sum := "e53a85e012701f1fd0a0460c43f25a077dad2334a2d9ff0f390d531d33288b54", func := "landfall/landfalllaw38.TrystMoved", spec := "trystMoved", unfollowed := true, recurses := true, apart := false }
def TrystMovedSaid : Prop := trystMovedRow.holds Tryz.pinned (OpenSpec.ofChange trystMovedSpec)

/-- ITS FALSE NEIGHBOUR: 'it returns false'. Refute it at one input. -/
def trystMovedWrong : ChangeSpec := { name := "trystMoved", fn := fun _ => fun
  | [d1, d2, d3, d4] => { results := [.lit (.bool false)], args := [d1, d2, d3, d4] }
  | _ => none }
def TrystMovedWrongFalsely : Prop := trystMovedRow.holds Tryz.pinned (OpenSpec.ofChange trystMovedWrong)

/-- 'landfalllaw38.TrystMeets': WHATEVER THE INPUT: true; the input reads as it did. -/
def trystMeetsSpec : ChangeSpec := { name := "trystMeets", fn := fun _ => fun
  | [d1, d2, d3, d4, d5, d6, d7] => { results := [.lit (.bool true)], args := [d1, d2, d3, d4, d5, d6, d7] }
  | _ => none }
def trystMeetsRow : OpenClaim := { program := "ytdpnhckbabjagaagreat", sum := "e53a85e012701f1fd0a0460c43f25a077dad2334a2d9ff0f390d531d33288b54", func := "landfall/landfalllaw38.TrystMeets", spec := "trystMeets", unfollowed := true, recurses := true, apart := false }
def TrystMeetsSaid : Prop := trystMeetsRow.holds Tryz.pinned (OpenSpec.ofChange trystMeetsSpec)

/-- ITS FALSE NEIGHBOUR: 'it returns false'. Refute it at one input. -/
def trystMeetsWrong : ChangeSpec := { name := "trystMeets", fn := fun _ => fun
  | [d1, d2, d3, d4, d5, d6, d7] => { results := [.lit (.bool false)], args := [d1, d2, d3, d4, d5, d6, d7] }
  | _ => none }
def TrystMeetsWrongFalsely : Prop := trystMeetsRow.holds Tryz.pinned (OpenSpec.ofChange trystMeetsWrong)

/-- 'landfalllaw38.TrystWays': WHATEVER THE INPUT: true; the input reads as it did. -/
def trystWaysSpec : ChangeSpec := { name := "trystWays", fn := fun _ => fun
  | [d1, d2, d3, d4, d5, d6] => { results := [.lit (.bool true)], args := [d1, d2, d3, d4, d5, d6] }
  | _ => none }
def trystWaysRow : OpenClaim := { program := "ytdpnhckbabjagaagreat", sum := "e53a85e012701f1fd0a0460c43f25a077dad2334a2d9ff0f390d531d33288b54", func := "landfall/landfalllaw38.TrystWays", spec := "trystWays", unfollowed := true, recurses := true, apart := false }
def TrystWaysSaid : Prop := trystWaysRow.holds Tryz.pinned (OpenSpec.ofChange trystWaysSpec)

/-- ITS FALSE NEIGHBOUR: 'it returns false'. Refute it at one input. -/
def trystWaysWrong : ChangeSpec := { name := "trystWays", fn := fun _ => fun
  | [d1, d2, d3, d4, d5, d6] => { results := [.lit (.bool false)], args := [d1, d2, d3, d4, d5, d6] }
  | _ => none }
def TrystWaysWrongFalsely : Prop := trystWaysRow.holds Tryz.pinned (OpenSpec.ofChange trystWaysWrong)

/-- 'landfalllaw38.TrystMore': WHATEVER THE INPUT: true; the input reads as it did. -/
def trystMoreSpec : ChangeSpec := { name := "trystMore", fn := fun _ => fun
  | [d1, d2, d3, d4, d5, d6, d7] => { results := [.lit (.bool true)], args := [d1, d2, d3, d4, d5, d6, d7] }
  | _ => none }
def trystMoreRow : OpenClaim := { program := "ytdpnhckbabjagaagreat", sum := "e53a85e012701f1fd0a0460c43f25a077dad2334a2d9ff0f390d531d33288b54", func := "landfall/landfalllaw38.TrystMore", spec := "trystMore", unfollowed := true, recurses := true, apart := false }
def TrystMoreSaid : Prop := trystMoreRow.holds Tryz.pinned (OpenSpec.ofChange trystMoreSpec)

/-- ITS FALSE NEIGHBOUR: 'it returns false'. Refute it at one input. -/
def trystMoreWrong : ChangeSpec := { name := "trystMore", fn := fun _ => fun
  | [d1, d2, d3, d4, d5, d6, d7] => { results := [.lit (.bool false)], args := [d1, d2, d3, d4, d5, d6, d7] }
  | _ => none }
def TrystMoreWrongFalsely : Prop := trystMoreRow.holds Tryz.pinned (OpenSpec.ofChange trystMoreWrong)

/-- 'landfalllaw38.TrystSelf': WHATEVER THE INPUT: true; the input reads as it did. -/
def trystSelfSpec : ChangeSpec := { name := "trystSelf", fn := fun _ => fun
  | [d1, d2, d3, d4, d5] => { results := [.lit (.bool true)], args := [d1, d2, d3, d4, d5] }
  | _ => none }
def trystSelfRow : OpenClaim := { program := "ytdpnhckbabjagaagreat", sum := "e53a85e012701f1fd0a0460c43f25a077dad2334a2d9ff0f390d531d33288b54", func := "landfall/landfalllaw38.TrystSelf", spec := "trystSelf", unfollowed := true, recurses := true, apart := false }
def TrystSelfSaid : Prop := trystSelfRow.holds Tryz.pinned (OpenSpec.ofChange trystSelfSpec)

/-- ITS FALSE NEIGHBOUR: 'it returns false'. Refute it at one input. -/
def trystSelfWrong : ChangeSpec := { name := "trystSelf", fn := fun _ => fun
  | [d1, d2, d3, d4, d5] => { results := [.lit (.bool false)], args := [d1, d2, d3, d4, d5] }
  | _ => none }
def TrystSelfWrongFalsely : Prop := trystSelfRow.holds Tryz.pinned (OpenSpec.ofChange trystSelfWrong)

/-- 'landfalllaw38.TrystRanges': WHATEVER THE INPUT: true; the input reads as it did. -/
def trystRangesSpec : ChangeSpec := { name := "trystRanges", fn := fun _ => fun
  | [d1, d2, d3, d4] => { results := [.lit (.bool true)], args := [d1, d2, d3, d4] }
  | _ => none }
def trystRangesRow : OpenClaim := { program := "ytdpnhckbabjagaagreat", sum := "e53a85e012701f1fd0a0460c43f25a077dad2334a2d9ff0f390d531d33288b54", func := "landfall/landfalllaw38.TrystRanges", spec := "trystRanges", unfollowed := true, recurses := true, apart := false }
def TrystRangesSaid : Prop := trystRangesRow.holds Tryz.pinned (OpenSpec.ofChange trystRangesSpec)

/-- ITS FALSE NEIGHBOUR: 'it returns false'. Refute it at one input. -/
def trystRangesWrong : ChangeSpec := { name := "trystRanges", fn := fun _ => fun
  | [d1, d2, d3, d4] => { results := [.lit (.bool false)], args := [d1, d2, d3, d4] }
  | _ => none }
def TrystRangesWrongFalsely : Prop := trystRangesRow.holds Tryz.pinned (OpenSpec.ofChange trystRangesWrong)

/- THE SECOND FORM. 'bulk': how many values and letters a reading holds, each counted each time it is reached (what is shared counts as often as it is met; a slice's spare places count too). A statement '..UptoSaid' is the law's where the arguments, and the package variables that the reading takes, are together of bulk at most 1048576: NARROWER than '..Said'. Prove '..Said' where nothing that the law and all that it calls make is longer than what came in: it says more and counts as full. Else prove '..UptoSaid'. A law counts once. -/
mutual
def uptoBulk {H : Type} : DataW H → Nat
  | .lit (.string bytes) => bytes.length + 1
  | .lit _ => 1
  | .nil => 1
  | .ptr d => uptoBulk d + 1
  | .slice elems spare => uptoBulkAll elems + uptoBulkAll spare + 1
  | .agg parts => uptoBulkAll parts + 1
  | .iface _ d => uptoBulk d + 1
  | .map entries => uptoBulkEntries entries + 1
  | .held _ => 1
def uptoBulkAll {H : Type} : List (DataW H) → Nat
  | [] => 0
  | d :: r => uptoBulk d + uptoBulkAll r
def uptoBulkEntries {H : Type} : List (Lit × DataW H) → Nat
  | [] => 0
  | x :: r => uptoBulkEntry x + uptoBulkEntries r
def uptoBulkEntry {H : Type} : Lit × DataW H → Nat
  | (.string bytes, d) => bytes.length + uptoBulk d + 1
  | (_, d) => uptoBulk d + 1
 end
def uptoSmall : (H : Type) → List (DataW H) → Bool := fun _ ds => decide (uptoBulkAll ds ≤ 1048576)
def OpenSpec.upto (s : _root_.Go.ChangeSpec) : _root_.Go.OpenSpec := { _root_.Go.OpenSpec.ofChange s with cond := some uptoSmall }

/-- 'landfalllaw38.TrystMatchesReference', WHERE WHAT IT READS IS OF BULK AT MOST 1048576: true; the input reads as it did. -/
def trystMatchesReferenceUptoRow : OpenClaim := { program := "ytdpnhckbabjagaagreat", sum := "e53a85e012701f1fd0a0460c43f25a077dad2334a2d9ff0f390d531d33288b54", func := "landfall/landfalllaw38.TrystMatchesReference", spec := "trystMatchesReference", unfollowed := true, recurses := true, apart := false, narrowed := true }
def TrystMatchesReferenceUptoSaid : Prop := trystMatchesReferenceUptoRow.holds Tryz.pinned (OpenSpec.upto trystMatchesReferenceSpec)

/-- 'landfalllaw38.TrystMoved', WHERE WHAT IT READS IS OF BULK AT MOST 1048576: true; the input reads as it did. -/
def trystMovedUptoRow : OpenClaim := { program := "ytdpnhckbabjagaagreat", sum := "e53a85e012701f1fd0a0460c43f25a077dad2334a2d9ff0f390d531d33288b54", func := "landfall/landfalllaw38.TrystMoved", spec := "trystMoved", unfollowed := true, recurses := true, apart := false, narrowed := true }
def TrystMovedUptoSaid : Prop := trystMovedUptoRow.holds Tryz.pinned (OpenSpec.upto trystMovedSpec)

/-- 'landfalllaw38.TrystMeets', WHERE WHAT IT READS IS OF BULK AT MOST 1048576: true; the input reads as it did. -/
def trystMeetsUptoRow : OpenClaim := { program := "ytdpnhckbabjagaagreat", sum := "e53a85e012701f1fd0a0460c43f25a077dad2334a2d9ff0f390d531d33288b54", func := "landfall/landfalllaw38.TrystMeets", spec := "trystMeets", unfollowed := true, recurses := true, apart := false, narrowed := true }
def TrystMeetsUptoSaid : Prop := trystMeetsUptoRow.holds Tryz.pinned (OpenSpec.upto trystMeetsSpec)

/-- 'landfalllaw38.TrystWays', WHERE WHAT IT READS IS OF BULK AT MOST 1048576: true; the input reads as it did. -/
def trystWaysUptoRow : OpenClaim := { program := "ytdpnhckbabjagaagreat", sum := "e53a85e012701f1fd0a0460c43f25a077dad2334a2d9ff0f390d531d33288b54", func := "landfall/landfalllaw38.TrystWays", spec := "trystWays", unfollowed := true, recurses := true, apart := false, narrowed := true }
def TrystWaysUptoSaid : Prop := trystWaysUptoRow.holds Tryz.pinned (OpenSpec.upto trystWaysSpec)

/-- 'landfalllaw38.TrystMore', WHERE WHAT IT READS IS OF BULK AT MOST 1048576: true; the input reads as it did. -/
def trystMoreUptoRow : OpenClaim := { program := "ytdpnhckbabjagaagreat", sum := "e53a85e012701f1fd0a0460c43f25a077dad2334a2d9ff0f390d531d33288b54", func := "landfall/landfalllaw38.TrystMore", spec := "trystMore", unfollowed := true, recurses := true, apart := false, narrowed := true }
def TrystMoreUptoSaid : Prop := trystMoreUptoRow.holds Tryz.pinned (OpenSpec.upto trystMoreSpec)

/-- 'landfalllaw38.TrystSelf', WHERE WHAT IT READS IS OF BULK AT MOST 1048576: true; the input reads as it did. -/
def trystSelfUptoRow : OpenClaim := { program := "ytdpnhckbabjagaagreat", sum := "e53a85e012701f1fd0a0460c43f25a077dad2334a2d9ff0f390d531d33288b54", func := "landfall/landfalllaw38.TrystSelf", spec := "trystSelf", unfollowed := true, recurses := true, apart := false, narrowed := true }
def TrystSelfUptoSaid : Prop := trystSelfUptoRow.holds Tryz.pinned (OpenSpec.upto trystSelfSpec)

/-- 'landfalllaw38.TrystRanges', WHERE WHAT IT READS IS OF BULK AT MOST 1048576: true; the input reads as it did. -/
def trystRangesUptoRow : OpenClaim := { program := "ytdpnhckbabjagaagreat", sum := "e53a85e012701f1fd0a0460c43f25a077dad2334a2d9ff0f390d531d33288b54", func := "landfall/landfalllaw38.TrystRanges", spec := "trystRanges", unfollowed := true, recurses := true, apart := false, narrowed := true }
def TrystRangesUptoSaid : Prop := trystRangesUptoRow.holds Tryz.pinned (OpenSpec.upto trystRangesSpec)

end Rows
end Go.Proofs.YtdpnhckbabjagaaGreat
