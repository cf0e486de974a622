/-
  No cell of these rows narrows 'for every input' (looked for: loops, veiled, ifaces, maps, wideKeys, modest, calm, conditions, laid).
  DERIVED. THE GIVEN ROWS OF THIS SEAT. 5 by the template 'for every input the law returns true; each argument reads behind the call as it read before'; 0 by the template 'total and deterministic' (their statements: YtdolkgihppgpcaaGreatTotals.lean).
  GIVEN WITH THE SEED: the statements are not yours to turn. If you find one false, say at which input.
  Laid BY PROGRAM, IN A SANDBOX (cutbox-rows.mjs): the forced cells as the released guide's own fill.sh prints them over the translation aafb4292b2cd74ad… (all of the seat's roots in one cut). By AI agents, Wed Nov 11 2026. No macro, syntax, notation, axiom, sorry.
-/
import Derived.Test.YtdolkgihppgpcaaGreatChecked
import GoSem.Claim
import GoSem.ClaimJoined
import GoSem.ClaimMapViews
import Derived.JoinedTies
import Derived.KernelRfl
namespace Go.Proofs.YtdolkgihppgpcaaGreat
/- THE CELL 'sum', in the pinned program and in every row, IS THE sha256 OF THE DUMP (.gsa) THAT YtdolkgihppgpcaaGreatProg.lean LOADS. Nothing in Lean hashes anything: it is a label: what it is worth is what the hold of that sum in a sandbox is worth. -/
noncomputable def Tryz.pinned : Pinned := { name := "ytdolkgihppgpcaagreat", sum := "aafb4292b2cd74ad886e08b312bc854e162ad4f9b6c5f25c5e24b34195433892", checked := Tryz.checked }
namespace Rows
def none {H : Type} : Left H := { results := [], args := [] }

/-- 'landfalllaw37.SceneBreaks': WHATEVER THE INPUT: true; the input reads as it did. -/
def sceneBreaksSpec : ChangeSpec := { name := "sceneBreaks", fn := fun _ => fun
  | [d1, d2] => { results := [.lit (.bool true)], args := [d1, d2] }
  | _ => none }
def sceneBreaksRow : OpenClaim := { program := "ytdolkgihppgpcaagreat", sum := "aafb4292b2cd74ad886e08b312bc854e162ad4f9b6c5f25c5e24b34195433892", func := "landfall/landfalllaw37.SceneBreaks", spec := "sceneBreaks", unfollowed := true, recurses := true, apart := false }
def SceneBreaksSaid : Prop := sceneBreaksRow.holds Tryz.pinned (OpenSpec.ofChange sceneBreaksSpec)

/-- ITS FALSE NEIGHBOUR: 'it returns false'. Refute it at one input. -/
def sceneBreaksWrong : ChangeSpec := { name := "sceneBreaks", fn := fun _ => fun
  | [d1, d2] => { results := [.lit (.bool false)], args := [d1, d2] }
  | _ => none }
def SceneBreaksWrongFalsely : Prop := sceneBreaksRow.holds Tryz.pinned (OpenSpec.ofChange sceneBreaksWrong)

/-- 'landfalllaw37.ScenePlaces': WHATEVER THE INPUT: true; the input reads as it did. -/
def scenePlacesSpec : ChangeSpec := { name := "scenePlaces", fn := fun _ => fun
  | [d1, d2] => { results := [.lit (.bool true)], args := [d1, d2] }
  | _ => none }
def scenePlacesRow : OpenClaim := { program := "ytdolkgihppgpcaagreat", sum := "aafb4292b2cd74ad886e08b312bc854e162ad4f9b6c5f25c5e24b34195433892", func := "landfall/landfalllaw37.ScenePlaces", spec := "scenePlaces", unfollowed := true, recurses := true, apart := false }
def ScenePlacesSaid : Prop := scenePlacesRow.holds Tryz.pinned (OpenSpec.ofChange scenePlacesSpec)

/-- ITS FALSE NEIGHBOUR: 'it returns false'. Refute it at one input. -/
def scenePlacesWrong : ChangeSpec := { name := "scenePlaces", fn := fun _ => fun
  | [d1, d2] => { results := [.lit (.bool false)], args := [d1, d2] }
  | _ => none }
def ScenePlacesWrongFalsely : Prop := scenePlacesRow.holds Tryz.pinned (OpenSpec.ofChange scenePlacesWrong)

/-- 'landfalllaw37.SceneOne': WHATEVER THE INPUT: true; the input reads as it did. -/
def sceneOneSpec : ChangeSpec := { name := "sceneOne", fn := fun _ => fun
  | [d1, d2, d3, d4] => { results := [.lit (.bool true)], args := [d1, d2, d3, d4] }
  | _ => none }
def sceneOneRow : OpenClaim := { program := "ytdolkgihppgpcaagreat", sum := "aafb4292b2cd74ad886e08b312bc854e162ad4f9b6c5f25c5e24b34195433892", func := "landfall/landfalllaw37.SceneOne", spec := "sceneOne", unfollowed := true, recurses := true, apart := false }
def SceneOneSaid : Prop := sceneOneRow.holds Tryz.pinned (OpenSpec.ofChange sceneOneSpec)

/-- ITS FALSE NEIGHBOUR: 'it returns false'. Refute it at one input. -/
def sceneOneWrong : ChangeSpec := { name := "sceneOne", fn := fun _ => fun
  | [d1, d2, d3, d4] => { results := [.lit (.bool false)], args := [d1, d2, d3, d4] }
  | _ => none }
def SceneOneWrongFalsely : Prop := sceneOneRow.holds Tryz.pinned (OpenSpec.ofChange sceneOneWrong)

/-- 'landfalllaw37.SceneLimits': WHATEVER THE INPUT: true; the input reads as it did. -/
def sceneLimitsSpec : ChangeSpec := { name := "sceneLimits", fn := fun _ => fun
  | [d] => { results := [.lit (.bool true)], args := [d] }
  | _ => none }
def sceneLimitsRow : OpenClaim := { program := "ytdolkgihppgpcaagreat", sum := "aafb4292b2cd74ad886e08b312bc854e162ad4f9b6c5f25c5e24b34195433892", func := "landfall/landfalllaw37.SceneLimits", spec := "sceneLimits", unfollowed := true, recurses := true, apart := false }
def SceneLimitsSaid : Prop := sceneLimitsRow.holds Tryz.pinned (OpenSpec.ofChange sceneLimitsSpec)

/-- ITS FALSE NEIGHBOUR: 'it returns false'. Refute it at one input. -/
def sceneLimitsWrong : ChangeSpec := { name := "sceneLimits", fn := fun _ => fun
  | [d] => { results := [.lit (.bool false)], args := [d] }
  | _ => none }
def SceneLimitsWrongFalsely : Prop := sceneLimitsRow.holds Tryz.pinned (OpenSpec.ofChange sceneLimitsWrong)

/-- 'landfalllaw37.SceneNone': WHATEVER THE INPUT: true; the input reads as it did. -/
def sceneNoneSpec : ChangeSpec := { name := "sceneNone", fn := fun _ => fun
  | [d] => { results := [.lit (.bool true)], args := [d] }
  | _ => none }
def sceneNoneRow : OpenClaim := { program := "ytdolkgihppgpcaagreat", sum := "aafb4292b2cd74ad886e08b312bc854e162ad4f9b6c5f25c5e24b34195433892", func := "landfall/landfalllaw37.SceneNone", spec := "sceneNone", unfollowed := true, recurses := true, apart := false }
def SceneNoneSaid : Prop := sceneNoneRow.holds Tryz.pinned (OpenSpec.ofChange sceneNoneSpec)

/-- ITS FALSE NEIGHBOUR: 'it returns false'. Refute it at one input. -/
def sceneNoneWrong : ChangeSpec := { name := "sceneNone", fn := fun _ => fun
  | [d] => { results := [.lit (.bool false)], args := [d] }
  | _ => none }
def SceneNoneWrongFalsely : Prop := sceneNoneRow.holds Tryz.pinned (OpenSpec.ofChange sceneNoneWrong)

/- THE SECOND FORM. 'bulk': how many values and letters a reading holds, each counted each time it is reached (what is shared counts as often as it is met; a slice's spare places count too). A statement '..UptoSaid' is the law's where the arguments, and the package variables that the reading takes, are together of bulk at most 1048576: NARROWER than '..Said'. Prove '..Said' where nothing that the law and all that it calls make is longer than what came in: it says more and counts as full. Else prove '..UptoSaid'. A law counts once. -/
mutual
def uptoBulk {H : Type} : DataW H → Nat
  | .lit (.string bytes) => bytes.length + 1
  | .lit _ => 1
  | .nil => 1
  | .ptr d => uptoBulk d + 1
  | .slice elems spare => uptoBulkAll elems + uptoBulkAll spare + 1
  | .agg parts => uptoBulkAll parts + 1
  | .iface _ d => uptoBulk d + 1
  | .map entries => uptoBulkEntries entries + 1
  | .held _ => 1
def uptoBulkAll {H : Type} : List (DataW H) → Nat
  | [] => 0
  | d :: r => uptoBulk d + uptoBulkAll r
def uptoBulkEntries {H : Type} : List (Lit × DataW H) → Nat
  | [] => 0
  | x :: r => uptoBulkEntry x + uptoBulkEntries r
def uptoBulkEntry {H : Type} : Lit × DataW H → Nat
  | (.string bytes, d) => bytes.length + uptoBulk d + 1
  | (_, d) => uptoBulk d + 1
 end
def uptoSmall : (H : Type) → List (DataW H) → Bool := fun _ ds => decide (uptoBulkAll ds ≤ 1048576)
def OpenSpec.upto (s : _root_.Go.ChangeSpec) : _root_.Go.OpenSpec := { _root_.Go.OpenSpec.ofChange s with cond := some uptoSmall }

/-- 'landfalllaw37.SceneBreaks', WHERE WHAT IT READS IS OF BULK AT MOST 1048576: true; the input reads as it did. -/
def sceneBreaksUptoRow : OpenClaim := { program := "ytdolkgihppgpcaagreat", sum := "aafb4292b2cd74ad886e08b312bc854e162ad4f9b6c5f25c5e24b34195433892", func := "landfall/landfalllaw37.SceneBreaks", spec := "sceneBreaks", unfollowed := true, recurses := true, apart := false, narrowed := true }
def SceneBreaksUptoSaid : Prop := sceneBreaksUptoRow.holds Tryz.pinned (OpenSpec.upto sceneBreaksSpec)

/-- 'landfalllaw37.ScenePlaces', WHERE WHAT IT READS IS OF BULK AT MOST 1048576: true; the input reads as it did. -/
def scenePlacesUptoRow : OpenClaim := { program := "ytdolkgihppgpcaagreat", sum := "aafb4292b2cd74ad886e08b312bc854e162ad4f9b6c5f25c5e24b34195433892", func := "landfall/landfalllaw37.ScenePlaces", spec := "scenePlaces", unfollowed := true, recurses := true, apart := false, narrowed := true }
def ScenePlacesUptoSaid : Prop := scenePlacesUptoRow.holds Tryz.pinned (OpenSpec.upto scenePlacesSpec)

/-- 'landfalllaw37.SceneOne', WHERE WHAT IT READS IS OF BULK AT MOST 1048576: true; the input reads as it did. -/
def sceneOneUptoRow : OpenClaim := { program := "ytdolkgihppgpcaagreat", sum := "aafb4292b2cd74ad886e08b312bc854e162ad4f9b6c5f25c5e24b34195433892", func := "landfall/landfalllaw37.SceneOne", spec := "sceneOne", unfollowed := true, recurses := true, apart := false, narrowed := true }
def SceneOneUptoSaid : Prop := sceneOneUptoRow.holds Tryz.pinned (OpenSpec.upto sceneOneSpec)

/-- 'landfalllaw37.SceneLimits', WHERE WHAT IT READS IS OF BULK AT MOST 1048576: true; the input reads as it did. -/
def sceneLimitsUptoRow : OpenClaim := { program := "ytdolkgihppgpcaagreat", sum := "aafb4292b2cd74ad886e08b312bc854e162ad4f9b6c5f25c5e24b34195433892", func := "landfall/landfalllaw37.SceneLimits", spec := "sceneLimits", unfollowed := true, recurses := true, apart := false, narrowed := true }
def SceneLimitsUptoSaid : Prop := sceneLimitsUptoRow.holds Tryz.pinned (OpenSpec.upto sceneLimitsSpec)

/-- 'landfalllaw37.SceneNone', WHERE WHAT IT READS IS OF BULK AT MOST 1048576: true; the input reads as it did. -/
def sceneNoneUptoRow : OpenClaim := { program := "ytdolkgihppgpcaagreat", sum := "aafb4292b2cd74ad886e08b312bc854e162ad4f9b6c5f25c5e24b34195433892", func := "landfall/landfalllaw37.SceneNone", spec := "sceneNone", unfollowed := true, recurses := true, apart := false, narrowed := true }
def SceneNoneUptoSaid : Prop := sceneNoneUptoRow.holds Tryz.pinned (OpenSpec.upto sceneNoneSpec)

end Rows
end Go.Proofs.YtdolkgihppgpcaaGreat
