/-
  No cell of these rows narrows 'for every input' (looked for: loops, veiled, ifaces, maps, wideKeys, modest, calm, conditions, laid).
  DERIVED. THE GIVEN ROWS OF THIS SEAT. 3 by the template 'for every input the law returns true; each argument reads behind the call as it read before'; 0 by the template 'total and deterministic' (their statements: YtoekcefhphcjjaaTotals.lean).
  GIVEN WITH THE SEED: the statements are not yours to turn. If you find one false, say at which input.
  Laid BY PROGRAM, IN A SANDBOX (cutbox-rows.mjs): the forced cells as the released guide's own fill.sh prints them over the translation 129f3051ebd195bf… (all of the seat's roots in one cut). By AI agents, Wed Nov 11 2026. No macro, syntax, notation, axiom, sorry.
-/
import Derived.Test.YtoekcefhphcjjaaChecked
import GoSem.Claim
import GoSem.ClaimJoined
import GoSem.ClaimMapViews
import Derived.JoinedTies
import Derived.KernelRfl
namespace Go.Proofs.Ytoekcefhphcjjaa
/- THE CELL 'sum', in the pinned program and in every row, IS THE sha256 OF THE DUMP (.gsa) THAT YtoekcefhphcjjaaProg.lean LOADS. Nothing in Lean hashes anything: it is a label: what it is worth is what the hold of that sum in a sandbox is worth. -/
noncomputable def Try.pinned : Pinned := { name := "ytoekcefhphcjjaa", sum := "129f3051ebd195bff0cc3bec7ccaecf81bbe2f82dc97f08cf8368e8152b6ebef", checked := Try.checked }
namespace Rows
def none {H : Type} : Left H := { results := [], args := [] }

/-- 'landfalllaw32.SpreadStops': WHATEVER THE INPUT: true; the input reads as it did. -/
def spreadStopsSpec : ChangeSpec := { name := "spreadStops", fn := fun _ => fun
  | [d1, d2, d3] => { results := [.lit (.bool true)], args := [d1, d2, d3] }
  | _ => none }
def spreadStopsRow : OpenClaim := { program := "ytoekcefhphcjjaa", sum := "129f3051ebd195bff0cc3bec7ccaecf81bbe2f82dc97f08cf8368e8152b6ebef", func := "landfall/landfalllaw32.SpreadStops", spec := "spreadStops", unfollowed := true, recurses := true, apart := false }
def SpreadStopsSaid : Prop := spreadStopsRow.holds Try.pinned (OpenSpec.ofChange spreadStopsSpec)

/-- ITS FALSE NEIGHBOUR: 'it returns false'. Refute it at one input. -/
def spreadStopsWrong : ChangeSpec := { name := "spreadStops", fn := fun _ => fun
  | [d1, d2, d3] => { results := [.lit (.bool false)], args := [d1, d2, d3] }
  | _ => none }
def SpreadStopsWrongFalsely : Prop := spreadStopsRow.holds Try.pinned (OpenSpec.ofChange spreadStopsWrong)

/-- 'landfalllaw32.SpreadStraight': WHATEVER THE INPUT: true; the input reads as it did. -/
def spreadStraightSpec : ChangeSpec := { name := "spreadStraight", fn := fun _ => fun
  | [d1, d2, d3, d4, d5, d6, d7, d8] => { results := [.lit (.bool true)], args := [d1, d2, d3, d4, d5, d6, d7, d8] }
  | _ => none }
def spreadStraightRow : OpenClaim := { program := "ytoekcefhphcjjaa", sum := "129f3051ebd195bff0cc3bec7ccaecf81bbe2f82dc97f08cf8368e8152b6ebef", func := "landfall/landfalllaw32.SpreadStraight", spec := "spreadStraight", unfollowed := true, recurses := true, apart := false }
def SpreadStraightSaid : Prop := spreadStraightRow.holds Try.pinned (OpenSpec.ofChange spreadStraightSpec)

/-- ITS FALSE NEIGHBOUR: 'it returns false'. Refute it at one input. -/
def spreadStraightWrong : ChangeSpec := { name := "spreadStraight", fn := fun _ => fun
  | [d1, d2, d3, d4, d5, d6, d7, d8] => { results := [.lit (.bool false)], args := [d1, d2, d3, d4, d5, d6, d7, d8] }
  | _ => none }
def SpreadStraightWrongFalsely : Prop := spreadStraightRow.holds Try.pinned (OpenSpec.ofChange spreadStraightWrong)

/-- 'landfalllaw32.SpreadWider': WHATEVER THE INPUT: true; the input reads as it did. -/
def spreadWiderSpec : ChangeSpec := { name := "spreadWider", fn := fun _ => fun
  | [d1, d2, d3, d4, d5, d6] => { results := [.lit (.bool true)], args := [d1, d2, d3, d4, d5, d6] }
  | _ => none }
def spreadWiderRow : OpenClaim := { program := "ytoekcefhphcjjaa", sum := "129f3051ebd195bff0cc3bec7ccaecf81bbe2f82dc97f08cf8368e8152b6ebef", func := "landfall/landfalllaw32.SpreadWider", spec := "spreadWider", unfollowed := true, recurses := true, apart := false }
def SpreadWiderSaid : Prop := spreadWiderRow.holds Try.pinned (OpenSpec.ofChange spreadWiderSpec)

/-- ITS FALSE NEIGHBOUR: 'it returns false'. Refute it at one input. -/
def spreadWiderWrong : ChangeSpec := { name := "spreadWider", fn := fun _ => fun
  | [d1, d2, d3, d4, d5, d6] => { results := [.lit (.bool false)], args := [d1, d2, d3, d4, d5, d6] }
  | _ => none }
def SpreadWiderWrongFalsely : Prop := spreadWiderRow.holds Try.pinned (OpenSpec.ofChange spreadWiderWrong)

/- THE SECOND FORM. 'bulk': how many values and letters a reading holds, each counted each time it is reached (what is shared counts as often as it is met; a slice's spare places count too). A statement '..UptoSaid' is the law's where the arguments, and the package variables that the reading takes, are together of bulk at most 1048576: NARROWER than '..Said'. Prove '..Said' where nothing that the law and all that it calls make is longer than what came in: it says more and counts as full. Else prove '..UptoSaid'. A law counts once. -/
mutual
def uptoBulk {H : Type} : DataW H → Nat
  | .lit (.string bytes) => bytes.length + 1
  | .lit _ => 1
  | .nil => 1
  | .ptr d => uptoBulk d + 1
  | .slice elems spare => uptoBulkAll elems + uptoBulkAll spare + 1
  | .agg parts => uptoBulkAll parts + 1
  | .iface _ d => uptoBulk d + 1
  | .map entries => uptoBulkEntries entries + 1
  | .held _ => 1
def uptoBulkAll {H : Type} : List (DataW H) → Nat
  | [] => 0
  | d :: r => uptoBulk d + uptoBulkAll r
def uptoBulkEntries {H : Type} : List (Lit × DataW H) → Nat
  | [] => 0
  | x :: r => uptoBulkEntry x + uptoBulkEntries r
def uptoBulkEntry {H : Type} : Lit × DataW H → Nat
  | (.string bytes, d) => bytes.length + uptoBulk d + 1
  | (_, d) => uptoBulk d + 1
 end
def uptoSmall : (H : Type) → List (DataW H) → Bool := fun _ ds => decide (uptoBulkAll ds ≤ 1048576)
def OpenSpec.upto (s : _root_.Go.ChangeSpec) : _root_.Go.OpenSpec := { _root_.Go.OpenSpec.ofChange s with cond := some uptoSmall }

/-- 'landfalllaw32.SpreadStops', WHERE WHAT IT READS IS OF BULK AT MOST 1048576: true; the input reads as it did. -/
def spreadStopsUptoRow : OpenClaim := { program := "ytoekcefhphcjjaa", sum := "129f3051ebd195bff0cc3bec7ccaecf81bbe2f82dc97f08cf8368e8152b6ebef", func := "landfall/landfalllaw32.SpreadStops", spec := "spreadStops", unfollowed := true, recurses := true, apart := false, narrowed := true }
def SpreadStopsUptoSaid : Prop := spreadStopsUptoRow.holds Try.pinned (OpenSpec.upto spreadStopsSpec)

/-- 'landfalllaw32.SpreadStraight', WHERE WHAT IT READS IS OF BULK AT MOST 1048576: true; the input reads as it did. -/
def spreadStraightUptoRow : OpenClaim := { program := "ytoekcefhphcjjaa", sum := "129f3051ebd195bff0cc3bec7ccaecf81bbe2f82dc97f08cf8368e8152b6ebef", func := "landfall/landfalllaw32.SpreadStraight", spec := "spreadStraight", unfollowed := true, recurses := true, apart := false, narrowed := true }
def SpreadStraightUptoSaid : Prop := spreadStraightUptoRow.holds Try.pinned (OpenSpec.upto spreadStraightSpec)

/-- 'landfalllaw32.SpreadWider', WHERE WHAT IT READS IS OF BULK AT MOST 1048576: true; the input reads as it did. -/
def spreadWiderUptoRow : OpenClaim := { program := "ytoekcefhphcjjaa", sum := "129f3051ebd195bff0cc3bec7ccaecf81bbe2f82dc97f08cf8368e8152b6ebef", func := "landfall/landfalllaw32.SpreadWider", spec := "spreadWider", unfollowed := true, recurses := true, apart := false, narrowed := true }
def SpreadWiderUptoSaid : Prop := spreadWiderUptoRow.holds Try.pinned (OpenSpec.upto spreadWiderSpec)

end Rows
end Go.Proofs.Ytoekcefhphcjjaa
