/-
  No cell of these rows narrows 'for every input' (looked for: loops, veiled, ifaces, maps, wideKeys, modest, calm, conditions, laid).
  DERIVED. THE GIVEN ROWS OF THIS SEAT. 4 by the template 'for every input the law returns true; each argument reads behind the call as it read before'; 0 by the template 'total and deterministic' (their statements: YtpimbaaahcemhaaGreatTotals.lean).
  GIVEN WITH THE SEED: the statements are not yours to turn. If you find one false, say at which input.
  Laid BY PROGRAM, IN A SANDBOX (cutbox-rows.mjs): the forced cells as the released guide's own fill.sh prints them over the translation afa6b493ecfc79eb… (all of the seat's roots in one cut). By AI agents, Wed Nov 11 2026. No macro, syntax, notation, axiom, sorry.
-/
import Derived.Test.YtpimbaaahcemhaaGreatChecked
import GoSem.Claim
import GoSem.ClaimJoined
import GoSem.ClaimMapViews
import Derived.JoinedTies
import Derived.KernelRfl
namespace Go.Proofs.YtpimbaaahcemhaaGreat
/- THE CELL 'sum', in the pinned program and in every row, IS THE sha256 OF THE DUMP (.gsa) THAT YtpimbaaahcemhaaGreatProg.lean LOADS. Nothing in Lean hashes anything: it is a label: what it is worth is what the hold of that sum in a sandbox is worth. -/
noncomputable def Tryz.pinned : Pinned := { name := "ytpimbaaahcemhaagreat", sum := "afa6b493ecfc79eb1123304c6c23c0b186d88a26ea142329a93e3307262f4666", checked := Tryz.checked }
namespace Rows
def none {H : Type} : Left H := { results := [], args := [] }

/-- 'landfalllaw36.CertMatchesReference': WHATEVER THE INPUT: true; the input reads as it did. -/
def certMatchesReferenceSpec : ChangeSpec := { name := "certMatchesReference", fn := fun _ => fun
  | [d1, d2, d3, d4, d5] => { results := [.lit (.bool true)], args := [d1, d2, d3, d4, d5] }
  | _ => none }
def certMatchesReferenceRow : OpenClaim := { program := "ytpimbaaahcemhaagreat", sum := "afa6b493ecfc79eb1123304c6c23c0b186d88a26ea142329a93e3307262f4666", func := "landfall/landfalllaw36.CertMatchesReference", spec := "certMatchesReference", unfollowed := true, recurses := true, apart := false }
def CertMatchesReferenceSaid : Prop := certMatchesReferenceRow.holds Tryz.pinned (OpenSpec.ofChange certMatchesReferenceSpec)

/-- ITS FALSE NEIGHBOUR: 'it returns false'. Refute it at one input. -/
def certMatchesReferenceWrong : ChangeSpec := { name := "certMatchesReference", fn := fun _ => fun
  | [d1, d2, d3, d4, d5] => { results := [.lit (.bool false)], args := [d1, d2, d3, d4, d5] }
  | _ => none }
def CertMatchesReferenceWrongFalsely : Prop := certMatchesReferenceRow.holds Tryz.pinned (OpenSpec.ofChange certMatchesReferenceWrong)

/-- 'landfalllaw36.CertNothingLess': WHATEVER THE INPUT: true; the input reads as it did. -/
def certNothingLessSpec : ChangeSpec := { name := "certNothingLess", fn := fun _ => fun
  | [d1, d2, d3, d4] => { results := [.lit (.bool true)], args := [d1, d2, d3, d4] }
  | _ => none }
def certNothingLessRow : OpenClaim := { program := "ytpimbaaahcemhaagreat", sum := "afa6b493ecfc79eb1123304c6c23c0b186d88a26ea142329a93e3307262f4666", func := "landfall/landfalllaw36.CertNothingLess", spec := "certNothingLess", unfollowed := true, recurses := true, apart := false }
def CertNothingLessSaid : Prop := certNothingLessRow.holds Tryz.pinned (OpenSpec.ofChange certNothingLessSpec)

/-- ITS FALSE NEIGHBOUR: 'it returns false'. Refute it at one input. -/
def certNothingLessWrong : ChangeSpec := { name := "certNothingLess", fn := fun _ => fun
  | [d1, d2, d3, d4] => { results := [.lit (.bool false)], args := [d1, d2, d3, d4] }
  | _ => none }
def CertNothingLessWrongFalsely : Prop := certNothingLessRow.holds Tryz.pinned (OpenSpec.ofChange certNothingLessWrong)

/-- 'landfalllaw36.CertRocks': WHATEVER THE INPUT: true; the input reads as it did. -/
def certRocksSpec : ChangeSpec := { name := "certRocks", fn := fun _ => fun
  | [d1, d2, d3, d4] => { results := [.lit (.bool true)], args := [d1, d2, d3, d4] }
  | _ => none }
def certRocksRow : OpenClaim := { program := "ytpimbaaahcemhaagreat", sum := "afa6b493ecfc79eb1123304c6c23c0b186d88a26ea142329a93e3307262f4666", func := "landfall/landfalllaw36.CertRocks", spec := "certRocks", unfollowed := true, recurses := true, apart := false }
def CertRocksSaid : Prop := certRocksRow.holds Tryz.pinned (OpenSpec.ofChange certRocksSpec)

/-- ITS FALSE NEIGHBOUR: 'it returns false'. Refute it at one input. -/
def certRocksWrong : ChangeSpec := { name := "certRocks", fn := fun _ => fun
  | [d1, d2, d3, d4] => { results := [.lit (.bool false)], args := [d1, d2, d3, d4] }
  | _ => none }
def CertRocksWrongFalsely : Prop := certRocksRow.holds Tryz.pinned (OpenSpec.ofChange certRocksWrong)

/-- 'landfalllaw36.CertPlans': WHATEVER THE INPUT: true; the input reads as it did. -/
def certPlansSpec : ChangeSpec := { name := "certPlans", fn := fun _ => fun
  | [d1, d2] => { results := [.lit (.bool true)], args := [d1, d2] }
  | _ => none }
def certPlansRow : OpenClaim := { program := "ytpimbaaahcemhaagreat", sum := "afa6b493ecfc79eb1123304c6c23c0b186d88a26ea142329a93e3307262f4666", func := "landfall/landfalllaw36.CertPlans", spec := "certPlans", unfollowed := true, recurses := true, apart := false }
def CertPlansSaid : Prop := certPlansRow.holds Tryz.pinned (OpenSpec.ofChange certPlansSpec)

/-- ITS FALSE NEIGHBOUR: 'it returns false'. Refute it at one input. -/
def certPlansWrong : ChangeSpec := { name := "certPlans", fn := fun _ => fun
  | [d1, d2] => { results := [.lit (.bool false)], args := [d1, d2] }
  | _ => none }
def CertPlansWrongFalsely : Prop := certPlansRow.holds Tryz.pinned (OpenSpec.ofChange certPlansWrong)

/- THE SECOND FORM. 'bulk': how many values and letters a reading holds, each counted each time it is reached (what is shared counts as often as it is met; a slice's spare places count too). A statement '..UptoSaid' is the law's where the arguments, and the package variables that the reading takes, are together of bulk at most 1048576: NARROWER than '..Said'. Prove '..Said' where nothing that the law and all that it calls make is longer than what came in: it says more and counts as full. Else prove '..UptoSaid'. A law counts once. -/
mutual
def uptoBulk {H : Type} : DataW H → Nat
  | .lit (.string bytes) => bytes.length + 1
  | .lit _ => 1
  | .nil => 1
  | .ptr d => uptoBulk d + 1
  | .slice elems spare => uptoBulkAll elems + uptoBulkAll spare + 1
  | .agg parts => uptoBulkAll parts + 1
  | .iface _ d => uptoBulk d + 1
  | .map entries => uptoBulkEntries entries + 1
  | .held _ => 1
def uptoBulkAll {H : Type} : List (DataW H) → Nat
  | [] => 0
  | d :: r => uptoBulk d + uptoBulkAll r
def uptoBulkEntries {H : Type} : List (Lit × DataW H) → Nat
  | [] => 0
  | x :: r => uptoBulkEntry x + uptoBulkEntries r
def uptoBulkEntry {H : Type} : Lit × DataW H → Nat
  | (.string bytes, d) => bytes.length + uptoBulk d + 1
  | (_, d) => uptoBulk d + 1
 end
def uptoSmall : (H : Type) → List (DataW H) → Bool := fun _ ds => decide (uptoBulkAll ds ≤ 1048576)
def OpenSpec.upto (s : _root_.Go.ChangeSpec) : _root_.Go.OpenSpec := { _root_.Go.OpenSpec.ofChange s with cond := some uptoSmall }

/-- 'landfalllaw36.CertMatchesReference', WHERE WHAT IT READS IS OF BULK AT MOST 1048576: true; the input reads as it did. -/
def certMatchesReferenceUptoRow : OpenClaim := { program := "ytpimbaaahcemhaagreat", sum := "afa6b493ecfc79eb1123304c6c23c0b186d88a26ea142329a93e3307262f4666", func := "landfall/landfalllaw36.CertMatchesReference", spec := "certMatchesReference", unfollowed := true, recurses := true, apart := false, narrowed := true }
def CertMatchesReferenceUptoSaid : Prop := certMatchesReferenceUptoRow.holds Tryz.pinned (OpenSpec.upto certMatchesReferenceSpec)

/-- 'landfalllaw36.CertNothingLess', WHERE WHAT IT READS IS OF BULK AT MOST 1048576: true; the input reads as it did. -/
def certNothingLessUptoRow : OpenClaim := { program := "ytpimbaaahcemhaagreat", sum := "afa6b493ecfc79eb1123304c6c23c0b186d88a26ea142329a93e3307262f4666", func := "landfall/landfalllaw36.CertNothingLess", spec := "certNothingLess", unfollowed := true, recurses := true, apart := false, narrowed := true }
def CertNothingLessUptoSaid : Prop := certNothingLessUptoRow.holds Tryz.pinned (OpenSpec.upto certNothingLessSpec)

/-- 'landfalllaw36.CertRocks', WHERE WHAT IT READS IS OF BULK AT MOST 1048576: true; the input reads as it did. -/
def certRocksUptoRow : OpenClaim := { program := "ytpimbaaahcemhaagreat", sum := "afa6b493ecfc79eb1123304c6c23c0b186d88a26ea142329a93e3307262f4666", func := "landfall/landfalllaw36.CertRocks", spec := "certRocks", unfollowed := true, recurses := true, apart := false, narrowed := true }
def CertRocksUptoSaid : Prop := certRocksUptoRow.holds Tryz.pinned (OpenSpec.upto certRocksSpec)

/-- 'landfalllaw36.CertPlans', WHERE WHAT IT READS IS OF BULK AT MOST 1048576: true; the input reads as it did. -/
def certPlansUptoRow : OpenClaim := { program := "ytpimbaaahcemhaagreat", sum := "afa6b493ecfc79eb1123304c6c23c0b186d88a26ea142329a93e3307262f4666", func := "landfall/landfalllaw36.CertPlans", spec := "certPlans", unfollowed := true, recurses := true, apart := false, narrowed := true }
def CertPlansUptoSaid : Prop := certPlansUptoRow.holds Tryz.pinned (OpenSpec.upto certPlansSpec)

end Rows
end Go.Proofs.YtpimbaaahcemhaaGreat
