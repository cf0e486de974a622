/- package cut: frame. | package cut: corners. | package cut: crossings. -/
import Derived.Deep.CutRange
import Derived.Test.YtfbdidfaeplllaaGreatBin14
import Derived.Test.YtfbdidfaeplllaaGreatBin19
import Derived.Test.YtfbdidfaeplllaaGreatBin09
import Derived.Test.YtfbdidfaeplllaaGreatBin15
import Derived.Test.YtfbdidfaeplllaaGreatBin08
namespace Go.Proofs.YtfbdidfaeplllaaGreat
open Go.RowKit
attribute [local irreducible] wpQuiet

/-- the place at or below, and at or above, the point that divides u and v by s and t -/
def frLo (u v s t : Int) : Int := u + ((v - u) * s).fdiv (s - t)
def frHi (u v s t : Int) : Int := u - (-((v - u) * s)).fdiv (s - t)


/-- the places around the point that divides a side -/
def frameP (a b : Pt) (s t : Int) : List Pt := [⟨frLo a.x b.x s t, frLo a.y b.y s t⟩, ⟨frLo a.x b.x s t, frHi a.y b.y s t⟩, ⟨frHi a.x b.x s t, frLo a.y b.y s t⟩, ⟨frHi a.x b.x s t, frHi a.y b.y s t⟩]

theorem pt_new (W : World) (x y : Int) : ∀ j u, ([.int .i64 x, .int .i64 y] : List Value)[j]? = some u → (W.alloc (.cells #[.int .i64 x, .int .i64 y] 31)).cell? ((⟨W.heap.size, 0, none⟩ : Addr).add j) = some u := by
  have h := Has.new W #[.int .i64 x, .int .i64 y] 31
  exact pt_add (l := [⟨x, y⟩]) (fun j hj => by
    obtain rfl : j = 0 := by simpa using hj
    exact ⟨h.cell (i := 0) rfl, h.cell (i := 1) rfl⟩)

end Go.Proofs.YtfbdidfaeplllaaGreat

namespace Go.Proofs.YtfbdidfaeplllaaGreat
open Go.RowKit
attribute [local irreducible] wpQuiet

/-- the corners of the first k of a polygon that another one has -/
noncomputable def cornersTo (l m : List Pt) : Nat → List Pt
  | 0 => []
  | k + 1 => if hasB m (nth l k) = true then cornersTo l m k ++ [nth l k] else cornersTo l m k
noncomputable def cornersP (l m : List Pt) : List Pt := cornersTo l m l.length

end Go.Proofs.YtfbdidfaeplllaaGreat

namespace Go.Proofs.YtfbdidfaeplllaaGreat
open Go.RowKit
attribute [local irreducible] wpQuiet
attribute [local go_sem] Oper.semAt_some

/-- the frame of the point at which two sides cross, if they do -/
def crossST (S T : Pt × Pt) : List Pt :=
  if (crossB (turnP S.1 S.2 T.1) (turnP S.1 S.2 T.2) && crossB (turnP T.1 T.2 S.1) (turnP T.1 T.2 S.2)) = true then frameP T.1 T.2 (turnP S.1 S.2 T.1) (turnP S.1 S.2 T.2) else []
def sidesL (l : List Pt) : List (Pt × Pt) := upto (sideP l) l.length
def rowS (S : Pt × Pt) (ts : List (Pt × Pt)) : List Pt := ts.flatMap (crossST S)
def crossL (ss ts : List (Pt × Pt)) : List Pt := ss.flatMap (fun S => rowS S ts)
def crossP (l m : List Pt) : List Pt := crossL (sidesL l) (sidesL m)

theorem okOp_call {P : Program} {ops : Array Oper} {i : Nat} {o : Oper} {a : Act} {w : World} {f : Nat} {args : Array Value} {Q : Ending → World → Prop} {K : Act → World → Prop} (hi : ops[i]? = some o) (hw : Region.wanted o (yielded ops a.tmps) = true) (hv : (execOp a.eval o).run P w = .ok (.enter f args) w)
    (hc : Calls P f args w Q) (h : ∀ e w', Q e w' → ∃ v, e = .returned v ∧ K (a.put o.dst v) w') : okOp P ops i K a w := by
  unfold okOp
  simp only [hi]
  rw [if_pos hw, hv]
  exact hc.mono h

end Go.Proofs.YtfbdidfaeplllaaGreat
