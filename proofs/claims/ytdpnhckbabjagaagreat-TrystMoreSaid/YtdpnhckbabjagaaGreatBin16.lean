/- package hull: Box. | package hull: Has. -/
import Derived.Deep.CutRange
import Derived.Test.YtdpnhckbabjagaaGreatBin07
import Derived.Test.YtdpnhckbabjagaaGreatBin10
namespace Go.Proofs.YtdpnhckbabjagaaGreat
open Go.RowKit
attribute [local irreducible] wpQuiet

def boxL (l : List Pt) : Pt := ⟨loTo bxF1 l l.length, loTo bxF2 l l.length⟩
def boxH (l : List Pt) : Pt := ⟨hiTo bxF1 l l.length, hiTo bxF2 l l.length⟩

theorem Has.other {W : World} {B : Nat} {cs : Array Value} {t : TypeId} (h : Has W B cs t) (p : Addr) (v : Value) (hne : B ≠ p.block) : Has (W.setCell p v) B cs t := (Below.heap_setCell W p v B hne).trans h

theorem Has.same {W : World} {B : Nat} {cs : Array Value} {t : TypeId} (h : Has W B cs t) : W.setRow B cs = W := by
  have hlt := h.lt
  have hv : W.heap[B] = .cells cs t (0, 0) := (Array.getElem?_eq_some_iff.1 h).2
  unfold World.setRow
  cases W with
  | mk heap tape drawn os output =>
    congr 1
    apply Array.ext
    · simp
    · intro k h1 h2
      simp only [Array.getElem_modify]
      split
      · rename_i hk; subst hk; simp at hv; simp [hv]
      · rfl


end Go.Proofs.YtdpnhckbabjagaaGreat

namespace Go.Proofs.YtdpnhckbabjagaaGreat
open Go.RowKit
attribute [local irreducible] wpQuiet
attribute [local go_sem] Oper.semAt_some

/-- a polygon has a point -/
noncomputable def inside (l : List Pt) (x : Pt) : Bool :=
  if l.length < 3 then decide (turnP (nth l 0) (nth l (l.length - 1)) x = 0 ∧ (boxL l).x ≤ x.x ∧ x.x ≤ (boxH l).x ∧ (boxL l).y ≤ x.y ∧ x.y ≤ (boxH l).y)
  else decide (∀ i, i < l.length → 0 ≤ turnP (sideP l i).1 (sideP l i).2 x)





noncomputable def hasB (l : List Pt) (x : Pt) : Bool := goValid l && placeP x && inside l x
end Go.Proofs.YtdpnhckbabjagaaGreat
