/- The examples at the head of the laws of layer 31. | The head of the laws of layer 31. -/
import Derived.Test.YtdkeiadpnnleoaaGreatBin07
import Derived.Test.YtdkeiadpnnleoaaGreatBin21
namespace Go.Proofs.YtdkeiadpnnleoaaGreat
open Go.RowKit
attribute [local irreducible] wpQuiet
structure StoresAt (b : Nat) (W W' : World) : Prop where
  size : W'.heap.size = W.heap.size
  same : ∀ c,c ≠ b → W'.heap[c]? = W.heap[c]?
  below : Below b W W'
theorem StoresAt.refl (b : Nat) (W : World) : StoresAt b W W:=⟨rfl,fun _ _ => rfl,Below.refl _ _⟩
theorem StoresAt.set {b : Nat} {W X : World} (h : StoresAt b W X) (i : Nat) (v : Value) : StoresAt b W (X.setCell ⟨b,i,none⟩ v) :=
  ⟨by rw [← h.size]; simp [World.setCell],fun c hc => (Below.heap_setCell X ⟨b,i,none⟩ v c hc).trans (h.same c hc),h.below.setCell (p:=⟨b,i,none⟩) (Nat.le_refl _) v⟩
theorem lt4 {p : Nat → Prop} (h0 : p 0) (h1 : p 1) (h2 : p 2) (h3 : p 3) : ∀ j,j < 4 → p j:=fun j hj => match j,hj with
  | 0,_ => h0
  | 1,_ => h1
  | 2,_ => h2
  | 3,_ => h3
end Go.Proofs.YtdkeiadpnnleoaaGreat
namespace Go.Proofs.YtdkeiadpnnleoaaGreat
open Go.RowKit
attribute [local irreducible] wpQuiet
end Go.Proofs.YtdkeiadpnnleoaaGreat
