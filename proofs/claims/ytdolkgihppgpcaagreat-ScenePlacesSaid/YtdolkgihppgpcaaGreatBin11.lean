/- The examples at the head of the laws of layer 31. | The head of the laws of layer 31. -/
import Derived.Test.YtdolkgihppgpcaaGreatBin07
import Derived.Test.YtdolkgihppgpcaaGreatBin10
namespace Go.Proofs.YtdolkgihppgpcaaGreat
section
attribute [local irreducible] wpQuiet
open Go.RowKit
structure StoresAt (b:Nat) (W W':World):Prop where
 size:W'.heap.size=W.heap.size
 same:∀ c,c≠b→W'.heap[c]?=W.heap[c]?
 below:Below b W W'
theorem StoresAt.refl (b:Nat) (W:World):StoresAt b W W:=⟨rfl,fun _ _=>rfl,Below.refl _ _⟩
theorem StoresAt.set {b:Nat} {W X:World} (h:StoresAt b W X) (i:Nat) (v:Value):StoresAt b W (X.setCell ⟨b,i,none⟩ v) :=
 ⟨by rw [← h.size];simp [World.setCell],fun c hc=>(Below.heap_setCell X ⟨b,i,none⟩ v c hc).trans (h.same c hc),h.below.setCell (p:=⟨b,i,none⟩) (Nat.le_refl _) v⟩
end
end Go.Proofs.YtdolkgihppgpcaaGreat
