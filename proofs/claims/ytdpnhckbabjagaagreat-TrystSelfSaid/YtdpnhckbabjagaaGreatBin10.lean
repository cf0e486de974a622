/- A struct stored into a variable's block, in a region that draws its order, and in a list. (No program here.) -/
import Derived.Test.YtdpnhckbabjagaaGreatBin09
import Derived.Test.YtdpnhckbabjagaaGreatBin03
namespace Go.Proofs.YtdpnhckbabjagaaGreat
open Go.RowKit

section
variable {P : Program} {ops : Array Oper}
end
theorem Has.set {W : World} {B : Nat} {cs : Array Value} {t : TypeId} (h : Has W B cs t) (i : Nat) (v : Value) : Has (W.setCell ⟨B, i, none⟩ v) B (cs.setIfInBounds i v) t := by
  obtain ⟨hlt, hk⟩ := Array.getElem?_eq_some_iff.1 h
  show (W.heap.modify B _)[B]? = _
  rw [Array.getElem?_eq_getElem (by rw [Array.size_modify]; exact hlt), Array.getElem_modify_self, hk]
  rfl
theorem Has.put {W : World} {B : Nat} {cs cells : Array Value} {t : TypeId} (h : Has W B cs t) : Has (W.setRow B cells) B cells t := setRow_heap W B cs cells t _ h
theorem Has.keep {W : World} {B C : Nat} {cs cells : Array Value} {t : TypeId} (h : Has W B cs t) (hne : B ≠ C) : Has (W.setRow C cells) B cs t := by
  have : (W.setRow C cells).heap[B]? = W.heap[B]? := by
    unfold World.setRow
    simp only [Array.getElem?_modify]
    rw [if_neg (by omega)]
  exact this.trans h
theorem Below.setRow {n : Nat} {W X : World} (h : Below n W X) {C : Nat} (hC : n ≤ C) (cells : Array Value) : Below n W (X.setRow C cells) :=
  h.trans ⟨rfl, rfl, rfl, by simp [World.setRow], fun b hb => by
    unfold World.setRow
    simp only [Array.getElem?_modify]
    rw [if_neg (by omega)]⟩
end Go.Proofs.YtdpnhckbabjagaaGreat
