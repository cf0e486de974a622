/- A region that draws its order, whose operations read old cells and call functions that only lay new blocks: one walk in the text's order serves every order. Outside a round, and within one. (No program here.) -/
import Derived.Test.YtjnjmpakmgmdbaaStill
import Derived.Deep.Quiet
import Derived.BigQuiet
import Derived.RowKit3
namespace Go.Proofs.Ytjnjmpakmgmdbaa
open Go.RowKit

/-- all worlds that have all that w had, as it was -/
def Low (w w' : World) : Prop := Below w.heap.size w w'
theorem Low.out {w w' : World} (h : Low w w') : Below w.heap.size w w' := h
theorem Low.cells {w w' : World} (h : Low w w') : (∀ b o, b < w.heap.size → w'.cell? ⟨b, o, none⟩ = w.cell? ⟨b, o, none⟩) := fun b o hb => h.out.cell (p := ⟨b, o, none⟩) hb
theorem Low.cell {w w' : World} (h : Low w w') {a : Addr} {v : Value} (hc : w.cell? a = some v) : w'.cell? a = some v := (h.out.cell (World.block_lt_of_cell? w _ hc)).trans hc
theorem Low.fact {w : World} {a : Addr} {v : Value} (hc : w.cell? a = some v) : ∀ w1, Low w w1 → w1.cell? a = some v := fun _ h => h.cell hc

section
variable {F : Fence} {n : Nat} {P : Program} {ops : Array Oper} {w : World} {Q : Exit → Act → World → Prop}

theorem Low.calls {f : FuncId} {args : Array Value} {v : Value} {w' : World} (hw : Low w w') (h : Calls P f args w' fun e w'' => e = .returned v ∧ Below w'.heap.size w' w'') : Calls P f args w' fun e w'' => e = .returned v ∧ Low w w'' :=
  h.mono fun _ _ ⟨he, hb⟩ => ⟨he, hw.trans (hb.mono hw.size)⟩
theorem Low.calls_same {f : FuncId} {args : Array Value} {v : Value} {w' : World} (hw : Low w w') (h : Calls P f args w' fun e w'' => e = .returned v ∧ w' = w'') : Calls P f args w' fun e w'' => e = .returned v ∧ Low w w'' :=
  h.mono fun _ _ ⟨he, hb⟩ => ⟨he, by rw [← hb]; exact hw⟩

theorem quiet_want {C : World → Prop} {Q : Act → Prop} {a : Act} {o : Oper} {rest : List Oper} {v : Value} (hw : Region.wanted o (yielded ops a.tmps) = true) (hval : ∀ w, C w → o.quietAt P a C w v) (h : wpQuiet P ops C Q rest (a.put o.dst v)) : wpQuiet P ops C Q (o :: rest) a :=
  wpQuiet_step fun K hK => by rw [if_pos hw]; exact ⟨v, hval, hK _ h⟩
theorem quiet_skip {C : World → Prop} {Q : Act → Prop} {a : Act} {o : Oper} {rest : List Oper} (hw : Region.wanted o (yielded ops a.tmps) = false) (h : wpQuiet P ops C Q rest (a.put o.dst undef)) : wpQuiet P ops C Q (o :: rest) a :=
  wpQuiet_step fun K hK => by rw [if_neg (by rw [hw]; simp)]; exact hK _ h

theorem wp_region_low {id : Nat} {a : Act} {l : List Oper} (hm : P.follows .mixedOrders = true) (hB : Region.lexB .any l.toArray = true)
    (h : wpQuiet P l.toArray (Low w) (fun a' => ∀ w', Low w w' → Q .normal a' w') l a) : (Code.region id l.toArray true).wp P Q a w :=
  wp_region_quiet (C := Low w) hm hB (Below.drew (Below.refl _ w)) (by simpa using h)

theorem wpIn_of_quiet (hL : Lets F P) {C : World → Prop} {o : Oper} {a : Act} {K : Act → Prop} {K' : Act → World → Prop} (hnd : ∀ c, o.op ≠ .defer c) (hw : C w) (h : ∀ a w', C w' → K a → K' a w') (hh : o.quiet P a C K) : o.wpIn F n P a w K' Q := by
  obtain ⟨v, h1, h2⟩ := hh
  have h3 := h1 w hw
  refine ⟨fun f _ => hL.fn f, ?_⟩
  rw [Oper.semAt_eq _ _ _ hnd]
  unfold Oper.quietAt at h3
  generalize (execOp a.eval o).run P w = r at *
  cases r with
  | ok x w' =>
    cases x <;> simp only [Oper.quietUpon] at h3 <;> simp only [Oper.uponIn]
    case value u =>
      obtain ⟨e1, e2⟩ := h3
      rw [e1, e2]
      exact h _ _ hw h2
    case skip =>
      obtain ⟨e1, e2⟩ := h3
      rw [e1, ← e2]
      exact h _ _ hw h2
    case enter f args =>
      obtain ⟨e1, hc⟩ := h3
      rw [e1]
      exact ⟨fun hd => (by rw [hL.depth] at hd; cases hd), hL.call _ _ _ _ _ (hc.mono fun e w'' ⟨he, hw''⟩ => by subst he; exact h _ _ hw'' h2)⟩
  | halt x w' => simp only [Oper.quietUpon] at h3

theorem wpOpIn_of_qOp (hL : Lets F P) (hnd : noDefer ops = true) {C : World → Prop} {i : Nat} {a : Act} {K : Act → Prop} {K' : Act → World → Prop} (hC : C w) (h : ∀ a w', C w' → K a → K' a w') (hh : qOp P ops C i K a) : wpOpIn F n P ops Q i K' a w := by
  unfold qOp at hh
  unfold wpOpIn
  split
  · rename_i ho; simp only [ho] at hh; exact h _ _ hC hh
  · rename_i o ho
    simp only [ho] at hh
    split
    · rename_i hw; simp only [hw, if_true] at hh; exact wpIn_of_quiet hL (noDefer_spec hnd ho) hC h hh
    · rename_i hw; rw [if_neg hw] at hh; exact ⟨fun f _ => hL.fn f, h _ _ hC hh⟩

theorem wpAnyIn_of_quiet (hL : Lets F P) (hnd : noDefer ops = true) {md : Region.Mode} {C : World → Prop} {Q0 : Act → Prop} (hQ : ∀ a w, C w → Q0 a → Q .normal a w) : ∀ (fuel : Nat) (listed : Array Bool) (a : Act) (w : World), C w →
    wpAnyQ P md ops C Q0 fuel listed a → wpAnyIn F n P md ops Q fuel listed a w
  | 0, _, _, _, hw, h => ⟨h.1, hQ _ _ hw h.2⟩
  | fuel + 1, _, _, _, hw, h => ⟨fun h0 => hQ _ _ hw (h.1 h0), fun i hi => wpOpIn_of_qOp hL hnd hw (fun a' w' hw' => wpAnyIn_of_quiet hL hnd hQ fuel _ a' w' hw') (h.2 i hi)⟩

theorem wpIn_region_low (hL : Lets F P) {id : Nat} {a : Act} {l : List Oper} (hm : P.follows .mixedOrders = true) (hnd : noDefer l.toArray = true) (hB : Region.lexB .any l.toArray = true)
    (h : wpQuiet P l.toArray (Low w) (fun a' => ∀ w', Low w w' → Q .normal a' w') l a) : (Code.region id l.toArray true).wpIn F n P Q a w := by
  simp only [Region.lexB, Bool.and_eq_true] at hB
  refine wpIn_region_any hm (wpAnyIn_of_quiet hL hnd (Q0 := fun a' => ∀ w', Low w w' → Q .normal a' w') (fun _ w' hw' h => h w' hw') _ _ _ _ (Below.drew (Below.refl _ w)) ?_)
  have := wpAnyQ_lex (C := Low w) (md := .any) hB.1 l 0 (Array.replicate l.toArray.size false) a (by simp) (by simpa using hB.2) h
  simpa using this
end
end Go.Proofs.Ytjnjmpakmgmdbaa
