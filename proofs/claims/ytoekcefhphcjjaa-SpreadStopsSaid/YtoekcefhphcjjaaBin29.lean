/- package power: leg, Cost. | package power: add, go1, wait, Home. | package power: set: a map of stops. | package power: ways: the iterator over the ways, with what is used up there. | power.Used. | Plain: the radii of a vehicle at its ways. No program here. | package power: Home. | The reference of package power: Between, Cost, Back, Home. | The reference's stops: has, Stops. | The reference's Spent and Used. | landfallref32's SameInts and Has; landfallref03's Same. (Printed by tools/mksame.py.) -/
import Derived.Maps.OwnSet
import Derived.Maps.OwnOps
import Derived.Maps.Views
import Derived.LoopTactic
import Derived.Test.YtoekcefhphcjjaaBin28
import Derived.Test.YtoekcefhphcjjaaBin03
import Derived.Test.YtoekcefhphcjjaaBin08
import Derived.Test.YtoekcefhphcjjaaBin26
import Derived.OwnWalkIn
import Derived.Test.YtoekcefhphcjjaaBin09
import Derived.Test.YtoekcefhphcjjaaBin06
import Derived.Test.YtoekcefhphcjjaaBin00
namespace Go.Proofs.Ytoekcefhphcjjaa
open Go.RowKit
attribute [local irreducible] wpQuiet

/-- the energy of a leg -/
def eLeg (m : Msn) (i j : Nat) : Int := m.idle * tLeg m i j + m.drive * dLeg m i j




end Go.Proofs.Ytoekcefhphcjjaa

namespace Go.Proofs.Ytoekcefhphcjjaa
open Go.RowKit
attribute [local irreducible] wpQuiet

/-- one block has turned, and nothing below it else; what was there lies -/
structure Only (b : Nat) (w w' : World) : Prop where
  os : w'.os = w.os
  tape : w'.tape = w.tape
  output : w'.output = w.output
  size : w.heap.size ≤ w'.heap.size
  block : ∀ k, k < w.heap.size → k ≠ b → w'.heap[k]? = w.heap[k]?
theorem Only.of_below {b : Nat} {w w' : World} (h : Below w.heap.size w w') : Only b w w' := ⟨h.os, h.tape, h.output, h.size, fun k hk _ => h.block k hk⟩
theorem Only.trans {b : Nat} {x y z : World} (h : Only b x y) (k : Only b y z) : Only b x z :=
  ⟨k.os.trans h.os, k.tape.trans h.tape, k.output.trans h.output, Nat.le_trans h.size k.size, fun i hi hne => (k.block i (Nat.lt_of_lt_of_le hi h.size) hne).trans (h.block i hi hne)⟩
theorem Only.below {b n : Nat} {w w' : World} (h : Only b w w') (hn : n ≤ b) (hw : n ≤ w.heap.size) : Below n w w' := ⟨h.os, h.tape, h.output, h.size, fun k hk => h.block k (by omega) (by omega)⟩
theorem Only.set {b : Nat} {w w' : World} (h : Only b w w') (i : Nat) (v : Value) : Only b w (w'.setCell ⟨b, i, none⟩ v) :=
  ⟨h.os, h.tape, h.output, by simpa [World.setCell] using h.size, fun k hk hne => (Below.heap_setCell w' ⟨b, i, none⟩ v k hne).trans (h.block k hk hne)⟩






end Go.Proofs.Ytoekcefhphcjjaa

namespace Go.Proofs.Ytoekcefhphcjjaa
open Go.RowKit Go.Maps
attribute [local irreducible] wpQuiet

theorem keyInt : Keyed Try.prog 3 := int_keyed Try.underlying3
theorem zeroBool (w : World) : (zeroValue 4).run Try.prog w = .ok (.bool false) w := by kernel_rfl

/-- block b is a map in which just the numbers of a list are true -/
def SetAt (W : World) (b : Nat) (l : List Int) : Prop := ∃ (n : Nat) (D : DataW Unit), W.ownsMap Try.prog 3 (plainElem Try.prog 4) b n D ∧ n ≤ l.length ∧ (∃ es, D = .map es) ∧ ∀ k : Int, (Lit.int .i64 k).wf = true → D.atKey (.int .i64 k) (.lit (.bool false)) = .lit (.bool (decide (k ∈ l)))
theorem SetAt.made (w : World) : SetAt (w.alloc (.map #[] 0)) w.heap.size [] := ⟨0, _, World.ownsMap_made _ _ _ _, Nat.le_refl _, ⟨[], rfl⟩, fun k _ => by simp [DataW.atKey]⟩
theorem SetAt.kept {W W' : World} {row : Option Nat} {b : Nat} {l : List Int} (h : SetAt W b l) (hg : W.grownBy W' row) (hne : some b ≠ row) : SetAt W' b l := by
  obtain ⟨n, D, h1, h2, h3, h4⟩ := h
  exact ⟨n, D, h1.kept hg hne, h2, h3, h4⟩
theorem SetAt.lt {W : World} {b : Nat} {l : List Int} (h : SetAt W b l) : b < W.heap.size := by obtain ⟨n, D, h1, _⟩ := h; exact h1.lt
theorem SetAt.block {W W' : World} {b : Nat} {l : List Int} (h : SetAt W b l) (hb : W'.heap[b]? = W.heap[b]?) : SetAt W' b l := by
  obtain ⟨n, D, ⟨es, clock, h0, F, hs, hD⟩, h2, h3, h4⟩ := h
  exact ⟨n, D, ⟨es, clock, hb.trans h0, F, hs, hD⟩, h2, h3, h4⟩
set_option maxRecDepth 8000 in
theorem SetAt.look {W : World} {b : Nat} {l : List Int} (h : SetAt W b l) {k : Int} (hk : (Lit.int .i64 k).wf = true) : (Instr.lookup 55 (.map (some b)) (.int .i64 k) false).run Try.prog W = .ok (.bool (decide (k ∈ l))) W := by
  obtain ⟨n, D, h1, _, _, h4⟩ := h
  obtain ⟨v, ps, hrun, hv⟩ := h1.lookup keyInt Try.underlying55 (zeroBool W) (plainElem_bool Try.underlying4 false) (keyOf_int_mk Try.underlying3 hk)
  rw [h4 k hk] at hv
  rw [hrun]
  unfold plainElem at hv
  rw [Try.underlying4] at hv
  cases v <;> simp_all

/-- the stop ahead of one -/
def prevS (l : List Int) (k : Nat) : Int := if k = 0 then 0 else l.getD (k - 1) 0
/-- stop number k is one -/
def stopOk (m : Msn) (l : List Int) (k : Nat) : Prop := prevS l k < l.getD k 0 ∧ l.getD k 0 < m.ways.length ∧ (wy m.ways (l.getD k 0).toNat).fix ≠ 0
instance (m : Msn) (l : List Int) (k : Nat) : Decidable (stopOk m l k) := by unfold stopOk; infer_instance
/-- all stops are stops -/
def stopsB (m : Msn) (l : List Int) : Bool := decide (∀ k, k < l.length → stopOk m l k)
theorem stopsB_no {m : Msn} {l : List Int} {k : Nat} (hk : k < l.length) (h : ¬ stopOk m l k) : stopsB m l = false := by
  simp only [stopsB, decide_eq_false_iff_not]; intro h2; exact h (h2 k hk)
theorem prevS_nonneg {m : Msn} {l : List Int} {k : Nat} (h : ∀ j, j < k → stopOk m l j) : ∀ j, j ≤ k → 0 ≤ prevS l j
  | 0, _ => by simp [prevS]
  | j + 1, hj => by
    have ih := prevS_nonneg h j (by omega)
    have := (h j (by omega)).1
    simp only [prevS, Nat.add_one_ne_zero, if_false, Nat.add_sub_cancel]; omega

/-- the map of stops, or a refusal -/
def SetQ (l : List Int) (w : World) (e : Ending) (w' : World) : Prop := ∃ b, e = .returned (.tuple #[.map (some b), .bool true]) ∧ SetAt w' b l ∧ w.heap.size ≤ b ∧ Below w.heap.size w w'

theorem SetAt.put {b : Nat} {l : List Int} {s : Int} (hs : (Lit.int .i64 s).wf = true) {n : Nat} {D : DataW Unit} {W' : World} (hn : n ≤ l.length) (hm : ∃ es, D = .map es)
    (hat : ∀ k : Int, (Lit.int .i64 k).wf = true → D.atKey (.int .i64 k) (.lit (.bool false)) = .lit (.bool (decide (k ∈ l))))
    (h : W'.ownsMap Try.prog 3 (plainElem Try.prog 4) b (n + 1) (D.put (.int .i64 s) (.lit (.bool true)))) : SetAt W' b (l ++ [s]) := by
  refine ⟨n + 1, _, h, by simp; omega, ?_, fun k hk => ?_⟩
  · obtain ⟨es, rfl⟩ := hm; exact IsMap.put ⟨es, rfl⟩ _ _
  · by_cases e : k = s
    · subst e
      rw [atKey_put_same hm (by trivial)]
      simp
    · rw [atKey_put_other (by intro h; injection h with _ h2; exact e h2), hat k hk]
      simp [e]

/-- what set returns -/
def SetsQ (m : Msn) (l : List Int) (w : World) (e : Ending) (w' : World) : Prop :=
  (stopsB m l = false ∧ e = .returned (.tuple #[.map none, .bool false]) ∧ Below w.heap.size w w') ∨ (stopsB m l = true ∧ SetQ l w e w')

theorem i64_wf {n : Int} (h1 : -9223372036854775808 ≤ n) (h2 : n ≤ 9223372036854775807) : (Lit.int .i64 n).wf = true := by
  simp [Lit.wf, IntKind.min, IntKind.max, IntKind.signed, IntKind.bits]; omega

end Go.Proofs.Ytoekcefhphcjjaa

namespace Go.Proofs.Ytoekcefhphcjjaa
open Go.RowKit Go.Shelf
attribute [local go_sem] Oper.semAt_some
attribute [local irreducible] wpQuiet



theorem Only.move {b : Nat} {own : Nat → Prop} {A C : World} (h : Only b A C) (ho : own b) (hc : ∃ o : Obj, A.heap[b]? = some o ∧ o.isCells = true) : MoveM own A C := MoveM.one ho hc h.os h.tape h.output h.size h.block


theorem MsnAt.blocks {n0 : Nat} {A B : World} {m : Msn} {vw vh vr : Value} (h : MsnAt n0 A m vw vh vr) (hs : A.heap.size ≤ B.heap.size) (hb : ∀ b, b < n0 → B.heap[b]? = A.heap[b]?) : MsnAt n0 B m vw vh vr :=
  by
  have hB : Below n0 A { A with heap := B.heap } := ⟨rfl, rfl, rfl, hs, hb⟩
  exact h.below hB


end Go.Proofs.Ytoekcefhphcjjaa

namespace Go.Proofs.Ytoekcefhphcjjaa
open Go.RowKit Go.Shelf
attribute [local go_sem] Oper.semAt_some
attribute [local irreducible] wpQuiet

/-- two lists, or a refusal -/
def UsedQ (l1 l2 : List Int) (er : Int) (w : World) (e : Ending) (w' : World) : Prop :=
  ∃ v1 v2, e = .returned (.tuple #[v1, v2, .int .i64 er]) ∧ IntsAt w'.heap.size w' v1 l1 ∧ IntsAt w'.heap.size w' v2 l2 ∧ Below w.heap.size w w'

/-- the mission's box and two empty lists -/
theorem three (w : World) (cs : Array Value) (T : TypeId) :
    Has (((w.alloc (.cells cs T)).alloc (.cells #[.slice none 0 0] 27)).alloc (.cells #[.slice none 0 0] 27)) w.heap.size cs T ∧
    Boxed (((w.alloc (.cells cs T)).alloc (.cells #[.slice none 0 0] 27)).alloc (.cells #[.slice none 0 0] 27)) (w.heap.size + 1) 27 (.slice none 0 0) ∧
    Boxed (((w.alloc (.cells cs T)).alloc (.cells #[.slice none 0 0] 27)).alloc (.cells #[.slice none 0 0] 27)) (w.heap.size + 1 + 1) 27 (.slice none 0 0) ∧
    Below w.heap.size w (((w.alloc (.cells cs T)).alloc (.cells #[.slice none 0 0] 27)).alloc (.cells #[.slice none 0 0] 27)) ∧
    (((w.alloc (.cells cs T)).alloc (.cells #[.slice none 0 0] 27)).alloc (.cells #[.slice none 0 0] 27)).heap.size = w.heap.size + 3 := by
  have s1 : (w.alloc (.cells cs T)).heap.size = w.heap.size + 1 := by simp
  have s2 : ((w.alloc (.cells cs T)).alloc (.cells #[.slice none 0 0] 27)).heap.size = w.heap.size + 1 + 1 := by simp
  have h1 := Boxed.new (w.alloc (.cells cs T)) 27 (.slice none 0 0)
  have h2 := Boxed.new ((w.alloc (.cells cs T)).alloc (.cells #[.slice none 0 0] 27)) 27 (.slice none 0 0)
  rw [s1] at h1
  rw [s2] at h2
  exact ⟨((Has.new w cs T).below ((Below.refl (w.heap.size + 1) _).alloc (by simp) _) (by omega)).below ((Below.refl (w.heap.size + 1) _).alloc (by simp) _) (by omega), h1.alloc _, h2,
    (((Below.refl _ _).alloc (Nat.le_refl _) _).alloc (by first | omega | (simp; done) | (simp; omega)) _).alloc (by first | omega | (simp; done) | (simp; omega)) _, by simp⟩


theorem cell_one_of {W : World} {B : Nat} {t : TypeId} {x : Value} (h : Boxed W B t x) : ∀ j u, [x][j]? = some u → W.cell? ((⟨B, 0, none⟩ : Addr).add j) = some u := by
  intro j u hj
  match j, hj with
  | 0, hj =>
    simp at hj
    subst hj
    exact h.cell
  | j + 1, hj => simp at hj



end Go.Proofs.Ytoekcefhphcjjaa

namespace Go.Proofs.Ytoekcefhphcjjaa

/-- the least of two, as the program reckons it -/
def min2 (a b : Int) : Int := if b < a then b else a
/-- the radius after a way -/
def rdA (m : Msn) (l : List Int) : Nat → Int
  | 0 => m.start
  | k + 1 => if ((k + 1 : Nat) : Int) ∈ l then min2 (rdA m l k + gLeg m k (k + 1)) (wy m.ways (k + 1)).fix else rdA m l k + gLeg m k (k + 1)
/-- .. and before it -/
def rdB (m : Msn) (l : List Int) : Nat → Int
  | 0 => m.start
  | k + 1 => rdA m l k + gLeg m k (k + 1)
theorem rdA_succ (m : Msn) (l : List Int) (k : Nat) : rdA m l (k + 1) = if ((k + 1 : Nat) : Int) ∈ l then min2 (rdB m l (k + 1)) (wy m.ways (k + 1)).fix else rdB m l (k + 1) := rfl
theorem rdB_succ (m : Msn) (l : List Int) (k : Nat) : rdB m l (k + 1) = rdA m l k + gLeg m k (k + 1) := rfl
theorem min2_le (a b : Int) : min2 a b ≤ a ∧ min2 a b ≤ b ∧ (min2 a b = a ∨ min2 a b = b) := by unfold min2; split <;> omega
/-- Start and the growths of the legs up to a way -/
def sumG (m : Msn) : Nat → Int
  | 0 => m.start
  | k + 1 => sumG m k + gLeg m k (k + 1)
theorem sumG_le {m : Msn} (V : VMsn m) : ∀ k, k < m.ways.length → sumG m k ≤ grownTo m k
  | 0, _ => Int.le_refl _
  | k + 1, h => by
    have ih := sumG_le V k (by omega)
    have b := way_back V.ways h
    have g2 := gLeg_bd V.leg V.ways (i := k + 1) (j := (wy m.ways (k + 1)).back.toNat) h (by omega)
    simp only [sumG, grownTo]; omega
theorem sumG_bd {m : Msn} (V : VMsn m) {k : Nat} (h : k < m.ways.length) : sumG m k ≤ 100000 := by
  have a := sumG_le V k h
  have b := grownTo_mono V.leg V.start V.ways k (m.ways.length - 1) (by omega) (by omega)
  have := V.grown
  unfold grownV at this
  omega
theorem rd_bd {m : Msn} (V : VMsn m) (l : List Int) : ∀ k, k < m.ways.length → 0 ≤ rdB m l k ∧ rdB m l k ≤ sumG m k ∧ 0 ≤ rdA m l k ∧ rdA m l k ≤ sumG m k
  | 0, _ => by have := V.start; simp only [rdB, rdA, sumG]; omega
  | k + 1, h => by
    have ih := rd_bd V l k (by omega)
    have g := gLeg_bd V.leg V.ways (i := k) (j := k + 1) (by omega) h
    have wb := wayB_true (waysB_at V.ways h)
    have e : rdB m l (k + 1) = rdA m l k + gLeg m k (k + 1) := rfl
    have e2 : sumG m (k + 1) = sumG m k + gLeg m k (k + 1) := rfl
    have h1 : 0 ≤ rdB m l (k + 1) ∧ rdB m l (k + 1) ≤ sumG m (k + 1) := by omega
    refine ⟨h1.1, h1.2, ?_⟩
    rw [rdA_succ]
    have mn := min2_le (rdB m l (k + 1)) (wy m.ways (k + 1)).fix
    split
    · omega
    · omega
theorem rd_le {m : Msn} (V : VMsn m) (l : List Int) {k : Nat} (h : k < m.ways.length) : 0 ≤ rdB m l k ∧ rdB m l k ≤ 100000 ∧ 0 ≤ rdA m l k ∧ rdA m l k ≤ 100000 := by
  have := rd_bd V l k h
  have := sumG_bd V h
  omega
/-- without stops they are the sums -/
theorem rd_none (m : Msn) : ∀ k, rdB m [] k = sumG m k ∧ rdA m [] k = sumG m k
  | 0 => ⟨rfl, rfl⟩
  | k + 1 => by
    have ih := rd_none m k
    have h : rdB m [] (k + 1) = sumG m (k + 1) := by show rdA m [] k + _ = sumG m k + _; rw [ih.2]
    refine ⟨h, ?_⟩
    rw [rdA_succ, if_neg (by simp)]; exact h
/-- without some stops no radius is less -/
theorem rd_sub (m : Msn) {l s : List Int} (h : ∀ x, x ∈ s → x ∈ l) : ∀ k, rdB m l k ≤ rdB m s k ∧ rdA m l k ≤ rdA m s k
  | 0 => ⟨Int.le_refl _, Int.le_refl _⟩
  | k + 1 => by
    have ih := rd_sub m h k
    have hb : rdB m l (k + 1) ≤ rdB m s (k + 1) := by rw [rdB_succ, rdB_succ]; omega
    refine ⟨hb, ?_⟩
    rw [rdA_succ, rdA_succ]
    by_cases h1 : ((k + 1 : Nat) : Int) ∈ s
    · rw [if_pos h1, if_pos (h _ h1)]
      unfold min2; split <;> split <;> omega
    · rw [if_neg h1]
      split
      · have := min2_le (rdB m l (k + 1)) (wy m.ways (k + 1)).fix; omega
      · exact hb
/-- and those ahead of the first of these are the same -/
theorem rd_same (m : Msn) {l s : List Int} {f : Int} (h : ∀ x, x ∈ s → x ∈ l) (hf : ∀ x, x ∈ l → x ∉ s → f ≤ x) : ∀ k : Nat, ((k : Int) ≤ f → rdB m s k = rdB m l k) ∧ ((k : Int) < f → rdA m s k = rdA m l k)
  | 0 => ⟨fun _ => rfl, fun _ => rfl⟩
  | k + 1 => by
    have ih := rd_same m h hf k
    have hb : ((k + 1 : Nat) : Int) ≤ f → rdB m s (k + 1) = rdB m l (k + 1) := fun hk => by rw [rdB_succ, rdB_succ, ih.2 (by omega)]
    refine ⟨hb, fun hk => ?_⟩
    rw [rdA_succ, rdA_succ, hb (by omega)]
    by_cases h1 : ((k + 1 : Nat) : Int) ∈ l
    · by_cases h2 : ((k + 1 : Nat) : Int) ∈ s
      · rw [if_pos h1, if_pos h2]
      · have := hf _ h1 h2; omega
    · rw [if_neg h1, if_neg (fun e => h1 (h _ e))]
/-- what Radii returns -/
noncomputable def radOkB (m : Msn) (l : List Int) : Bool := validB m && stopsB m l
noncomputable def rdBL (m : Msn) (l : List Int) : List Int := if radOkB m l = true then upto (rdB m l) m.ways.length else []
noncomputable def rdAL (m : Msn) (l : List Int) : List Int := if radOkB m l = true then upto (rdA m l) m.ways.length else []
noncomputable def rdE (m : Msn) (l : List Int) : Int := if radOkB m l = true then 0 else 1
end Go.Proofs.Ytoekcefhphcjjaa

namespace Go.Proofs.Ytoekcefhphcjjaa
open Go.RowKit
attribute [local irreducible] wpQuiet

/-- times and energies of the first legs of the route home -/
def homeT (m : Msn) (a : Nat) : Nat → Int
  | 0 => 0
  | j + 1 => homeT m a j + tLeg m (itB m a j) (itB m a (j + 1))
def homeE (m : Msn) (a : Nat) : Nat → Int
  | 0 => 0
  | j + 1 => homeE m a j + eLeg m (itB m a j) (itB m a (j + 1))
noncomputable def hT (m : Msn) (i : Int) : Int := if okR m i = true then homeT m i.toNat (dep m i.toNat) else 0
noncomputable def hE (m : Msn) (i : Int) : Int := if okR m i = true then homeE m i.toNat (dep m i.toNat) else 0

/-- a list that is not empty, by its cells -/
theorem ints_cells {n0 : Nat} {W : World} {v : Value} {l : List Int} {n : Nat} (h : IntsAt n0 W v l) (hl : l.length = n + 1) : ∃ b o cap, v = .slice (some ⟨b, o, none⟩) (n + 1) (n + 1 + cap) ∧ b < n0 ∧ ∀ j, j < n + 1 → W.cell? ⟨b, o + j, none⟩ = some (.int .i64 (l.getD j 0)) := by
  obtain ⟨_, a, cap, rfl, hc⟩ := h
  rcases hc with h0 | ⟨b, o, rfl, hb, hc⟩
  · rw [h0] at hl; simp at hl
  · rw [hl] at hc ⊢
    exact ⟨b, o, cap, rfl, hb, hc⟩



end Go.Proofs.Ytoekcefhphcjjaa

namespace Go.Proofs.Ytoekcefhphcjjaa
open Go.RowKit
attribute [local irreducible] wpQuiet










end Go.Proofs.Ytoekcefhphcjjaa

namespace Go.Proofs.Ytoekcefhphcjjaa
open Go.RowKit
attribute [local irreducible] wpQuiet

theorem mem_getD {l : List Int} {s : Int} : s ∈ l ↔ ∃ k, k < l.length ∧ l.getD k 0 = s := by
  constructor
  · intro h
    obtain ⟨k, hk, e⟩ := List.mem_iff_getElem.1 h
    exact ⟨k, hk, by simp [List.getD, List.getElem?_eq_getElem hk, e]⟩
  · rintro ⟨k, hk, e⟩
    simp [List.getD, List.getElem?_eq_getElem hk] at e
    rw [← e]
    exact List.getElem_mem hk


end Go.Proofs.Ytoekcefhphcjjaa

namespace Go.Proofs.Ytoekcefhphcjjaa
open Go.RowKit
attribute [local irreducible] wpQuiet

theorem Two.low {base : Nat} {e : TypeId} {W X : World} {v1 v2 u1 u2 : Value} {n1 n2 k1 k2 : Nat} {l1 l2 m1 m2 : List Value} (h : Two base e W X v1 v2 u1 u2 n1 n2 l1 l2) (r1 : W.ownsRow base e 1 v1 k1 m1) (r2 : W.ownsRow base e 1 v2 k2 m2) (hb : base ≤ W.heap.size) : Below base W X :=
  ⟨h.os, h.tape, h.output, h.size, fun b hlt => h.keep b (by omega) (row_off r1 hlt) (row_off r2 hlt)⟩

end Go.Proofs.Ytoekcefhphcjjaa

namespace Go.Proofs.Ytoekcefhphcjjaa
open Go.RowKit
attribute [local irreducible] wpQuiet


theorem same32_any (va vb : Value) (a b : List Int) (w : World) (ha : IntsAt w.heap.size w va a) (hb : IntsAt w.heap.size w vb b) :
    Calls Try.prog 17 #[va, vb] w fun e w' => e = .returned (.bool (decide (a = b))) ∧ Below w.heap.size w w' := by
  obtain ⟨hla, aa, capa, rfl, hca⟩ := ha
  obtain ⟨hlb, ab, capb, rfl, hcb⟩ := hb
  by_cases hl : a.length = b.length
  · rw [← hl]
    have d0 : ((a.length : Int) != (a.length : Int)) = false := by simp
    have hcaH := Lib.hid hca
    have hcbH := Lib.hid hcb
    have hlH := Lib.hid hl
    clear hca hcb hl
    go_enter Try.func17, Try.ntmps17
    go_wp2
    go_loopw [5] (fun i wr => ∃ k : Nat, k ≤ a.length ∧ i = .int .i64 k ∧ (∀ j, j < k → a.getD j 0 = b.getD j 0) ∧ Below w.heap.size w wr) (fun i _ => a.length - (intOf i).toNat)
    case atStart => exact ⟨0, by omega, rfl, fun j hj => by omega, Below.refl _ _⟩
    case round =>
      obtain ⟨k, hk, rfl, hall, hB⟩ := hrel
      have hall' := Lib.hid hall
      clear hall
      by_cases hlt : k < a.length
      · obtain ⟨ba, oa, rfl, hba, hcA⟩ : ∃ b1 o1, aa = some ⟨b1, o1, none⟩ ∧ b1 < w.heap.size ∧ ∀ j, j < a.length → w.cell? ⟨b1, o1 + j, none⟩ = some (.int .i64 (a.getD j 0)) := by
          rcases hcaH.out with h | h
          · rw [h] at hlt; simp at hlt
          · exact h
        obtain ⟨bb, ob, rfl, hbb, hcB⟩ : ∃ b1 o1, ab = some ⟨b1, o1, none⟩ ∧ b1 < w.heap.size ∧ ∀ j, j < b.length → w.cell? ⟨b1, o1 + j, none⟩ = some (.int .i64 (b.getD j 0)) := by
          rcases hcbH.out with h | h
          · have := hlH.out; rw [h] at this; simp at this; rw [this] at hlt; simp at hlt
          · exact h
        have c1 := Low.fact ((hB.cell (p := ⟨ba, oa + k, none⟩) hba).trans (hcA k hlt))
        have c2 := Low.fact ((hB.cell (p := ⟨bb, ob + k, none⟩) hbb).trans (hcB k (by have := hlH.out; omega)))
        have hi : (k : Int) < a.length := by omega
        have hz := hB.size
        clear hcA hcB
        by_cases he : a.getD k 0 = b.getD k 0
        · rw [← he] at c2
          have he' := Lib.hid he
          clear he
          generalize a.getD k 0 = x at c1 c2
          have dx : (x != x) = false := by simp
          go_wp2
          (refine wp_region_low (by kernel_rfl) (by kernel_rfl) ?_; (iterate 9 (apply quiet_want; (case hw => rfl); (case hval => (intro w1 hw1; have hcx := Low.cells hw1; simp only [Oper.quietAt]; go_simp; first | done | (first | fail) | rfl | exact ⟨rfl, rfl⟩)); simp only [Act.put, List.setIfInBounds_toArray, List.set_cons_zero, List.set_cons_succ])); refine wpQuiet_nil ?_; intro w2 hw2)
          go_wp2
          go_roundw
          case rel =>
            refine ⟨k + 1, by omega, by go_num, fun j hj => ?_, hB.trans (hw2.out.mono hz)⟩
            by_cases e : j = k
            · rw [e]; exact he'.out
            · exact hall'.out j (by omega)
          case measure => simp [intOf]; omega
        · have hne : Hid (decide (a = b) = false) := by
            show decide (a = b) = false
            simp only [decide_eq_false_iff_not]
            rintro rfl
            exact he rfl
          generalize a.getD k 0 = x at *
          generalize b.getD k 0 = y at *
          have dx : (x != y) = true := by simpa using he
          clear he
          go_wp2
          (refine wp_region_low (by kernel_rfl) (by kernel_rfl) ?_; (iterate 9 (apply quiet_want; (case hw => rfl); (case hval => (intro w1 hw1; have hcx := Low.cells hw1; simp only [Oper.quietAt]; go_simp; first | done | (first | fail) | rfl | exact ⟨rfl, rfl⟩)); simp only [Act.put, List.setIfInBounds_toArray, List.set_cons_zero, List.set_cons_succ])); refine wpQuiet_nil ?_; intro w2 hw2)
          go_wp2
          go_ret
          exact ⟨ret_bool hne.out.symm, hB.trans (hw2.out.mono hz)⟩
      · have heq : Hid (decide (a = b) = true) := by
          show decide (a = b) = true
          simp only [decide_eq_true_eq]
          refine List.ext_getElem hlH.out fun j h1 h2 => ?_
          have := hall'.out j (by omega)
          simpa [List.getD, List.getElem?_eq_getElem h1, List.getElem?_eq_getElem h2] using this
        go_wp2
        go_ret
        exact ⟨ret_bool heq.out.symm, hB⟩
  · have hne : decide (a = b) = false := by
      simp only [decide_eq_false_iff_not]
      rintro rfl
      exact hl rfl
    rw [hne]
    have d0 : ((a.length : Int) != (b.length : Int)) = true := by simp; omega
    clear hca hcb hl hne
    go_enter Try.func17, Try.ntmps17
    go_wp2
    go_ret
    exact ⟨rfl, by repeat (first | exact Below.refl _ _ | assumption | apply Below.drew | refine Below.setCell ?_ (by first | omega | (simp; done) | (simp; omega)) _ | refine Below.alloc ?_ (by first | omega | (simp; done) | (simp; omega)) _ | refine Below.call (by assumption) ?_ (by first | omega | (simp; done) | (simp; omega)))⟩

theorem samepts_any (va vb : Value) (a b : List Pt) (w : World) (ha : PtsAt w.heap.size w va a) (hb : PtsAt w.heap.size w vb b) :
    Calls Try.prog 15 #[va, vb] w fun e w' => e = .returned (.bool (decide (a = b))) ∧ Below w.heap.size w w' := by
  obtain ⟨hla, aa, capa, rfl, hca⟩ := ha
  obtain ⟨hlb, ab, capb, rfl, hcb⟩ := hb
  by_cases hl : a.length = b.length
  · rw [← hl]
    have d0 : ((a.length : Int) != (a.length : Int)) = false := by simp
    have hcaH := Lib.hid hca
    have hcbH := Lib.hid hcb
    have hlH := Lib.hid hl
    clear hca hcb hl
    go_enter Try.func15, Try.ntmps15
    go_wp2
    go_loopw [5] (fun i wr => ∃ k : Nat, k ≤ a.length ∧ i = .int .i64 k ∧ (∀ j, j < k → nth a j = nth b j) ∧ Below w.heap.size w wr) (fun i _ => a.length - (intOf i).toNat)
    case atStart => exact ⟨0, by omega, rfl, fun j hj => by omega, Below.refl _ _⟩
    case round =>
      obtain ⟨k, hk, rfl, hall, hB⟩ := hrel
      have hall' := Lib.hid hall
      clear hall
      by_cases hlt : k < a.length
      · obtain ⟨ba, oa, rfl, hba, hcA⟩ : ∃ b1 o1, aa = some ⟨b1, o1, none⟩ ∧ b1 < w.heap.size ∧ ∀ j, j < a.length → w.cell? ⟨b1, o1 + j * 2, none⟩ = some (.int .i64 (nth a j).x) ∧ w.cell? ⟨b1, o1 + j * 2 + 1, none⟩ = some (.int .i64 (nth a j).y) := by
          rcases hcaH.out with h | h
          · rw [h] at hlt; simp at hlt
          · exact h
        obtain ⟨bb, ob, rfl, hbb, hcB⟩ : ∃ b1 o1, ab = some ⟨b1, o1, none⟩ ∧ b1 < w.heap.size ∧ ∀ j, j < b.length → w.cell? ⟨b1, o1 + j * 2, none⟩ = some (.int .i64 (nth b j).x) ∧ w.cell? ⟨b1, o1 + j * 2 + 1, none⟩ = some (.int .i64 (nth b j).y) := by
          rcases hcbH.out with h | h
          · have := hlH.out; rw [h] at this; simp at this; rw [this] at hlt; simp at hlt
          · exact h
        obtain ⟨s1, s2⟩ := hcA k hlt
        obtain ⟨s3, s4⟩ := hcB k (by have := hlH.out; omega)
        have c1 := Low.fact ((hB.cell (p := ⟨ba, oa + k * 2, none⟩) hba).trans s1)
        have c2 := Low.fact ((hB.cell (p := ⟨ba, oa + k * 2 + 1, none⟩) hba).trans s2)
        have c3 := Low.fact ((hB.cell (p := ⟨bb, ob + k * 2, none⟩) hbb).trans s3)
        have c4 := Low.fact ((hB.cell (p := ⟨bb, ob + k * 2 + 1, none⟩) hbb).trans s4)
        have hi : (k : Int) < a.length := by omega
        have hz := hB.size
        clear hcA hcB s1 s2 s3 s4
        by_cases he : nth a k = nth b k
        · rw [← he] at c3 c4
          have he' := Lib.hid he
          clear he
          generalize (nth a k).x = x at c1 c3
          generalize (nth a k).y = y at c2 c4
          go_wp2
          (refine wp_region_low (by kernel_rfl) (by kernel_rfl) ?_; (iterate 9 (apply quiet_want; (case hw => rfl); (case hval => (intro w1 hw1; have hcx := Low.cells hw1; simp only [Oper.quietAt]; go_simp; first | done | (first | fail) | rfl | exact ⟨rfl, rfl⟩)); simp only [Act.put, List.setIfInBounds_toArray, List.set_cons_zero, List.set_cons_succ])); refine wpQuiet_nil ?_; intro w2 hw2)
          go_wp2
          go_roundw
          case rel =>
            refine ⟨k + 1, by omega, by go_num, fun j hj => ?_, hB.trans (hw2.out.mono hz)⟩
            by_cases e : j = k
            · rw [e]; exact he'.out
            · exact hall'.out j (by omega)
          case measure => simp [intOf]; omega
        · have hne : Hid (decide (a = b) = false) := by
            show decide (a = b) = false
            simp only [decide_eq_false_iff_not]
            rintro rfl
            exact he rfl
          have hxy : ¬ (nth a k).x = (nth b k).x ∨ ((nth a k).x = (nth b k).x ∧ ¬ (nth a k).y = (nth b k).y) := by
            by_cases h1 : (nth a k).x = (nth b k).x
            · exact .inr ⟨h1, fun h2 => he (Pt.ext' h1 h2)⟩
            · exact .inl h1
          clear he
          generalize (nth a k).x = x at *
          generalize (nth a k).y = y at *
          generalize (nth b k).x = x' at *
          generalize (nth b k).y = y' at *
          rcases hxy with h1 | ⟨h1, h2⟩
          · have h1' : ¬ x' = x := fun e => h1 e.symm
            go_wp2
            (refine wp_region_low (by kernel_rfl) (by kernel_rfl) ?_; (iterate 9 (apply quiet_want; (case hw => rfl); (case hval => (intro w1 hw1; have hcx := Low.cells hw1; simp only [Oper.quietAt]; go_simp; first | done | (first | fail) | rfl | exact ⟨rfl, rfl⟩)); simp only [Act.put, List.setIfInBounds_toArray, List.set_cons_zero, List.set_cons_succ])); refine wpQuiet_nil ?_; intro w2 hw2)
            go_wp2
            go_ret
            exact ⟨ret_bool hne.out.symm, hB.trans (hw2.out.mono hz)⟩
          · subst h1
            have h2' : ¬ y' = y := fun e => h2 e.symm
            go_wp2
            (refine wp_region_low (by kernel_rfl) (by kernel_rfl) ?_; (iterate 9 (apply quiet_want; (case hw => rfl); (case hval => (intro w1 hw1; have hcx := Low.cells hw1; simp only [Oper.quietAt]; go_simp; first | done | (first | fail) | rfl | exact ⟨rfl, rfl⟩)); simp only [Act.put, List.setIfInBounds_toArray, List.set_cons_zero, List.set_cons_succ])); refine wpQuiet_nil ?_; intro w2 hw2)
            go_wp2
            go_ret
            exact ⟨ret_bool hne.out.symm, hB.trans (hw2.out.mono hz)⟩
      · have heq : Hid (decide (a = b) = true) := by
          show decide (a = b) = true
          simp only [decide_eq_true_eq]
          exact ext_nth hlH.out fun j h1 => hall'.out j (by omega)
        go_wp2
        go_ret
        exact ⟨ret_bool heq.out.symm, hB⟩
  · have hne : decide (a = b) = false := by
      simp only [decide_eq_false_iff_not]
      rintro rfl
      exact hl rfl
    rw [hne]
    have d0 : ((a.length : Int) != (b.length : Int)) = true := by simp; omega
    clear hca hcb hl hne
    go_enter Try.func15, Try.ntmps15
    go_wp2
    go_ret
    exact ⟨rfl, by repeat (first | exact Below.refl _ _ | assumption | apply Below.drew | refine Below.setCell ?_ (by first | omega | (simp; done) | (simp; omega)) _ | refine Below.alloc ?_ (by first | omega | (simp; done) | (simp; omega)) _ | refine Below.call (by assumption) ?_ (by first | omega | (simp; done) | (simp; omega)))⟩
end Go.Proofs.Ytoekcefhphcjjaa
