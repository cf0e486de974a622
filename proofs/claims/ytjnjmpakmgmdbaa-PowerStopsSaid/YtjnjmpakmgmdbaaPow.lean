/- package power: leg, Cost. | package power: add, go1, wait, Home. | package power: set: a map of stops. -/
import Derived.Test.YtjnjmpakmgmdbaaHead31
import Derived.Test.YtjnjmpakmgmdbaaFree
import Derived.Test.YtjnjmpakmgmdbaaInts
import Derived.Maps.OwnSet
import Derived.Maps.OwnOps
import Derived.Maps.Views
import Derived.LoopTactic
namespace Go.Proofs.Ytjnjmpakmgmdbaa
open Go.RowKit
attribute [local irreducible] wpQuiet

/-- the energy of a leg -/
def eLeg (m : Msn) (i j : Nat) : Int := m.idle * tLeg m i j + m.drive * dLeg m i j
theorem eLeg_bd {m : Msn} (V : VMsn m) {i j : Nat} (hi : i < m.ways.length) (hj : j < m.ways.length) :
    0 ≤ m.idle * tLeg m i j ∧ m.idle * tLeg m i j ≤ 90000000000 ∧ 0 ≤ m.drive * dLeg m i j ∧ m.drive * dLeg m i j ≤ 900000000 ∧ 0 ≤ eLeg m i j ∧ eLeg m i j ≤ 90900000000 := by
  have t := tLeg_bd V.leg V.ways hi hj
  have d := dLeg_bd V.ways hi hj
  have h1 := Int.mul_nonneg V.idle.1 t.1
  have h2 := Int.mul_nonneg V.drive.1 d.1
  have h3 := Int.mul_le_mul V.idle.2 t.2 t.1 (by omega)
  have h4 := Int.mul_le_mul V.drive.2 d.2 d.1 (by omega)
  unfold eLeg
  omega

set_option maxRecDepth 4000 in
theorem pleg_no (m : Msn) (vw vh vr : Value) (i j : Int) (w : World) (hm : MsnAt w.heap.size w m vw vh vr) (hE : okL m i j = false) :
    Calls Try.prog 63 #[.agg (msnCells m vw vh vr), .int .i64 i, .int .i64 j] w fun e w' => e = .returned (.tuple #[.agg #[.int .i64 0, .int .i64 0], .int .i64 1]) ∧ Below w.heap.size w w' := by
  have W1 : Below w.heap.size w ((w.alloc (.cells (msnCells m vw vh vr) 26)).alloc (.cells #[.int .i64 0, .int .i64 0] 75)) := ((Below.refl _ _).alloc (Nat.le_refl _) _).alloc (by first | omega | (simp; done) | (simp; omega)) _
  have hl := leg_all m vw vh vr i j _ ((hm.below W1).mono W1.size)
  simp only [legV, legA, legT, legG, legE, hE, Bool.false_eq_true, if_false] at hl
  have hl := Lib.hid hl
  have H := Has.new (w.alloc (.cells (msnCells m vw vh vr) 26)) #[.int .i64 0, .int .i64 0] 75
  rw [show (w.alloc (.cells (msnCells m vw vh vr) 26)).heap.size = w.heap.size + 1 by simp] at H
  have H := Lib.hid H
  clear hm hE W1
  unfold msnCells at *
  go_enter Try.func63, Try.ntmps63
  go_wp2_with (go_at_call 17; refine (hl.out).mono ?_; rintro e w1 ⟨rfl, hb1⟩; have H1 := H.out.below hb1 (by simp); obtain ⟨hc1, hf1⟩ := bcell hb1; have x0 := cells_cell H1 (i := 0) rfl; have x1 := cells_cell H1 (i := 1) rfl; have y0 := cells_free H1 0; have y1 := cells_free H1 1; have hz1 := hb1.size; try simp at hz1)
  have z0 := cells_cell (H1.set 0 (.int .i64 0)) (i := 0) rfl
  have z1 := cells_cell ((H1.set 0 (.int .i64 0)).set 1 (.int .i64 0)) (i := 1) rfl
  refine bodyPost_ret (v := .tuple #[.agg #[.int .i64 0, .int .i64 0], .int .i64 1]) (by simp [results, Try.f63, go_sem, z0, z1]) rfl ⟨rfl, ?_⟩
  repeat (first | exact Below.refl _ _ | assumption | apply Below.drew | refine Below.setCell ?_ (by first | omega | (simp; done) | (simp; omega)) _ | refine Below.alloc ?_ (by first | omega | (simp; done) | (simp; omega)) _ | refine Below.call (by assumption) ?_ (by first | omega | (simp; done) | (simp; omega)))

set_option maxRecDepth 4000 in
theorem pleg_yes (m : Msn) (vw vh vr : Value) (i j : Nat) (w : World) (hm : MsnAt w.heap.size w m vw vh vr) (hV : validB m = true) (hi : i < m.ways.length) (hj : j < m.ways.length) :
    Calls Try.prog 63 #[.agg (msnCells m vw vh vr), .int .i64 i, .int .i64 j] w fun e w' => e = .returned (.tuple #[.agg #[.int .i64 (tLeg m i j), .int .i64 (eLeg m i j)], .int .i64 0]) ∧ Below w.heap.size w w' := by
  have W1 : Below w.heap.size w ((w.alloc (.cells (msnCells m vw vh vr) 26)).alloc (.cells #[.int .i64 0, .int .i64 0] 75)) := ((Below.refl _ _).alloc (Nat.le_refl _) _).alloc (by first | omega | (simp; done) | (simp; omega)) _
  have hl := leg_all m vw vh vr i j _ ((hm.below W1).mono W1.size)
  rw [leg_nat hV hi hj] at hl
  have hl := Lib.hid hl
  have b := eLeg_bd ((validB_iff m).1 hV) hi hj
  have x1 : IntKind.i64.wrap (m.idle * tLeg m i j) = m.idle * tLeg m i j := IntWalk.i64_in _ (by omega)
  have x2 : IntKind.i64.wrap (m.drive * dLeg m i j) = m.drive * dLeg m i j := IntWalk.i64_in _ (by omega)
  have x3 : IntKind.i64.wrap (m.idle * tLeg m i j + m.drive * dLeg m i j) = m.idle * tLeg m i j + m.drive * dLeg m i j := IntWalk.i64_in _ (by omega)
  unfold eLeg
  generalize tLeg m i j = t at *
  generalize dLeg m i j = d at *
  generalize gLeg m i j = g at *
  have H := Has.new (w.alloc (.cells (msnCells m vw vh vr) 26)) #[.int .i64 0, .int .i64 0] 75
  rw [show (w.alloc (.cells (msnCells m vw vh vr) 26)).heap.size = w.heap.size + 1 by simp] at H
  have H := Lib.hid H
  clear hm hV W1 b
  unfold msnCells at *
  go_enter Try.func63, Try.ntmps63
  go_wp2_with (go_at_call 17; refine (hl.out).mono ?_; rintro e w1 ⟨rfl, hb1⟩; have H1 := H.out.below hb1 (by simp); obtain ⟨hc1, hf1⟩ := bcell hb1; have x0 := cells_cell H1 (i := 0) rfl; have x1 := cells_cell H1 (i := 1) rfl; have y0 := cells_free H1 0; have y1 := cells_free H1 1; have hz1 := hb1.size; try simp at hz1)
  have z0 := cells_cell (H1.set 0 (.int .i64 t)) (i := 0) rfl
  have z1 := cells_cell ((H1.set 0 (.int .i64 t)).set 1 (.int .i64 (m.idle * t + m.drive * d))) (i := 1) rfl
  refine bodyPost_ret (v := .tuple #[.agg #[.int .i64 t, .int .i64 (m.idle * t + m.drive * d)], .int .i64 0]) (by simp [results, Try.f63, go_sem, z0, z1]) rfl ⟨rfl, ?_⟩
  repeat (first | exact Below.refl _ _ | assumption | apply Below.drew | refine Below.setCell ?_ (by first | omega | (simp; done) | (simp; omega)) _ | refine Below.alloc ?_ (by first | omega | (simp; done) | (simp; omega)) _ | refine Below.call (by assumption) ?_ (by first | omega | (simp; done) | (simp; omega)))

noncomputable def pT (m : Msn) (i j : Int) : Int := if okL m i j = true then tLeg m i.toNat j.toNat else 0
noncomputable def pE (m : Msn) (i j : Int) : Int := if okL m i j = true then eLeg m i.toNat j.toNat else 0
theorem pleg_all (m : Msn) (vw vh vr : Value) (i j : Int) (w : World) (hm : MsnAt w.heap.size w m vw vh vr) :
    Calls Try.prog 63 #[.agg (msnCells m vw vh vr), .int .i64 i, .int .i64 j] w fun e w' => e = .returned (.tuple #[.agg #[.int .i64 (pT m i j), .int .i64 (pE m i j)], .int .i64 (legE m i j)]) ∧ Below w.heap.size w w' := by
  cases h : okL m i j
  · simp only [pT, pE, legE, h, Bool.false_eq_true, if_false]
    exact pleg_no m vw vh vr i j w hm h
  · simp only [pT, pE, legE, h, if_true]
    obtain ⟨a, b, rfl, rfl, ha, hb, hv⟩ := okL_true h
    exact pleg_yes m vw vh vr a b w hm hv ha hb

set_option maxRecDepth 4000 in
theorem pcost_all (m : Msn) (vw vh vr : Value) (i j : Int) (w : World) (hm : MsnAt w.heap.size w m vw vh vr) :
    Calls Try.prog 25 #[.agg (msnCells m vw vh vr), .int .i64 i, .int .i64 j] w fun e w' => e = .returned (.tuple #[.int .i64 (pT m i j), .int .i64 (pE m i j), .int .i64 (legE m i j)]) ∧ Below w.heap.size w w' := by
  have W1 : Below w.heap.size w (w.alloc (.cells (msnCells m vw vh vr) 26)) := (Below.refl _ _).alloc (Nat.le_refl _) _
  have hl := pleg_all m vw vh vr i j _ ((hm.below W1).mono W1.size)
  cases h : okL m i j
  · simp only [pT, pE, legE, h, Bool.false_eq_true, if_false] at hl ⊢
    have hl := Lib.hid hl
    clear hm W1 h
    unfold msnCells at *
    go_enter Try.func25, Try.ntmps25
    go_wp2_with (go_at_call 63; refine (hl.out).mono ?_; rintro e w1 ⟨rfl, hb1⟩; obtain ⟨hc1, hf1⟩ := bcell hb1; have hz1 := hb1.size; try simp at hz1)
    go_ret3
    exact ⟨rfl, by repeat (first | exact Below.refl _ _ | assumption | apply Below.drew | refine Below.setCell ?_ (by first | omega | (simp; done) | (simp; omega)) _ | refine Below.alloc ?_ (by first | omega | (simp; done) | (simp; omega)) _ | refine Below.call (by assumption) ?_ (by first | omega | (simp; done) | (simp; omega)))⟩
  · simp only [pT, pE, legE, h, if_true] at hl ⊢
    have hl := Lib.hid hl
    clear hm W1 h
    generalize tLeg m i.toNat j.toNat = t at *
    generalize eLeg m i.toNat j.toNat = e0 at *
    unfold msnCells at *
    go_enter Try.func25, Try.ntmps25
    go_wp2_with (go_at_call 63; refine (hl.out).mono ?_; rintro e w1 ⟨rfl, hb1⟩; obtain ⟨hc1, hf1⟩ := bcell hb1; have hz1 := hb1.size; try simp at hz1)
    go_quiet (fail)
    go_wp2
    go_ret3
    refine ⟨rfl, below_drewN ?_ _⟩
    repeat (first | exact Below.refl _ _ | assumption | apply Below.drew | refine Below.setCell ?_ (by first | omega | (simp; done) | (simp; omega)) _ | refine Below.alloc ?_ (by first | omega | (simp; done) | (simp; omega)) _ | refine Below.call (by assumption) ?_ (by first | omega | (simp; done) | (simp; omega)))
end Go.Proofs.Ytjnjmpakmgmdbaa

namespace Go.Proofs.Ytjnjmpakmgmdbaa
open Go.RowKit
attribute [local irreducible] wpQuiet

/-- one block has turned, and nothing below it else; what was there lies -/
structure Only (b : Nat) (w w' : World) : Prop where
  os : w'.os = w.os
  tape : w'.tape = w.tape
  output : w'.output = w.output
  size : w.heap.size ≤ w'.heap.size
  block : ∀ k, k < w.heap.size → k ≠ b → w'.heap[k]? = w.heap[k]?
theorem Only.of_below {b : Nat} {w w' : World} (h : Below w.heap.size w w') : Only b w w' := ⟨h.os, h.tape, h.output, h.size, fun k hk _ => h.block k hk⟩
theorem Only.trans {b : Nat} {x y z : World} (h : Only b x y) (k : Only b y z) : Only b x z :=
  ⟨k.os.trans h.os, k.tape.trans h.tape, k.output.trans h.output, Nat.le_trans h.size k.size, fun i hi hne => (k.block i (Nat.lt_of_lt_of_le hi h.size) hne).trans (h.block i hi hne)⟩
theorem Only.below {b n : Nat} {w w' : World} (h : Only b w w') (hn : n ≤ b) (hw : n ≤ w.heap.size) : Below n w w' := ⟨h.os, h.tape, h.output, h.size, fun k hk => h.block k (by omega) (by omega)⟩
theorem Only.set {b : Nat} {w w' : World} (h : Only b w w') (i : Nat) (v : Value) : Only b w (w'.setCell ⟨b, i, none⟩ v) :=
  ⟨h.os, h.tape, h.output, by simpa [World.setCell] using h.size, fun k hk hne => (Below.heap_setCell w' ⟨b, i, none⟩ v k hne).trans (h.block k hk hne)⟩

/-- the cells of a 'spent' -/
def spentCells (m : Msn) (vw vh vr : Value) (t e : Int) : Array Value :=
  #[.int .i64 t, .int .i64 e, vw, vh, .int .i64 m.start, vr, .int .i64 m.speed, .int .i64 m.part, .int .i64 m.flow, .int .i64 m.idle, .int .i64 m.drive, .int .i64 m.battery, .int .i64 m.deadline]

set_option maxRecDepth 4000 in
set_option maxHeartbeats 800000 in
theorem add_any (B : Nat) (m : Msn) (vw vh vr : Value) (t e t2 e2 : Int) (w : World) (H : w.heap[B]? = some (.cells (spentCells m vw vh vr t e) 89 (0, 0)))
    (ht : IntKind.i64.wrap (t + t2) = t + t2) (he : IntKind.i64.wrap (e + e2) = e + e2) :
    Calls Try.prog 91 #[.pointer (some ⟨B, 0, none⟩), .agg #[.int .i64 t2, .int .i64 e2]] w fun r w' => (∃ v, r = .returned v) ∧ w'.heap[B]? = some (.cells (spentCells m vw vh vr (t + t2) (e + e2)) 89 (0, 0)) ∧ Only B w w' := by
  have hlt := (Array.getElem?_eq_some_iff.1 H).1
  have c0 : w.cell? ⟨B, 0, none⟩ = some (.int .i64 t) := cells_cell H (i := 0) rfl
  have c1 : w.cell? ⟨B, 1, none⟩ = some (.int .i64 e) := cells_cell H (i := 1) rfl
  have f0 := cells_free H 0
  have f1 := cells_free H 1
  have HH := Lib.hid H
  clear H
  go_enter Try.func91, Try.ntmps91
  go_wp2
  go_region
  all_goals go_wp2
  all_goals go_end0
  all_goals refine ⟨⟨_, rfl⟩, (((Has.set (Has.set HH.out 0 _) 1 _).below ((Below.refl (B + 1) _).alloc (by simp [World.setCell]; omega) _) (by omega)) : _), ⟨rfl, rfl, rfl, by simp [World.setCell], fun k hk hne => ?_⟩⟩
  all_goals
    refine (((Below.refl _ _).alloc (Nat.le_refl _) _).block k (by simpa [World.setCell] using hk) : _ = (World.setCell (World.setCell w ⟨B, 0, none⟩ (.int .i64 (t + t2))) ⟨B, 1, none⟩ (.int .i64 (e + e2))).heap[k]?).trans ?_
    exact (((Only.of_below (Below.refl _ w)).set 0 _).set 1 _).block k hk hne

/-- the cells of a mission within a 'spent' -/
theorem spent_cells {W : World} {B : Nat} {m : Msn} {vw vh vr : Value} {t e : Int} {T : TypeId} (H : W.heap[B]? = some (.cells (spentCells m vw vh vr t e) T (0, 0))) : W.cell? ⟨B, 2, none⟩ = some vw ∧ W.cell? ⟨B, 3, none⟩ = some vh ∧ W.cell? ⟨B, 4, none⟩ = some (.int .i64 m.start) ∧ W.cell? ⟨B, 5, none⟩ = some vr ∧ W.cell? ⟨B, 6, none⟩ = some (.int .i64 m.speed) ∧ W.cell? ⟨B, 7, none⟩ = some (.int .i64 m.part) ∧ W.cell? ⟨B, 8, none⟩ = some (.int .i64 m.flow) ∧ W.cell? ⟨B, 9, none⟩ = some (.int .i64 m.idle) ∧ W.cell? ⟨B, 10, none⟩ = some (.int .i64 m.drive) ∧ W.cell? ⟨B, 11, none⟩ = some (.int .i64 m.battery) ∧ W.cell? ⟨B, 12, none⟩ = some (.int .i64 m.deadline) :=
  ⟨cells_cell H (i := 2) rfl, cells_cell H (i := 3) rfl, cells_cell H (i := 4) rfl, cells_cell H (i := 5) rfl, cells_cell H (i := 6) rfl, cells_cell H (i := 7) rfl, cells_cell H (i := 8) rfl, cells_cell H (i := 9) rfl, cells_cell H (i := 10) rfl, cells_cell H (i := 11) rfl, cells_cell H (i := 12) rfl⟩

/-- what a method of a 'spent' leaves -/
def SpentQ (B : Nat) (m : Msn) (vw vh vr : Value) (t e : Int) (w : World) (r : Ending) (w' : World) : Prop :=
  (∃ v, r = .returned v) ∧ w'.heap[B]? = some (.cells (spentCells m vw vh vr t e) 89 (0, 0)) ∧ Only B w w'

set_option maxRecDepth 4000 in
set_option maxHeartbeats 800000 in
theorem go1_any (B : Nat) (m : Msn) (vw vh vr : Value) (t e : Int) (i j : Nat) (w : World) (H : w.heap[B]? = some (.cells (spentCells m vw vh vr t e) 89 (0, 0)))
    (hm : MsnAt w.heap.size w m vw vh vr) (hV : validB m = true) (hi : i < m.ways.length) (hj : j < m.ways.length) (t1 : 0 ≤ t) (t2 : t ≤ 1000000000000000) (e1 : 0 ≤ e) (e2 : e ≤ 1000000000000000) :
    Calls Try.prog 70 #[.pointer (some ⟨B, 0, none⟩), .int .i64 i, .int .i64 j] w (SpentQ B m vw vh vr (t + tLeg m i j) (e + eLeg m i j) w) := by
  have hlt := (Array.getElem?_eq_some_iff.1 H).1
  have V := (validB_iff m).1 hV
  have tb := tLeg_bd V.leg V.ways hi hj
  have eb := eLeg_bd V hi hj
  have hl := pleg_yes m vw vh vr i j w hm hV hi hj
  have ht : IntKind.i64.wrap (t + tLeg m i j) = t + tLeg m i j := IntWalk.i64_in _ (by omega)
  have he : IntKind.i64.wrap (e + eLeg m i j) = e + eLeg m i j := IntWalk.i64_in _ (by omega)
  generalize tLeg m i j = dt at *
  generalize eLeg m i j = de at *
  have hl := Lib.hid hl
  have HW := Lib.hid (And.intro ht he)
  obtain ⟨c2, c3, c4, c5, c6, c7, c8, c9, c10, c11, c12⟩ := spent_cells H
  have HH := Lib.hid H
  clear H hm hV V ht he tb eb
  unfold msnCells at hl
  go_enter Try.func70, Try.ntmps70
  go_wp2_with fail
  refine hl.out.mono ?_
  rintro r w1 ⟨rfl, hb1⟩
  have H1 := (hb1.block B hlt).trans HH.out
  have H1' := Lib.hid H1
  clear c2 c3 c4 c5 c6 c7 c8 c9 c10 c11 c12
  have z1 := hb1.size
  have HB1 := Lib.hid hb1
  clear hb1 H1
  go_wp2
  have N2 := Has.new w1 #[.int .i64 dt, .int .i64 de] 75
  have n0 := Low.fact (N2.cell (i := 0) rfl)
  have n1 := Low.fact (N2.cell (i := 1) rfl)
  have HN := Lib.hid N2
  clear N2
  (refine (wpIn_wide (n := 9)).1 ?_; refine wpIn_region_low_tail (lets_wide _) 4 (by kernel_rfl) (by kernel_rfl) (by kernel_rfl) ?_; simp only [List.take_succ_cons, List.take_zero, List.drop_succ_cons, List.drop_zero]; (iterate 4 (apply quiet_want; (case hw => rfl); (case hval => (intro w1 hw1; have hcx := Low.cells hw1; simp only [Oper.quietAt]; go_simp; first | done | (first | fail) | rfl | exact ⟨rfl, rfl⟩)); simp only [Act.put, List.setIfInBounds_toArray, List.set_cons_zero, List.set_cons_succ])); refine wpQuiet_nil ?_; intro w2 hw2)
  have B2 := Lib.hid (((Below.refl _ w1).alloc (Nat.le_refl _) (.cells #[.int .i64 dt, .int .i64 de] 75)).trans (hw2.out.mono (by simp)))
  have H2 := (B2.out.block B (by omega)).trans H1'.out
  have H2' := Lib.hid H2
  clear H2 hw2 n0 n1
  gi_wp2_with (refine ⟨trivial, ?_⟩; gi_at_call 91; refine (callsIn_wide.2 (add_any B m vw vh vr t e dt de _ H2'.out HW.out.1 HW.out.2)).mono ?_; rintro r w3 ⟨⟨v, rfl⟩, hH3, hO3⟩)
  have HO := Lib.hid (And.intro hH3 (((Only.of_below HB1.out).trans (Only.of_below B2.out)).trans hO3))
  clear hH3 hO3
  go_wp2
  go_end0
  exact ⟨⟨_, rfl⟩, HO.out.1, HO.out.2⟩

set_option maxRecDepth 4000 in
set_option maxHeartbeats 800000 in
theorem wait_any (B : Nat) (m : Msn) (vw vh vr : Value) (t e : Int) (i : Nat) (w : World) (H : w.heap[B]? = some (.cells (spentCells m vw vh vr t e) 89 (0, 0)))
    (hm : MsnAt w.heap.size w m vw vh vr) (hV : validB m = true) (hi : i < m.ways.length) (t1 : 0 ≤ t) (t2 : t ≤ 1000000000000000) (e1 : 0 ≤ e) (e2 : e ≤ 1000000000000000) :
    Calls Try.prog 89 #[.pointer (some ⟨B, 0, none⟩), .int .i64 i] w (SpentQ B m vw vh vr (t + (wy m.ways i).wait) (e + m.idle * (wy m.ways i).wait) w) := by
  have hlt := (Array.getElem?_eq_some_iff.1 H).1
  have V := (validB_iff m).1 hV
  have wb := wayB_true (waysB_at V.ways hi)
  have mb := prod_bd (a := m.idle) (b := (wy m.ways i).wait) (m := 1000) (n := 100000) (by have := V.idle; omega) (by have := V.idle; omega) (by omega) (by omega)
  have mn := Int.mul_nonneg V.idle.1 wb.2.2.2.2.2.2.1
  have x1 : IntKind.i64.wrap (m.idle * (wy m.ways i).wait) = m.idle * (wy m.ways i).wait := IntWalk.i64_in _ (by omega)
  have ht : IntKind.i64.wrap (t + (wy m.ways i).wait) = t + (wy m.ways i).wait := IntWalk.i64_in _ (by omega)
  have he : IntKind.i64.wrap (e + m.idle * (wy m.ways i).wait) = e + m.idle * (wy m.ways i).wait := IntWalk.i64_in _ (by omega)
  obtain ⟨b, o, cap, rfl, hb, hc2⟩ := hm.1.cells (by omega)
  have u3 := (hc2 i hi).2.2.2.1
  have HW := Lib.hid (And.intro ht he)
  have hil : (i : Int) < m.ways.length := by omega
  have i0 : (0 : Int) ≤ i := by omega
  generalize (wy m.ways i).wait = q at *
  have cl2 : w.cell? ⟨B, 2, none⟩ = some (.slice (some ⟨b, o, none⟩) m.ways.length (m.ways.length + cap)) := cells_cell H (i := 2) rfl
  have cl9 : w.cell? ⟨B, 9, none⟩ = some (.int .i64 m.idle) := cells_cell H (i := 9) rfl
  have l9 := Low.fact cl9
  have HH := Lib.hid H
  clear H hm hV V ht he wb mb mn hc2 cl9
  go_enter Try.func89, Try.ntmps89
  go_wp2
  (refine (wpIn_wide (n := 9)).1 ?_; refine wpIn_region_low_tail (lets_wide _) 12 (by kernel_rfl) (by kernel_rfl) (by kernel_rfl) ?_; simp only [List.take_succ_cons, List.take_zero, List.drop_succ_cons, List.drop_zero]; (iterate 12 (apply quiet_want; (case hw => rfl); (case hval => (intro w1 hw1; have hcx := Low.cells hw1; simp only [Oper.quietAt]; go_simp; first | done | (first | fail) | rfl | exact ⟨rfl, rfl⟩)); simp only [Act.put, List.setIfInBounds_toArray, List.set_cons_zero, List.set_cons_succ])); refine wpQuiet_nil ?_; intro w2 hw2)
  have H2 := (hw2.out.block B hlt).trans HH.out
  have H2' := Lib.hid H2
  have B2 := Lib.hid hw2.out
  clear H2 hw2 l9
  gi_wp2_with (refine ⟨trivial, ?_⟩; gi_at_call 91; refine (callsIn_wide.2 (add_any B m _ vh vr t e q (m.idle * q) _ H2'.out HW.out.1 HW.out.2)).mono ?_; rintro r w3 ⟨⟨v, rfl⟩, hH3, hO3⟩)
  have HO := Lib.hid (And.intro hH3 ((Only.of_below B2.out).trans hO3))
  clear hH3 hO3
  go_wp2
  go_end0
  exact ⟨⟨_, rfl⟩, HO.out.1, HO.out.2⟩
end Go.Proofs.Ytjnjmpakmgmdbaa

namespace Go.Proofs.Ytjnjmpakmgmdbaa
open Go.RowKit Go.Maps
attribute [local irreducible] wpQuiet

theorem keyInt : Keyed Try.prog 3 := int_keyed Try.underlying3
theorem zeroBool (w : World) : (zeroValue 4).run Try.prog w = .ok (.bool false) w := by kernel_rfl

/-- block b is a map in which just the numbers of a list are true -/
def SetAt (W : World) (b : Nat) (l : List Int) : Prop := ∃ (n : Nat) (D : DataW Unit), W.ownsMap Try.prog 3 (plainElem Try.prog 4) b n D ∧ n ≤ l.length ∧ (∃ es, D = .map es) ∧ ∀ k : Int, (Lit.int .i64 k).wf = true → D.atKey (.int .i64 k) (.lit (.bool false)) = .lit (.bool (decide (k ∈ l)))
theorem SetAt.made (w : World) : SetAt (w.alloc (.map #[] 0)) w.heap.size [] := ⟨0, _, World.ownsMap_made _ _ _ _, Nat.le_refl _, ⟨[], rfl⟩, fun k _ => by simp [DataW.atKey]⟩
theorem SetAt.kept {W W' : World} {row : Option Nat} {b : Nat} {l : List Int} (h : SetAt W b l) (hg : W.grownBy W' row) (hne : some b ≠ row) : SetAt W' b l := by
  obtain ⟨n, D, h1, h2, h3, h4⟩ := h
  exact ⟨n, D, h1.kept hg hne, h2, h3, h4⟩
theorem SetAt.lt {W : World} {b : Nat} {l : List Int} (h : SetAt W b l) : b < W.heap.size := by obtain ⟨n, D, h1, _⟩ := h; exact h1.lt
theorem SetAt.block {W W' : World} {b : Nat} {l : List Int} (h : SetAt W b l) (hb : W'.heap[b]? = W.heap[b]?) : SetAt W' b l := by
  obtain ⟨n, D, ⟨es, clock, h0, F, hs, hD⟩, h2, h3, h4⟩ := h
  exact ⟨n, D, ⟨es, clock, hb.trans h0, F, hs, hD⟩, h2, h3, h4⟩
set_option maxRecDepth 8000 in
theorem SetAt.look {W : World} {b : Nat} {l : List Int} (h : SetAt W b l) {k : Int} (hk : (Lit.int .i64 k).wf = true) : (Instr.lookup 80 (.map (some b)) (.int .i64 k) false).run Try.prog W = .ok (.bool (decide (k ∈ l))) W := by
  obtain ⟨n, D, h1, _, _, h4⟩ := h
  obtain ⟨v, ps, hrun, hv⟩ := h1.lookup keyInt Try.underlying80 (zeroBool W) (plainElem_bool Try.underlying4 false) (keyOf_int_mk Try.underlying3 hk)
  rw [h4 k hk] at hv
  rw [hrun]
  unfold plainElem at hv
  rw [Try.underlying4] at hv
  cases v <;> simp_all

/-- the stop ahead of one -/
def prevS (l : List Int) (k : Nat) : Int := if k = 0 then 0 else l.getD (k - 1) 0
/-- stop number k is one -/
def stopOk (m : Msn) (l : List Int) (k : Nat) : Prop := prevS l k < l.getD k 0 ∧ l.getD k 0 < m.ways.length ∧ (wy m.ways (l.getD k 0).toNat).fix ≠ 0
instance (m : Msn) (l : List Int) (k : Nat) : Decidable (stopOk m l k) := by unfold stopOk; infer_instance
/-- all stops are stops -/
def stopsB (m : Msn) (l : List Int) : Bool := decide (∀ k, k < l.length → stopOk m l k)
theorem stopsB_no {m : Msn} {l : List Int} {k : Nat} (hk : k < l.length) (h : ¬ stopOk m l k) : stopsB m l = false := by
  simp only [stopsB, decide_eq_false_iff_not]; intro h2; exact h (h2 k hk)
theorem prevS_nonneg {m : Msn} {l : List Int} {k : Nat} (h : ∀ j, j < k → stopOk m l j) : ∀ j, j ≤ k → 0 ≤ prevS l j
  | 0, _ => by simp [prevS]
  | j + 1, hj => by
    have ih := prevS_nonneg h j (by omega)
    have := (h j (by omega)).1
    simp only [prevS, Nat.add_one_ne_zero, if_false, Nat.add_sub_cancel]; omega

/-- the map of stops, or a refusal -/
def SetQ (l : List Int) (w : World) (e : Ending) (w' : World) : Prop := ∃ b, e = .returned (.tuple #[.map (some b), .bool true]) ∧ SetAt w' b l ∧ w.heap.size ≤ b ∧ Below w.heap.size w w'

theorem SetAt.put {b : Nat} {l : List Int} {s : Int} (hs : (Lit.int .i64 s).wf = true) {n : Nat} {D : DataW Unit} {W' : World} (hn : n ≤ l.length) (hm : ∃ es, D = .map es)
    (hat : ∀ k : Int, (Lit.int .i64 k).wf = true → D.atKey (.int .i64 k) (.lit (.bool false)) = .lit (.bool (decide (k ∈ l))))
    (h : W'.ownsMap Try.prog 3 (plainElem Try.prog 4) b (n + 1) (D.put (.int .i64 s) (.lit (.bool true)))) : SetAt W' b (l ++ [s]) := by
  refine ⟨n + 1, _, h, by simp; omega, ?_, fun k hk => ?_⟩
  · obtain ⟨es, rfl⟩ := hm; exact IsMap.put ⟨es, rfl⟩ _ _
  · by_cases e : k = s
    · subst e
      rw [atKey_put_same hm (by trivial)]
      simp
    · rw [atKey_put_other (by intro h; injection h with _ h2; exact e h2), hat k hk]
      simp [e]

/-- what set returns -/
def SetsQ (m : Msn) (l : List Int) (w : World) (e : Ending) (w' : World) : Prop :=
  (stopsB m l = false ∧ e = .returned (.tuple #[.map none, .bool false]) ∧ Below w.heap.size w w') ∨ (stopsB m l = true ∧ SetQ l w e w')

theorem i64_wf {n : Int} (h1 : -9223372036854775808 ≤ n) (h2 : n ≤ 9223372036854775807) : (Lit.int .i64 n).wf = true := by
  simp [Lit.wf, IntKind.min, IntKind.max, IntKind.signed, IntKind.bits]; omega

set_option maxRecDepth 4000 in
set_option maxHeartbeats 1600000 in
theorem set_any (m : Msn) (vw vh vr vl : Value) (l : List Int) (w : World) (hw : WaysAt w.heap.size w vw m.ways) (hl : IntsAt w.heap.size w vl l) :
    Calls Try.prog 66 #[.agg (msnCells m vw vh vr), vl] w (SetsQ m l w) := by
  obtain ⟨hll, al, capl, rfl, hlc⟩ := hl
  obtain ⟨hwl, aw, capw, rfl, hwc⟩ := hw
  have H0 := Has.new w (msnCells m (.slice aw m.ways.length (m.ways.length + capw)) vh vr) 26
  have hS0 := SetAt.made (w.alloc (.cells (msnCells m (.slice aw m.ways.length (m.ways.length + capw)) vh vr) 26))
  rw [World.size_alloc] at hS0
  have H1 := H0.below ((Below.refl (w.heap.size + 1) _).alloc (by simp) (.map #[] 0)) (by omega)
  have H1' := Lib.hid H1
  have S1' := Lib.hid hS0
  have hlH := Lib.hid hlc
  have hwH := Lib.hid hwc
  have hmm := @run_makeMap Try.prog
  clear hlc hwc H0 H1 hS0
  unfold msnCells at *
  go_enter Try.func66, Try.ntmps66
  go_wp2
  clear hmm
  go_loopw [7, 13] (fun s i wr => ∃ k : Nat, k ≤ l.length ∧ i = .int .i64 k ∧ s = .int .i64 (prevS l k) ∧ (∀ j, j < k → stopOk m l j) ∧ SetAt wr (w.heap.size + 1) (l.take k) ∧ Has wr w.heap.size (msnCells m (.slice aw m.ways.length (m.ways.length + capw)) vh vr) 26 ∧ Below w.heap.size w wr) (fun _ i _ => l.length - (intOf i).toNat)
  case atStart => exact ⟨0, by omega, rfl, rfl, fun j hj => by omega, S1'.out, H1'.out, ((Below.refl _ _).alloc (Nat.le_refl _) _).alloc (by first | omega | (simp; done) | (simp; omega)) _⟩
  case round =>
    obtain ⟨k, hk, rfl, rfl, hall, hS, H, hB⟩ := hrel
    have hzr := hB.size
    have hlt1 := H.lt
    have hall' := Lib.hid hall
    have HH := Lib.hid H
    have cc : wr.cell? ⟨w.heap.size, 0, none⟩ = some (.slice aw m.ways.length (m.ways.length + capw)) := H.cell (i := 0) rfl
    have hp := prevS_nonneg hall k (Nat.le_refl _)
    have HS := Lib.hid hS
    clear hall H hS
    by_cases hlt : k < l.length
    · obtain ⟨bl, ol, rfl, hbl, hcl⟩ : ∃ b1 o1, al = some ⟨b1, o1, none⟩ ∧ b1 < w.heap.size ∧ ∀ j, j < l.length → w.cell? ⟨b1, o1 + j, none⟩ = some (.int .i64 (l.getD j 0)) := by
        rcases hlH.out with h | h
        · rw [h] at hlt; simp at hlt
        · exact h
      have f1 := (hB.cell (p := ⟨bl, ol + k, none⟩) hbl).trans (hcl k hlt)
      have hsk : prevS l (k + 1) = l.getD k 0 := by simp [prevS]
      have htk : l.take (k + 1) = l.take k ++ [l.getD k 0] := by
        rw [List.take_succ_eq_append_getElem hlt]
        simp [List.getD, List.getElem?_eq_getElem hlt]
      have hok : stopOk m l k ↔ prevS l k < l.getD k 0 ∧ l.getD k 0 < m.ways.length ∧ (wy m.ways (l.getD k 0).toNat).fix ≠ 0 := Iff.rfl
      clear hcl
      obtain ⟨s, hs⟩ : ∃ s, l.getD k 0 = s := ⟨_, rfl⟩
      obtain ⟨p0, hp0⟩ : ∃ p0, prevS l k = p0 := ⟨_, rfl⟩
      rw [hs] at f1 hsk htk hok
      rw [hp0] at hp hok ⊢
      have HK := Lib.hid (And.intro hsk (And.intro htk hs))
      have HO := Lib.hid hok
      clear hsk htk hs hp0 hok
      by_cases h1 : p0 < s
      · have d1 : decide (s ≤ p0) = false := by simp; omega
        by_cases h2 : s < m.ways.length
        · have d2 : decide ((m.ways.length : Int) ≤ s) = false := by simp; omega
          obtain ⟨q, rfl⟩ : ∃ q : Nat, s = q := ⟨s.toNat, by omega⟩
          obtain ⟨bw, ow, rfl, hbw, hcw⟩ : ∃ b o, aw = some ⟨b, o, none⟩ ∧ b < w.heap.size ∧ ∀ j, j < m.ways.length → w.cell? ⟨b, o + j * 5, none⟩ = some (.int .i64 (wy m.ways j).x) ∧ w.cell? ⟨b, o + j * 5 + 1, none⟩ = some (.int .i64 (wy m.ways j).y) ∧ w.cell? ⟨b, o + j * 5 + 2, none⟩ = some (.int .i64 (wy m.ways j).fix) ∧ w.cell? ⟨b, o + j * 5 + 3, none⟩ = some (.int .i64 (wy m.ways j).wait) ∧ w.cell? ⟨b, o + j * 5 + 4, none⟩ = some (.int .i64 (wy m.ways j).back) := by
            rcases hwH.out with h | h
            · rw [h] at h2; simp at h2; omega
            · exact h
          have f2 := (hB.cell (p := ⟨bw, ow + q * 5 + 2, none⟩) hbw).trans (hcw q (by omega)).2.2.1
          clear hcw
          have hql : q < m.ways.length := by omega
          have HO2 := HO.out
          rw [Int.toNat_natCast] at HO2
          have HOO := Lib.hid HO2
          clear HO2
          by_cases h3 : (wy m.ways q).fix = 0
          · have hno : Hid (stopsB m l = false) := stopsB_no hlt (fun h => (HOO.out.1 h).2.2 h3)
            rw [h3] at f2
            clear h3
            go_wp2
            go_ret2
            exact .inl ⟨hno.out, rfl, hB⟩
          · have d3 : ((wy m.ways q).fix == 0) = false := by simpa using h3
            have hyes : Hid (stopOk m l k) := HOO.out.2 ⟨h1, h2, h3⟩
            obtain ⟨n, D, hown, hn, hmp, hat⟩ := HS.out
            have HAT := Lib.hid hat
            have HMP := Lib.hid hmp
            have hn2 : n ≤ 70368744177663 := by have := List.length_take_le k l; omega
            have HN := Lib.hid hn
            have hwf : (Lit.int .i64 (q : Int)).wf = true := i64_wf (by omega) (by omega)
            clear h3 hat hmp hn
            go_wp2_with (at_mapUpdate; refine wpList_mapUpdate_own _ rfl _ _ _ 80 rfl 3 4 keyInt Try.underlying80 _ (w.heap.size + 1) n D rfl hown (by unfold maxLen; omega) _ _ (.int .i64 (q : Int)) rfl rfl (keyOf_int_mk Try.underlying3 hwf) (.lit (.bool true)) [] (plainElem_bool Try.underlying4 true) ?_; intro w1 hown1 hgrow1)
            go_roundw
            case rel =>
              have hB1 : Below w.heap.size w w1 := hB.grown hgrow1 (by omega) (fun j e => by cases e; omega)
              have hb2 : Below (w.heap.size + 1) wr w1 := (Below.refl _ wr).grown hgrow1 (by omega) (fun j e => by cases e; omega)
              refine ⟨k + 1, by omega, by go_num, by rw [HK.out.1], fun j hj => ?_, ?_, HH.out.below hb2 (by omega), hB1⟩
              · by_cases e : j = k
                · rw [e]; exact hyes.out
                · exact hall'.out j (by omega)
              · rw [HK.out.2.1]
                exact SetAt.put hwf HN.out HMP.out HAT.out hown1
            case measure => simp [intOf]; omega
        · have d2 : decide ((m.ways.length : Int) ≤ s) = true := by simp; omega
          have hno : Hid (stopsB m l = false) := stopsB_no hlt (fun h => h2 (HO.out.1 h).2.1)
          go_wp2
          go_ret2
          exact .inl ⟨hno.out, rfl, hB⟩
      · have d1 : decide (s ≤ p0) = true := by simp; omega
        have hno : Hid (stopsB m l = false) := stopsB_no hlt (fun h => h1 (HO.out.1 h).1)
        go_wp2
        go_ret2
        exact .inl ⟨hno.out, rfl, hB⟩
    · obtain rfl : k = l.length := by omega
      have hyes : Hid (stopsB m l = true) := by
        show stopsB m l = true
        simp only [stopsB, decide_eq_true_eq]
        exact hall'.out
      have hd : decide ((l.length : Int) < (l.length : Int)) = false := by simp
      go_wp2
      go_ret2
      refine .inr ⟨hyes.out, _, rfl, ?_, by omega, hB⟩
      have := HS.out
      rwa [List.take_length] at this
end Go.Proofs.Ytjnjmpakmgmdbaa
