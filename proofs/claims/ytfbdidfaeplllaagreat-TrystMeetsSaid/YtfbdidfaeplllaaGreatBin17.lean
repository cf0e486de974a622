/- package tryst: isNumber, on. | package tryst: on, of what is valid. -/
import Derived.Test.YtfbdidfaeplllaaGreatBin03
import Derived.Test.YtfbdidfaeplllaaGreatBin16
import Derived.Test.YtfbdidfaeplllaaGreatBin13
namespace Go.Proofs.YtfbdidfaeplllaaGreat
open Go.RowKit
attribute [local irreducible] wpQuiet

def numB (n most : Int) : Bool := decide (n ≥ 0) && decide (n ≤ most)
set_option maxHeartbeats 400000 in
set_option maxRecDepth 8000 in
theorem tnum_any (n most : Int) (w : World) :
    Calls Tryz.prog 43 #[.int .i64 n, .int .i64 most] w fun e w' => e = .returned (.bool (numB n most)) ∧ Below w.heap.size w w' := by
  unfold numB
  have B0 := Below.refl w.heap.size w
  cases d : decide (n ≥ 0)
  · go_enter Tryz.func43, Tryz.ntmps43
    go_wp2
    go_ret
    exact ⟨rfl, B0⟩
  · go_enter Tryz.func43, Tryz.ntmps43
    go_wp2
    go_ret
    exact ⟨rfl, B0⟩
/-- a vehicle's cells -/
def vehCells (m : Msn) (vw vh vr va vt : Value) : Array Value := #[vw, vh, .int .i64 m.start, vr, .int .i64 m.speed, .int .i64 m.part, .int .i64 m.flow, .int .i64 m.idle, .int .i64 m.drive, .int .i64 m.battery, .int .i64 m.deadline, va, vt]
def veh0 : Array Value := #[.slice none 0 0, .slice none 0 0, .int .i64 0, .slice none 0 0, .int .i64 0, .int .i64 0, .int .i64 0, .int .i64 0, .int .i64 0, .int .i64 0, .int .i64 0, .slice none 0 0, .slice none 0 0]
set_option linter.unusedSimpArgs false in
set_option linter.unusedVariables false in
set_option maxRecDepth 8000 in
set_option maxHeartbeats 1600000 in
theorem ton_no (m : Msn) (vw vh vr vl : Value) (l : List Int) (w : World) (hm : MsnAt w.heap.size w m vw vh vr) (hl : IntsAt w.heap.size w vl l) (hok : radOkB m l = false) :
    Calls Tryz.prog 41 #[.agg (msnCells m vw vh vr), vl] w fun e w' => e = .returned (.tuple #[.agg veh0, .bool false]) ∧ Below w.heap.size w w' := by
  have e1 : rdBL m l = [] := by simp [rdBL, hok]
  have e2 : rdAL m l = [] := by simp [rdAL, hok]
  have e3 : rdE m l = 1 := by simp [rdE, hok]
  have f3 := fun w1 h1 h2 => radii_all m vw vh vr vl l w1 h1 h2
  have M0 := Lib.hid hm
  have L0 := Lib.hid hl
  obtain ⟨⟨-, a1, cap1, rfl, -⟩, ⟨-, a2, cap2, rfl, -⟩, ⟨-, a3, cap3, rfl, -⟩⟩ := hm
  obtain ⟨-, al, capl, rfl, -⟩ := hl
  unfold msnCells at *
  have B0 := Lib.hid (Below.refl w.heap.size w)
  rw [e1, e2, e3] at f3
  replace f3 := Lib.hid f3
  clear e1 e2 e3 hok
  go_enter Tryz.func41, Tryz.ntmps41
  have q0 := Has.new w #[.slice a1 m.ways.length (m.ways.length + cap1), .slice a2 m.home.length (m.home.length + cap2), .int .i64 m.start, .slice a3 m.rocks.length (m.rocks.length + cap3), .int .i64 m.speed, .int .i64 m.part, .int .i64 m.flow, .int .i64 m.idle, .int .i64 m.drive, .int .i64 m.battery, .int .i64 m.deadline] 26
  have q0 := q0.below ((Below.refl (w.heap.size + 1) _).alloc (by simp) (.cells #[.slice none 0 0, .slice none 0 0, .int .i64 0, .slice none 0 0, .int .i64 0, .int .i64 0, .int .i64 0, .int .i64 0, .int .i64 0, .int .i64 0, .int .i64 0, .slice none 0 0, .slice none 0 0] 72)) (by omega)
  have q1 := Has.new (w.alloc (.cells #[.slice a1 m.ways.length (m.ways.length + cap1), .slice a2 m.home.length (m.home.length + cap2), .int .i64 m.start, .slice a3 m.rocks.length (m.rocks.length + cap3), .int .i64 m.speed, .int .i64 m.part, .int .i64 m.flow, .int .i64 m.idle, .int .i64 m.drive, .int .i64 m.battery, .int .i64 m.deadline] 26)) #[.slice none 0 0, .slice none 0 0, .int .i64 0, .slice none 0 0, .int .i64 0, .int .i64 0, .int .i64 0, .int .i64 0, .int .i64 0, .int .i64 0, .int .i64 0, .slice none 0 0, .slice none 0 0] 72
  rw [World.size_alloc] at q1
  go_wp2_with fail
  replace M0 := Lib.hid ((M0.out.below (((Below.refl w.heap.size w).alloc (Nat.le_refl _) (.cells #[.slice a1 m.ways.length (m.ways.length + cap1), .slice a2 m.home.length (m.home.length + cap2), .int .i64 m.start, .slice a3 m.rocks.length (m.rocks.length + cap3), .int .i64 m.speed, .int .i64 m.part, .int .i64 m.flow, .int .i64 m.idle, .int .i64 m.drive, .int .i64 m.battery, .int .i64 m.deadline] 26)).alloc (by simp) (.cells #[.slice none 0 0, .slice none 0 0, .int .i64 0, .slice none 0 0, .int .i64 0, .int .i64 0, .int .i64 0, .int .i64 0, .int .i64 0, .int .i64 0, .int .i64 0, .slice none 0 0, .slice none 0 0] 72))).mono (((Below.refl w.heap.size w).alloc (Nat.le_refl _) (.cells #[.slice a1 m.ways.length (m.ways.length + cap1), .slice a2 m.home.length (m.home.length + cap2), .int .i64 m.start, .slice a3 m.rocks.length (m.rocks.length + cap3), .int .i64 m.speed, .int .i64 m.part, .int .i64 m.flow, .int .i64 m.idle, .int .i64 m.drive, .int .i64 m.battery, .int .i64 m.deadline] 26)).alloc (by simp) (.cells #[.slice none 0 0, .slice none 0 0, .int .i64 0, .slice none 0 0, .int .i64 0, .int .i64 0, .int .i64 0, .int .i64 0, .int .i64 0, .int .i64 0, .int .i64 0, .slice none 0 0, .slice none 0 0] 72)).size)
  replace L0 := Lib.hid ((L0.out.below (((Below.refl w.heap.size w).alloc (Nat.le_refl _) (.cells #[.slice a1 m.ways.length (m.ways.length + cap1), .slice a2 m.home.length (m.home.length + cap2), .int .i64 m.start, .slice a3 m.rocks.length (m.rocks.length + cap3), .int .i64 m.speed, .int .i64 m.part, .int .i64 m.flow, .int .i64 m.idle, .int .i64 m.drive, .int .i64 m.battery, .int .i64 m.deadline] 26)).alloc (by simp) (.cells #[.slice none 0 0, .slice none 0 0, .int .i64 0, .slice none 0 0, .int .i64 0, .int .i64 0, .int .i64 0, .int .i64 0, .int .i64 0, .int .i64 0, .int .i64 0, .slice none 0 0, .slice none 0 0] 72))).mono (((Below.refl w.heap.size w).alloc (Nat.le_refl _) (.cells #[.slice a1 m.ways.length (m.ways.length + cap1), .slice a2 m.home.length (m.home.length + cap2), .int .i64 m.start, .slice a3 m.rocks.length (m.rocks.length + cap3), .int .i64 m.speed, .int .i64 m.part, .int .i64 m.flow, .int .i64 m.idle, .int .i64 m.drive, .int .i64 m.battery, .int .i64 m.deadline] 26)).alloc (by simp) (.cells #[.slice none 0 0, .slice none 0 0, .int .i64 0, .slice none 0 0, .int .i64 0, .int .i64 0, .int .i64 0, .int .i64 0, .int .i64 0, .int .i64 0, .int .i64 0, .slice none 0 0, .slice none 0 0] 72)).size)
  have MB := Lib.hid (show Has ((w.alloc (.cells #[.slice a1 m.ways.length (m.ways.length + cap1), .slice a2 m.home.length (m.home.length + cap2), .int .i64 m.start, .slice a3 m.rocks.length (m.rocks.length + cap3), .int .i64 m.speed, .int .i64 m.part, .int .i64 m.flow, .int .i64 m.idle, .int .i64 m.drive, .int .i64 m.battery, .int .i64 m.deadline] 26)).alloc (.cells #[.slice none 0 0, .slice none 0 0, .int .i64 0, .slice none 0 0, .int .i64 0, .int .i64 0, .int .i64 0, .int .i64 0, .int .i64 0, .int .i64 0, .int .i64 0, .slice none 0 0, .slice none 0 0] 72)) (w.heap.size) #[.slice a1 m.ways.length (m.ways.length + cap1), .slice a2 m.home.length (m.home.length + cap2), .int .i64 m.start, .slice a3 m.rocks.length (m.rocks.length + cap3), .int .i64 m.speed, .int .i64 m.part, .int .i64 m.flow, .int .i64 m.idle, .int .i64 m.drive, .int .i64 m.battery, .int .i64 m.deadline] 26 from q0)
  have RV := Lib.hid (show Has ((w.alloc (.cells #[.slice a1 m.ways.length (m.ways.length + cap1), .slice a2 m.home.length (m.home.length + cap2), .int .i64 m.start, .slice a3 m.rocks.length (m.rocks.length + cap3), .int .i64 m.speed, .int .i64 m.part, .int .i64 m.flow, .int .i64 m.idle, .int .i64 m.drive, .int .i64 m.battery, .int .i64 m.deadline] 26)).alloc (.cells #[.slice none 0 0, .slice none 0 0, .int .i64 0, .slice none 0 0, .int .i64 0, .int .i64 0, .int .i64 0, .int .i64 0, .int .i64 0, .int .i64 0, .int .i64 0, .slice none 0 0, .slice none 0 0] 72)) (w.heap.size + 1) #[.slice none 0 0, .slice none 0 0, .int .i64 0, .slice none 0 0, .int .i64 0, .int .i64 0, .int .i64 0, .int .i64 0, .int .i64 0, .int .i64 0, .int .i64 0, .slice none 0 0, .slice none 0 0] 72 from q1)
  have BX0 := Lib.hid (B0.out.trans (((((Below.refl w.heap.size w).alloc (Nat.le_refl _) (.cells #[.slice a1 m.ways.length (m.ways.length + cap1), .slice a2 m.home.length (m.home.length + cap2), .int .i64 m.start, .slice a3 m.rocks.length (m.rocks.length + cap3), .int .i64 m.speed, .int .i64 m.part, .int .i64 m.flow, .int .i64 m.idle, .int .i64 m.drive, .int .i64 m.battery, .int .i64 m.deadline] 26)).alloc (by simp) (.cells #[.slice none 0 0, .slice none 0 0, .int .i64 0, .slice none 0 0, .int .i64 0, .int .i64 0, .int .i64 0, .int .i64 0, .int .i64 0, .int .i64 0, .int .i64 0, .slice none 0 0, .slice none 0 0] 72))).mono B0.out.size))
  generalize hXX0 : ((w.alloc (.cells #[.slice a1 m.ways.length (m.ways.length + cap1), .slice a2 m.home.length (m.home.length + cap2), .int .i64 m.start, .slice a3 m.rocks.length (m.rocks.length + cap3), .int .i64 m.speed, .int .i64 m.part, .int .i64 m.flow, .int .i64 m.idle, .int .i64 m.drive, .int .i64 m.battery, .int .i64 m.deadline] 26)).alloc (.cells #[.slice none 0 0, .slice none 0 0, .int .i64 0, .slice none 0 0, .int .i64 0, .int .i64 0, .int .i64 0, .int .i64 0, .int .i64 0, .int .i64 0, .int .i64 0, .slice none 0 0, .slice none 0 0] 72)) = X0 at *
  clear hXX0
  obtain ⟨c0, c1, c2, c3, c4, c5, c6, c7, c8, c9, c10⟩ := msn_cells (m := m) MB.out
  clear q0 q1
  have hz0 := BX0.out.size
  refine (f3.out _ M0.out L0.out).mono ?_
  rintro e w1 ⟨v1, u1, rfl, p1, q1, b1⟩
  have B1 := Lib.hid (BX0.out.trans (b1.mono BX0.out.size))
  replace M0 := Lib.hid ((M0.out.below b1).mono b1.size)
  replace L0 := Lib.hid ((L0.out.below b1).mono b1.size)
  replace MB := Lib.hid (MB.out.below b1 MB.out.lt)
  replace RV := Lib.hid (RV.out.below b1 RV.out.lt)
  have BE := Lib.hid p1
  have AF := Lib.hid q1
  obtain ⟨-, ga1, gc1, hv1, -⟩ := p1
  obtain ⟨-, ga1', gc1', hv1', -⟩ := q1
  subst hv1
  subst hv1'
  clear b1
  clear c0 c1 c2 c3 c4 c5 c6 c7 c8 c9 c10
  obtain ⟨c0, c1, c2, c3, c4, c5, c6, c7, c8, c9, c10⟩ := msn_cells (m := m) MB.out
  have r0 := RV.out.cell (i := 0) rfl
  have z0 := cells_free RV.out 0
  have r1 := RV.out.cell (i := 1) rfl
  have z1 := cells_free RV.out 1
  have r2 := RV.out.cell (i := 2) rfl
  have z2 := cells_free RV.out 2
  have r3 := RV.out.cell (i := 3) rfl
  have z3 := cells_free RV.out 3
  have r4 := RV.out.cell (i := 4) rfl
  have z4 := cells_free RV.out 4
  have r5 := RV.out.cell (i := 5) rfl
  have z5 := cells_free RV.out 5
  have r6 := RV.out.cell (i := 6) rfl
  have z6 := cells_free RV.out 6
  have r7 := RV.out.cell (i := 7) rfl
  have z7 := cells_free RV.out 7
  have r8 := RV.out.cell (i := 8) rfl
  have z8 := cells_free RV.out 8
  have r9 := RV.out.cell (i := 9) rfl
  have z9 := cells_free RV.out 9
  have r10 := RV.out.cell (i := 10) rfl
  have z10 := cells_free RV.out 10
  have r11 := RV.out.cell (i := 11) rfl
  have z11 := cells_free RV.out 11
  have r12 := RV.out.cell (i := 12) rfl
  have z12 := cells_free RV.out 12
  go_wp2
  have HY0 := RV.out
  have BY := B1.out
  have HY1 := HY0.set 0 (.slice none 0 0)
  clear HY0
  replace BY := BY.setCell (p := ⟨w.heap.size + 1, 0, none⟩) (by simp) (.slice none 0 0)
  have HY2 := HY1.set 1 (.slice none 0 0)
  clear HY1
  replace BY := BY.setCell (p := ⟨w.heap.size + 1, 1, none⟩) (by simp) (.slice none 0 0)
  have HY3 := HY2.set 2 (.int .i64 0)
  clear HY2
  replace BY := BY.setCell (p := ⟨w.heap.size + 1, 2, none⟩) (by simp) (.int .i64 0)
  have HY4 := HY3.set 3 (.slice none 0 0)
  clear HY3
  replace BY := BY.setCell (p := ⟨w.heap.size + 1, 3, none⟩) (by simp) (.slice none 0 0)
  have HY5 := HY4.set 4 (.int .i64 0)
  clear HY4
  replace BY := BY.setCell (p := ⟨w.heap.size + 1, 4, none⟩) (by simp) (.int .i64 0)
  have HY6 := HY5.set 5 (.int .i64 0)
  clear HY5
  replace BY := BY.setCell (p := ⟨w.heap.size + 1, 5, none⟩) (by simp) (.int .i64 0)
  have HY7 := HY6.set 6 (.int .i64 0)
  clear HY6
  replace BY := BY.setCell (p := ⟨w.heap.size + 1, 6, none⟩) (by simp) (.int .i64 0)
  have HY8 := HY7.set 7 (.int .i64 0)
  clear HY7
  replace BY := BY.setCell (p := ⟨w.heap.size + 1, 7, none⟩) (by simp) (.int .i64 0)
  have HY9 := HY8.set 8 (.int .i64 0)
  clear HY8
  replace BY := BY.setCell (p := ⟨w.heap.size + 1, 8, none⟩) (by simp) (.int .i64 0)
  have HY10 := HY9.set 9 (.int .i64 0)
  clear HY9
  replace BY := BY.setCell (p := ⟨w.heap.size + 1, 9, none⟩) (by simp) (.int .i64 0)
  have HY11 := HY10.set 10 (.int .i64 0)
  clear HY10
  replace BY := BY.setCell (p := ⟨w.heap.size + 1, 10, none⟩) (by simp) (.int .i64 0)
  have HY12 := HY11.set 11 (.slice none 0 0)
  clear HY11
  replace BY := BY.setCell (p := ⟨w.heap.size + 1, 11, none⟩) (by simp) (.slice none 0 0)
  have HY13 := HY12.set 12 (.slice none 0 0)
  clear HY12
  replace BY := BY.setCell (p := ⟨w.heap.size + 1, 12, none⟩) (by simp) (.slice none 0 0)
  simp only [List.setIfInBounds_toArray, List.set_cons_zero, List.set_cons_succ] at HY13
  have HY : Has (((((((((((((w1.setCell ⟨w.heap.size + 1, 0, none⟩ (.slice none 0 0)).setCell ⟨w.heap.size + 1, 1, none⟩ (.slice none 0 0)).setCell ⟨w.heap.size + 1, 2, none⟩ (.int .i64 0)).setCell ⟨w.heap.size + 1, 3, none⟩ (.slice none 0 0)).setCell ⟨w.heap.size + 1, 4, none⟩ (.int .i64 0)).setCell ⟨w.heap.size + 1, 5, none⟩ (.int .i64 0)).setCell ⟨w.heap.size + 1, 6, none⟩ (.int .i64 0)).setCell ⟨w.heap.size + 1, 7, none⟩ (.int .i64 0)).setCell ⟨w.heap.size + 1, 8, none⟩ (.int .i64 0)).setCell ⟨w.heap.size + 1, 9, none⟩ (.int .i64 0)).setCell ⟨w.heap.size + 1, 10, none⟩ (.int .i64 0)).setCell ⟨w.heap.size + 1, 11, none⟩ (.slice none 0 0)).setCell ⟨w.heap.size + 1, 12, none⟩ (.slice none 0 0)) (w.heap.size + 1) #[.slice none 0 0, .slice none 0 0, .int .i64 0, .slice none 0 0, .int .i64 0, .int .i64 0, .int .i64 0, .int .i64 0, .int .i64 0, .int .i64 0, .int .i64 0, .slice none 0 0, .slice none 0 0] 72 := HY13
  clear r0 z0 r1 z1 r2 z2 r3 z3 r4 z4 r5 z5 r6 z6 r7 z7 r8 z8 r9 z9 r10 z10 r11 z11 r12 z12 HY13
  generalize hY : (((((((((((((w1.setCell ⟨w.heap.size + 1, 0, none⟩ (.slice none 0 0)).setCell ⟨w.heap.size + 1, 1, none⟩ (.slice none 0 0)).setCell ⟨w.heap.size + 1, 2, none⟩ (.int .i64 0)).setCell ⟨w.heap.size + 1, 3, none⟩ (.slice none 0 0)).setCell ⟨w.heap.size + 1, 4, none⟩ (.int .i64 0)).setCell ⟨w.heap.size + 1, 5, none⟩ (.int .i64 0)).setCell ⟨w.heap.size + 1, 6, none⟩ (.int .i64 0)).setCell ⟨w.heap.size + 1, 7, none⟩ (.int .i64 0)).setCell ⟨w.heap.size + 1, 8, none⟩ (.int .i64 0)).setCell ⟨w.heap.size + 1, 9, none⟩ (.int .i64 0)).setCell ⟨w.heap.size + 1, 10, none⟩ (.int .i64 0)).setCell ⟨w.heap.size + 1, 11, none⟩ (.slice none 0 0)).setCell ⟨w.heap.size + 1, 12, none⟩ (.slice none 0 0)) = Y at *
  clear hY
  have r0 : Y.cell? ⟨w.heap.size + 1, 0, none⟩ = some (.slice none 0 0) := HY.cell (i := 0) rfl
  have r1 : Y.cell? ⟨w.heap.size + 1, 1, none⟩ = some (.slice none 0 0) := HY.cell (i := 1) rfl
  have r2 : Y.cell? ⟨w.heap.size + 1, 2, none⟩ = some (.int .i64 0) := HY.cell (i := 2) rfl
  have r3 : Y.cell? ⟨w.heap.size + 1, 3, none⟩ = some (.slice none 0 0) := HY.cell (i := 3) rfl
  have r4 : Y.cell? ⟨w.heap.size + 1, 4, none⟩ = some (.int .i64 0) := HY.cell (i := 4) rfl
  have r5 : Y.cell? ⟨w.heap.size + 1, 5, none⟩ = some (.int .i64 0) := HY.cell (i := 5) rfl
  have r6 : Y.cell? ⟨w.heap.size + 1, 6, none⟩ = some (.int .i64 0) := HY.cell (i := 6) rfl
  have r7 : Y.cell? ⟨w.heap.size + 1, 7, none⟩ = some (.int .i64 0) := HY.cell (i := 7) rfl
  have r8 : Y.cell? ⟨w.heap.size + 1, 8, none⟩ = some (.int .i64 0) := HY.cell (i := 8) rfl
  have r9 : Y.cell? ⟨w.heap.size + 1, 9, none⟩ = some (.int .i64 0) := HY.cell (i := 9) rfl
  have r10 : Y.cell? ⟨w.heap.size + 1, 10, none⟩ = some (.int .i64 0) := HY.cell (i := 10) rfl
  have r11 : Y.cell? ⟨w.heap.size + 1, 11, none⟩ = some (.slice none 0 0) := HY.cell (i := 11) rfl
  have r12 : Y.cell? ⟨w.heap.size + 1, 12, none⟩ = some (.slice none 0 0) := HY.cell (i := 12) rfl
  refine bodyPost_ret (v := .tuple #[.agg veh0, .bool false]) (by simp [results, veh0, Tryz.f41, go_sem, r0, r1, r2, r3, r4, r5, r6, r7, r8, r9, r10, r11, r12]) rfl ⟨rfl, BY⟩
end Go.Proofs.YtfbdidfaeplllaaGreat

namespace Go.Proofs.YtfbdidfaeplllaaGreat
open Go.RowKit
attribute [local irreducible] wpQuiet

theorem IntsAt.off {W : World} {v : Value} {l : List Int} {base q i : Nat} (h : IntsAt W.heap.size W v l) (hn : NewI base v) (hq : q < base) (u : Value) : IntsAt (W.setCell ⟨q, i, none⟩ u).heap.size (W.setCell ⟨q, i, none⟩ u) v l := by
  obtain ⟨hl, a, cap, e, hc⟩ := h
  refine ⟨hl, a, cap, e, hc.imp id ?_⟩
  rintro ⟨b, o, e1, hb, hc⟩
  have hb2 : base ≤ b := hn b o _ _ (by rw [e, e1])
  refine ⟨b, o, e1, by rw [World.size_setCell]; exact hb, fun j hj => ?_⟩
  have hne : (⟨q, i, none⟩ : Addr) ≠ ⟨b, o + j, none⟩ := by intro h; simp only [Addr.mk.injEq] at h; omega
  rw [World.cell?_setCell_other]
  · exact hc j hj
  · exact hne
set_option linter.unusedSimpArgs false in
set_option linter.unusedVariables false in
set_option maxRecDepth 8000 in
set_option maxHeartbeats 3200000 in
theorem ton_yes (m : Msn) (vw vh vr vl : Value) (l : List Int) (w : World) (hm : MsnAt w.heap.size w m vw vh vr) (hl : IntsAt w.heap.size w vl l) (hok : radOkB m l = true) :
    Calls Tryz.prog 41 #[.agg (msnCells m vw vh vr), vl] w fun e w' => ∃ va vt, e = .returned (.tuple #[.agg (vehCells m vw vh vr va vt), .bool true]) ∧ IntsAt w'.heap.size w' va (rdAU m l) ∧ IntsAt w'.heap.size w' vt (usedT m l) ∧ Below w.heap.size w w' := by
  have hvs : validB m = true ∧ stopsB m l = true := by simpa [radOkB] using hok
  have f3 := fun w1 h1 h2 => radii_new m vw vh vr vl l w1 h1 h2 hvs.1 hvs.2
  have f4 := fun w1 h1 h2 => used_new m vw vh vr vl l w1 h1 h2 hvs.1 hvs.2
  have M0 := Lib.hid hm
  have L0 := Lib.hid hl
  obtain ⟨⟨-, a1, cap1, rfl, -⟩, ⟨-, a2, cap2, rfl, -⟩, ⟨-, a3, cap3, rfl, -⟩⟩ := hm
  obtain ⟨-, al, capl, rfl, -⟩ := hl
  unfold msnCells at *
  have B0 := Lib.hid (Below.refl w.heap.size w)
  generalize rdAU m l = la at *
  generalize rdBU m l = lb at *
  generalize usedT m l = lt at *
  generalize usedE m l = le at *
  replace f3 := Lib.hid f3
  replace f4 := Lib.hid f4
  clear hok hvs
  go_enter Tryz.func41, Tryz.ntmps41
  have q0 := Has.new w #[.slice a1 m.ways.length (m.ways.length + cap1), .slice a2 m.home.length (m.home.length + cap2), .int .i64 m.start, .slice a3 m.rocks.length (m.rocks.length + cap3), .int .i64 m.speed, .int .i64 m.part, .int .i64 m.flow, .int .i64 m.idle, .int .i64 m.drive, .int .i64 m.battery, .int .i64 m.deadline] 26
  have q0 := q0.below ((Below.refl (w.heap.size + 1) _).alloc (by simp) (.cells #[.slice none 0 0, .slice none 0 0, .int .i64 0, .slice none 0 0, .int .i64 0, .int .i64 0, .int .i64 0, .int .i64 0, .int .i64 0, .int .i64 0, .int .i64 0, .slice none 0 0, .slice none 0 0] 72)) (by omega)
  have q1 := Has.new (w.alloc (.cells #[.slice a1 m.ways.length (m.ways.length + cap1), .slice a2 m.home.length (m.home.length + cap2), .int .i64 m.start, .slice a3 m.rocks.length (m.rocks.length + cap3), .int .i64 m.speed, .int .i64 m.part, .int .i64 m.flow, .int .i64 m.idle, .int .i64 m.drive, .int .i64 m.battery, .int .i64 m.deadline] 26)) #[.slice none 0 0, .slice none 0 0, .int .i64 0, .slice none 0 0, .int .i64 0, .int .i64 0, .int .i64 0, .int .i64 0, .int .i64 0, .int .i64 0, .int .i64 0, .slice none 0 0, .slice none 0 0] 72
  rw [World.size_alloc] at q1
  go_wp2_with fail
  replace M0 := Lib.hid ((M0.out.below (((Below.refl w.heap.size w).alloc (Nat.le_refl _) (.cells #[.slice a1 m.ways.length (m.ways.length + cap1), .slice a2 m.home.length (m.home.length + cap2), .int .i64 m.start, .slice a3 m.rocks.length (m.rocks.length + cap3), .int .i64 m.speed, .int .i64 m.part, .int .i64 m.flow, .int .i64 m.idle, .int .i64 m.drive, .int .i64 m.battery, .int .i64 m.deadline] 26)).alloc (by simp) (.cells #[.slice none 0 0, .slice none 0 0, .int .i64 0, .slice none 0 0, .int .i64 0, .int .i64 0, .int .i64 0, .int .i64 0, .int .i64 0, .int .i64 0, .int .i64 0, .slice none 0 0, .slice none 0 0] 72))).mono (((Below.refl w.heap.size w).alloc (Nat.le_refl _) (.cells #[.slice a1 m.ways.length (m.ways.length + cap1), .slice a2 m.home.length (m.home.length + cap2), .int .i64 m.start, .slice a3 m.rocks.length (m.rocks.length + cap3), .int .i64 m.speed, .int .i64 m.part, .int .i64 m.flow, .int .i64 m.idle, .int .i64 m.drive, .int .i64 m.battery, .int .i64 m.deadline] 26)).alloc (by simp) (.cells #[.slice none 0 0, .slice none 0 0, .int .i64 0, .slice none 0 0, .int .i64 0, .int .i64 0, .int .i64 0, .int .i64 0, .int .i64 0, .int .i64 0, .int .i64 0, .slice none 0 0, .slice none 0 0] 72)).size)
  replace L0 := Lib.hid ((L0.out.below (((Below.refl w.heap.size w).alloc (Nat.le_refl _) (.cells #[.slice a1 m.ways.length (m.ways.length + cap1), .slice a2 m.home.length (m.home.length + cap2), .int .i64 m.start, .slice a3 m.rocks.length (m.rocks.length + cap3), .int .i64 m.speed, .int .i64 m.part, .int .i64 m.flow, .int .i64 m.idle, .int .i64 m.drive, .int .i64 m.battery, .int .i64 m.deadline] 26)).alloc (by simp) (.cells #[.slice none 0 0, .slice none 0 0, .int .i64 0, .slice none 0 0, .int .i64 0, .int .i64 0, .int .i64 0, .int .i64 0, .int .i64 0, .int .i64 0, .int .i64 0, .slice none 0 0, .slice none 0 0] 72))).mono (((Below.refl w.heap.size w).alloc (Nat.le_refl _) (.cells #[.slice a1 m.ways.length (m.ways.length + cap1), .slice a2 m.home.length (m.home.length + cap2), .int .i64 m.start, .slice a3 m.rocks.length (m.rocks.length + cap3), .int .i64 m.speed, .int .i64 m.part, .int .i64 m.flow, .int .i64 m.idle, .int .i64 m.drive, .int .i64 m.battery, .int .i64 m.deadline] 26)).alloc (by simp) (.cells #[.slice none 0 0, .slice none 0 0, .int .i64 0, .slice none 0 0, .int .i64 0, .int .i64 0, .int .i64 0, .int .i64 0, .int .i64 0, .int .i64 0, .int .i64 0, .slice none 0 0, .slice none 0 0] 72)).size)
  have MB := Lib.hid (show Has ((w.alloc (.cells #[.slice a1 m.ways.length (m.ways.length + cap1), .slice a2 m.home.length (m.home.length + cap2), .int .i64 m.start, .slice a3 m.rocks.length (m.rocks.length + cap3), .int .i64 m.speed, .int .i64 m.part, .int .i64 m.flow, .int .i64 m.idle, .int .i64 m.drive, .int .i64 m.battery, .int .i64 m.deadline] 26)).alloc (.cells #[.slice none 0 0, .slice none 0 0, .int .i64 0, .slice none 0 0, .int .i64 0, .int .i64 0, .int .i64 0, .int .i64 0, .int .i64 0, .int .i64 0, .int .i64 0, .slice none 0 0, .slice none 0 0] 72)) (w.heap.size) #[.slice a1 m.ways.length (m.ways.length + cap1), .slice a2 m.home.length (m.home.length + cap2), .int .i64 m.start, .slice a3 m.rocks.length (m.rocks.length + cap3), .int .i64 m.speed, .int .i64 m.part, .int .i64 m.flow, .int .i64 m.idle, .int .i64 m.drive, .int .i64 m.battery, .int .i64 m.deadline] 26 from q0)
  have RV := Lib.hid (show Has ((w.alloc (.cells #[.slice a1 m.ways.length (m.ways.length + cap1), .slice a2 m.home.length (m.home.length + cap2), .int .i64 m.start, .slice a3 m.rocks.length (m.rocks.length + cap3), .int .i64 m.speed, .int .i64 m.part, .int .i64 m.flow, .int .i64 m.idle, .int .i64 m.drive, .int .i64 m.battery, .int .i64 m.deadline] 26)).alloc (.cells #[.slice none 0 0, .slice none 0 0, .int .i64 0, .slice none 0 0, .int .i64 0, .int .i64 0, .int .i64 0, .int .i64 0, .int .i64 0, .int .i64 0, .int .i64 0, .slice none 0 0, .slice none 0 0] 72)) (w.heap.size + 1) #[.slice none 0 0, .slice none 0 0, .int .i64 0, .slice none 0 0, .int .i64 0, .int .i64 0, .int .i64 0, .int .i64 0, .int .i64 0, .int .i64 0, .int .i64 0, .slice none 0 0, .slice none 0 0] 72 from q1)
  have BX0 := Lib.hid (B0.out.trans (((((Below.refl w.heap.size w).alloc (Nat.le_refl _) (.cells #[.slice a1 m.ways.length (m.ways.length + cap1), .slice a2 m.home.length (m.home.length + cap2), .int .i64 m.start, .slice a3 m.rocks.length (m.rocks.length + cap3), .int .i64 m.speed, .int .i64 m.part, .int .i64 m.flow, .int .i64 m.idle, .int .i64 m.drive, .int .i64 m.battery, .int .i64 m.deadline] 26)).alloc (by simp) (.cells #[.slice none 0 0, .slice none 0 0, .int .i64 0, .slice none 0 0, .int .i64 0, .int .i64 0, .int .i64 0, .int .i64 0, .int .i64 0, .int .i64 0, .int .i64 0, .slice none 0 0, .slice none 0 0] 72))).mono B0.out.size))
  generalize hXX0 : ((w.alloc (.cells #[.slice a1 m.ways.length (m.ways.length + cap1), .slice a2 m.home.length (m.home.length + cap2), .int .i64 m.start, .slice a3 m.rocks.length (m.rocks.length + cap3), .int .i64 m.speed, .int .i64 m.part, .int .i64 m.flow, .int .i64 m.idle, .int .i64 m.drive, .int .i64 m.battery, .int .i64 m.deadline] 26)).alloc (.cells #[.slice none 0 0, .slice none 0 0, .int .i64 0, .slice none 0 0, .int .i64 0, .int .i64 0, .int .i64 0, .int .i64 0, .int .i64 0, .int .i64 0, .int .i64 0, .slice none 0 0, .slice none 0 0] 72)) = X0 at *
  clear hXX0
  obtain ⟨c0, c1, c2, c3, c4, c5, c6, c7, c8, c9, c10⟩ := msn_cells (m := m) MB.out
  clear q0 q1
  have hz0 := BX0.out.size
  have hR := RV.out.lt
  refine (f3.out _ M0.out L0.out).mono ?_
  rintro e w1 ⟨v1, u1, rfl, p1, q1, b1, -, n1⟩
  have B1 := Lib.hid (BX0.out.trans (b1.mono BX0.out.size))
  replace M0 := Lib.hid ((M0.out.below b1).mono b1.size)
  replace L0 := Lib.hid ((L0.out.below b1).mono b1.size)
  replace MB := Lib.hid (MB.out.below b1 MB.out.lt)
  replace RV := Lib.hid (RV.out.below b1 RV.out.lt)
  obtain ⟨-, ga1, gc1, hv1, -⟩ := p1
  have AF := Lib.hid q1
  obtain ⟨-, ga1', gc1', hv1', -⟩ := q1
  subst hv1
  subst hv1'
  have NF := Lib.hid n1
  clear n1
  clear b1
  clear c0 c1 c2 c3 c4 c5 c6 c7 c8 c9 c10
  obtain ⟨c0, c1, c2, c3, c4, c5, c6, c7, c8, c9, c10⟩ := msn_cells (m := m) MB.out
  have hz1 := RV.out.lt
  go_wp2_with fail
  refine (f4.out _ M0.out L0.out).mono ?_
  rintro e w2 ⟨v2, u2, rfl, p2, q2, b2, n2, -⟩
  have B2 := Lib.hid (B1.out.trans (b2.mono B1.out.size))
  replace M0 := Lib.hid ((M0.out.below b2).mono b2.size)
  replace L0 := Lib.hid ((L0.out.below b2).mono b2.size)
  replace MB := Lib.hid (MB.out.below b2 MB.out.lt)
  replace RV := Lib.hid (RV.out.below b2 RV.out.lt)
  replace AF := Lib.hid ((AF.out.below b2).mono b2.size)
  obtain ⟨-, ga2, gc2, hv2, -⟩ := q2
  have TI := Lib.hid p2
  obtain ⟨-, ga2', gc2', hv2', -⟩ := p2
  subst hv2
  subst hv2'
  have NT := Lib.hid n2
  clear n2
  clear b2
  clear c0 c1 c2 c3 c4 c5 c6 c7 c8 c9 c10
  obtain ⟨c0, c1, c2, c3, c4, c5, c6, c7, c8, c9, c10⟩ := msn_cells (m := m) MB.out
  skip
  have QA := AF.out
  have QT := TI.out
  have r0 := RV.out.cell (i := 0) rfl
  have z0 := cells_free RV.out 0
  have r1 := RV.out.cell (i := 1) rfl
  have z1 := cells_free RV.out 1
  have r2 := RV.out.cell (i := 2) rfl
  have z2 := cells_free RV.out 2
  have r3 := RV.out.cell (i := 3) rfl
  have z3 := cells_free RV.out 3
  have r4 := RV.out.cell (i := 4) rfl
  have z4 := cells_free RV.out 4
  have r5 := RV.out.cell (i := 5) rfl
  have z5 := cells_free RV.out 5
  have r6 := RV.out.cell (i := 6) rfl
  have z6 := cells_free RV.out 6
  have r7 := RV.out.cell (i := 7) rfl
  have z7 := cells_free RV.out 7
  have r8 := RV.out.cell (i := 8) rfl
  have z8 := cells_free RV.out 8
  have r9 := RV.out.cell (i := 9) rfl
  have z9 := cells_free RV.out 9
  have r10 := RV.out.cell (i := 10) rfl
  have z10 := cells_free RV.out 10
  have r11 := RV.out.cell (i := 11) rfl
  have z11 := cells_free RV.out 11
  have r12 := RV.out.cell (i := 12) rfl
  have z12 := cells_free RV.out 12
  go_wp2
  have HY0 := RV.out
  have BY := B2.out
  have HY1 := HY0.set 0 (.slice a1 m.ways.length (m.ways.length + cap1))
  clear HY0
  replace BY := BY.setCell (p := ⟨w.heap.size + 1, 0, none⟩) (by simp) (.slice a1 m.ways.length (m.ways.length + cap1))
  replace QA := QA.off (i := 0) NF.out (q := w.heap.size + 1) (by omega) (.slice a1 m.ways.length (m.ways.length + cap1))
  replace QT := QT.off (i := 0) NT.out (q := w.heap.size + 1) (by omega) (.slice a1 m.ways.length (m.ways.length + cap1))
  have HY2 := HY1.set 1 (.slice a2 m.home.length (m.home.length + cap2))
  clear HY1
  replace BY := BY.setCell (p := ⟨w.heap.size + 1, 1, none⟩) (by simp) (.slice a2 m.home.length (m.home.length + cap2))
  replace QA := QA.off (i := 1) NF.out (q := w.heap.size + 1) (by omega) (.slice a2 m.home.length (m.home.length + cap2))
  replace QT := QT.off (i := 1) NT.out (q := w.heap.size + 1) (by omega) (.slice a2 m.home.length (m.home.length + cap2))
  have HY3 := HY2.set 2 (.int .i64 m.start)
  clear HY2
  replace BY := BY.setCell (p := ⟨w.heap.size + 1, 2, none⟩) (by simp) (.int .i64 m.start)
  replace QA := QA.off (i := 2) NF.out (q := w.heap.size + 1) (by omega) (.int .i64 m.start)
  replace QT := QT.off (i := 2) NT.out (q := w.heap.size + 1) (by omega) (.int .i64 m.start)
  have HY4 := HY3.set 3 (.slice a3 m.rocks.length (m.rocks.length + cap3))
  clear HY3
  replace BY := BY.setCell (p := ⟨w.heap.size + 1, 3, none⟩) (by simp) (.slice a3 m.rocks.length (m.rocks.length + cap3))
  replace QA := QA.off (i := 3) NF.out (q := w.heap.size + 1) (by omega) (.slice a3 m.rocks.length (m.rocks.length + cap3))
  replace QT := QT.off (i := 3) NT.out (q := w.heap.size + 1) (by omega) (.slice a3 m.rocks.length (m.rocks.length + cap3))
  have HY5 := HY4.set 4 (.int .i64 m.speed)
  clear HY4
  replace BY := BY.setCell (p := ⟨w.heap.size + 1, 4, none⟩) (by simp) (.int .i64 m.speed)
  replace QA := QA.off (i := 4) NF.out (q := w.heap.size + 1) (by omega) (.int .i64 m.speed)
  replace QT := QT.off (i := 4) NT.out (q := w.heap.size + 1) (by omega) (.int .i64 m.speed)
  have HY6 := HY5.set 5 (.int .i64 m.part)
  clear HY5
  replace BY := BY.setCell (p := ⟨w.heap.size + 1, 5, none⟩) (by simp) (.int .i64 m.part)
  replace QA := QA.off (i := 5) NF.out (q := w.heap.size + 1) (by omega) (.int .i64 m.part)
  replace QT := QT.off (i := 5) NT.out (q := w.heap.size + 1) (by omega) (.int .i64 m.part)
  have HY7 := HY6.set 6 (.int .i64 m.flow)
  clear HY6
  replace BY := BY.setCell (p := ⟨w.heap.size + 1, 6, none⟩) (by simp) (.int .i64 m.flow)
  replace QA := QA.off (i := 6) NF.out (q := w.heap.size + 1) (by omega) (.int .i64 m.flow)
  replace QT := QT.off (i := 6) NT.out (q := w.heap.size + 1) (by omega) (.int .i64 m.flow)
  have HY8 := HY7.set 7 (.int .i64 m.idle)
  clear HY7
  replace BY := BY.setCell (p := ⟨w.heap.size + 1, 7, none⟩) (by simp) (.int .i64 m.idle)
  replace QA := QA.off (i := 7) NF.out (q := w.heap.size + 1) (by omega) (.int .i64 m.idle)
  replace QT := QT.off (i := 7) NT.out (q := w.heap.size + 1) (by omega) (.int .i64 m.idle)
  have HY9 := HY8.set 8 (.int .i64 m.drive)
  clear HY8
  replace BY := BY.setCell (p := ⟨w.heap.size + 1, 8, none⟩) (by simp) (.int .i64 m.drive)
  replace QA := QA.off (i := 8) NF.out (q := w.heap.size + 1) (by omega) (.int .i64 m.drive)
  replace QT := QT.off (i := 8) NT.out (q := w.heap.size + 1) (by omega) (.int .i64 m.drive)
  have HY10 := HY9.set 9 (.int .i64 m.battery)
  clear HY9
  replace BY := BY.setCell (p := ⟨w.heap.size + 1, 9, none⟩) (by simp) (.int .i64 m.battery)
  replace QA := QA.off (i := 9) NF.out (q := w.heap.size + 1) (by omega) (.int .i64 m.battery)
  replace QT := QT.off (i := 9) NT.out (q := w.heap.size + 1) (by omega) (.int .i64 m.battery)
  have HY11 := HY10.set 10 (.int .i64 m.deadline)
  clear HY10
  replace BY := BY.setCell (p := ⟨w.heap.size + 1, 10, none⟩) (by simp) (.int .i64 m.deadline)
  replace QA := QA.off (i := 10) NF.out (q := w.heap.size + 1) (by omega) (.int .i64 m.deadline)
  replace QT := QT.off (i := 10) NT.out (q := w.heap.size + 1) (by omega) (.int .i64 m.deadline)
  have HY12 := HY11.set 11 (.slice ga1' la.length (la.length + gc1'))
  clear HY11
  replace BY := BY.setCell (p := ⟨w.heap.size + 1, 11, none⟩) (by simp) (.slice ga1' la.length (la.length + gc1'))
  replace QA := QA.off (i := 11) NF.out (q := w.heap.size + 1) (by omega) (.slice ga1' la.length (la.length + gc1'))
  replace QT := QT.off (i := 11) NT.out (q := w.heap.size + 1) (by omega) (.slice ga1' la.length (la.length + gc1'))
  have HY13 := HY12.set 12 (.slice ga2' lt.length (lt.length + gc2'))
  clear HY12
  replace BY := BY.setCell (p := ⟨w.heap.size + 1, 12, none⟩) (by simp) (.slice ga2' lt.length (lt.length + gc2'))
  replace QA := QA.off (i := 12) NF.out (q := w.heap.size + 1) (by omega) (.slice ga2' lt.length (lt.length + gc2'))
  replace QT := QT.off (i := 12) NT.out (q := w.heap.size + 1) (by omega) (.slice ga2' lt.length (lt.length + gc2'))
  simp only [List.setIfInBounds_toArray, List.set_cons_zero, List.set_cons_succ] at HY13
  have HY : Has (((((((((((((w2.setCell ⟨w.heap.size + 1, 0, none⟩ (.slice a1 m.ways.length (m.ways.length + cap1))).setCell ⟨w.heap.size + 1, 1, none⟩ (.slice a2 m.home.length (m.home.length + cap2))).setCell ⟨w.heap.size + 1, 2, none⟩ (.int .i64 m.start)).setCell ⟨w.heap.size + 1, 3, none⟩ (.slice a3 m.rocks.length (m.rocks.length + cap3))).setCell ⟨w.heap.size + 1, 4, none⟩ (.int .i64 m.speed)).setCell ⟨w.heap.size + 1, 5, none⟩ (.int .i64 m.part)).setCell ⟨w.heap.size + 1, 6, none⟩ (.int .i64 m.flow)).setCell ⟨w.heap.size + 1, 7, none⟩ (.int .i64 m.idle)).setCell ⟨w.heap.size + 1, 8, none⟩ (.int .i64 m.drive)).setCell ⟨w.heap.size + 1, 9, none⟩ (.int .i64 m.battery)).setCell ⟨w.heap.size + 1, 10, none⟩ (.int .i64 m.deadline)).setCell ⟨w.heap.size + 1, 11, none⟩ (.slice ga1' la.length (la.length + gc1'))).setCell ⟨w.heap.size + 1, 12, none⟩ (.slice ga2' lt.length (lt.length + gc2'))) (w.heap.size + 1) #[.slice a1 m.ways.length (m.ways.length + cap1), .slice a2 m.home.length (m.home.length + cap2), .int .i64 m.start, .slice a3 m.rocks.length (m.rocks.length + cap3), .int .i64 m.speed, .int .i64 m.part, .int .i64 m.flow, .int .i64 m.idle, .int .i64 m.drive, .int .i64 m.battery, .int .i64 m.deadline, .slice ga1' la.length (la.length + gc1'), .slice ga2' lt.length (lt.length + gc2')] 72 := HY13
  clear r0 z0 r1 z1 r2 z2 r3 z3 r4 z4 r5 z5 r6 z6 r7 z7 r8 z8 r9 z9 r10 z10 r11 z11 r12 z12 HY13
  generalize hY : (((((((((((((w2.setCell ⟨w.heap.size + 1, 0, none⟩ (.slice a1 m.ways.length (m.ways.length + cap1))).setCell ⟨w.heap.size + 1, 1, none⟩ (.slice a2 m.home.length (m.home.length + cap2))).setCell ⟨w.heap.size + 1, 2, none⟩ (.int .i64 m.start)).setCell ⟨w.heap.size + 1, 3, none⟩ (.slice a3 m.rocks.length (m.rocks.length + cap3))).setCell ⟨w.heap.size + 1, 4, none⟩ (.int .i64 m.speed)).setCell ⟨w.heap.size + 1, 5, none⟩ (.int .i64 m.part)).setCell ⟨w.heap.size + 1, 6, none⟩ (.int .i64 m.flow)).setCell ⟨w.heap.size + 1, 7, none⟩ (.int .i64 m.idle)).setCell ⟨w.heap.size + 1, 8, none⟩ (.int .i64 m.drive)).setCell ⟨w.heap.size + 1, 9, none⟩ (.int .i64 m.battery)).setCell ⟨w.heap.size + 1, 10, none⟩ (.int .i64 m.deadline)).setCell ⟨w.heap.size + 1, 11, none⟩ (.slice ga1' la.length (la.length + gc1'))).setCell ⟨w.heap.size + 1, 12, none⟩ (.slice ga2' lt.length (lt.length + gc2'))) = Y at *
  clear hY
  have r0 : Y.cell? ⟨w.heap.size + 1, 0, none⟩ = some (.slice a1 m.ways.length (m.ways.length + cap1)) := HY.cell (i := 0) rfl
  have r1 : Y.cell? ⟨w.heap.size + 1, 1, none⟩ = some (.slice a2 m.home.length (m.home.length + cap2)) := HY.cell (i := 1) rfl
  have r2 : Y.cell? ⟨w.heap.size + 1, 2, none⟩ = some (.int .i64 m.start) := HY.cell (i := 2) rfl
  have r3 : Y.cell? ⟨w.heap.size + 1, 3, none⟩ = some (.slice a3 m.rocks.length (m.rocks.length + cap3)) := HY.cell (i := 3) rfl
  have r4 : Y.cell? ⟨w.heap.size + 1, 4, none⟩ = some (.int .i64 m.speed) := HY.cell (i := 4) rfl
  have r5 : Y.cell? ⟨w.heap.size + 1, 5, none⟩ = some (.int .i64 m.part) := HY.cell (i := 5) rfl
  have r6 : Y.cell? ⟨w.heap.size + 1, 6, none⟩ = some (.int .i64 m.flow) := HY.cell (i := 6) rfl
  have r7 : Y.cell? ⟨w.heap.size + 1, 7, none⟩ = some (.int .i64 m.idle) := HY.cell (i := 7) rfl
  have r8 : Y.cell? ⟨w.heap.size + 1, 8, none⟩ = some (.int .i64 m.drive) := HY.cell (i := 8) rfl
  have r9 : Y.cell? ⟨w.heap.size + 1, 9, none⟩ = some (.int .i64 m.battery) := HY.cell (i := 9) rfl
  have r10 : Y.cell? ⟨w.heap.size + 1, 10, none⟩ = some (.int .i64 m.deadline) := HY.cell (i := 10) rfl
  have r11 : Y.cell? ⟨w.heap.size + 1, 11, none⟩ = some (.slice ga1' la.length (la.length + gc1')) := HY.cell (i := 11) rfl
  have r12 : Y.cell? ⟨w.heap.size + 1, 12, none⟩ = some (.slice ga2' lt.length (lt.length + gc2')) := HY.cell (i := 12) rfl
  have hnil := BY
  refine bodyPost_ret (v := .tuple #[.agg (vehCells m _ _ _ _ _), .bool true]) (by simp [results, vehCells, Tryz.f41, go_sem, r0, r1, r2, r3, r4, r5, r6, r7, r8, r9, r10, r11, r12]) rfl ⟨_, _, rfl, QA, QT, BY⟩
end Go.Proofs.YtfbdidfaeplllaaGreat
