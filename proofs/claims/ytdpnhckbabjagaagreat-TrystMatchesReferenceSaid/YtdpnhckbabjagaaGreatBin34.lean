/- landfallref38: Meets, Ways, Same. -/
import Derived.Test.YtdpnhckbabjagaaGreatBin31
import Derived.Test.YtdpnhckbabjagaaGreatBin33
namespace Go.Proofs.YtdpnhckbabjagaaGreat
open Go.RowKit
attribute [local irreducible] wpQuiet

set_option linter.unusedSimpArgs false in
set_option linter.unusedVariables false in
set_option maxRecDepth 8000 in
set_option maxHeartbeats 3200000 in
theorem rmeets_any (m o : Msn) (vw vh vr vl vwo vho vro vlo : Value) (l lo : List Int) (a b R Wt : Int) (w : World) (hm : MsnAt w.heap.size w m vw vh vr) (hl : IntsAt w.heap.size w vl l) (hmo : MsnAt w.heap.size w o vwo vho vro) (hlo : IntsAt w.heap.size w vlo lo) :
    Calls Tryz.prog 16 #[.agg (msnCells m vw vh vr), .agg (msnCells o vwo vho vro), vl, vlo, .agg #[.int .i64 a, .int .i64 b, .int .i64 R, .int .i64 Wt]] w fun e w' => e = .returned (.tuple #[.bool (askB m l o lo a b R Wt && meetB m l o lo a.toNat b.toNat R Wt), .int .i64 (errB (askB m l o lo a b R Wt))]) ∧ Below w.heap.size w w' := by
  have f1 := fun w1 h1 h2 => rplanned_any m vw vh vr vl l w1 h1 h2
  have f2 := fun w1 h1 h2 => rplanned_any o vwo vho vro vlo lo w1 h1 h2
  have fr := fun w1 => rnum38_any R w1
  have fw := fun w1 => rnum38_any Wt w1
  have FM := Lib.hid (fun (h1 : radOkB m l = true) (h2 : radOkB o lo = true) (p q : Nat) hp hq w1 g1 g2 g3 g4 => rmeet38_any m o vw vh vr vl vwo vho vro vlo l lo p q R Wt hp hq h1 h2 w1 g1 g2 g3 g4)
  have MM := Lib.hid hm
  have ML := Lib.hid hl
  have OM := Lib.hid hmo
  have OL := Lib.hid hlo
  obtain ⟨⟨-, a1, c1, rfl, -⟩, ⟨-, a2, c2, rfl, -⟩, ⟨-, a3, c3, rfl, -⟩⟩ := hm
  obtain ⟨⟨-, a1o, c1o, rfl, -⟩, ⟨-, a2o, c2o, rfl, -⟩, ⟨-, a3o, c3o, rfl, -⟩⟩ := hmo
  obtain ⟨-, al, cl, rfl, -⟩ := hl
  obtain ⟨-, alo, clo, rfl, -⟩ := hlo
  unfold msnCells at *
  unfold askB
  generalize numB R 100000 = b5 at *
  generalize numB Wt 100000 = b6 at *
  replace f1 := Lib.hid f1
  replace f2 := Lib.hid f2
  replace fr := Lib.hid fr
  replace fw := Lib.hid fw
  have B0 := Lib.hid (Below.refl w.heap.size w)
  go_enter Tryz.func16, Tryz.ntmps16
  have q0 := Has.new w #[.slice a1 m.ways.length (m.ways.length + c1), .slice a2 m.home.length (m.home.length + c2), .int .i64 m.start, .slice a3 m.rocks.length (m.rocks.length + c3), .int .i64 m.speed, .int .i64 m.part, .int .i64 m.flow, .int .i64 m.idle, .int .i64 m.drive, .int .i64 m.battery, .int .i64 m.deadline] 26
  have q0 := q0.below ((Below.refl (w.heap.size + 1) _).alloc (by simp) (.cells #[.slice a1o o.ways.length (o.ways.length + c1o), .slice a2o o.home.length (o.home.length + c2o), .int .i64 o.start, .slice a3o o.rocks.length (o.rocks.length + c3o), .int .i64 o.speed, .int .i64 o.part, .int .i64 o.flow, .int .i64 o.idle, .int .i64 o.drive, .int .i64 o.battery, .int .i64 o.deadline] 26)) (by omega)
  have q0 := q0.below ((Below.refl (w.heap.size + 2) _).alloc (by simp) (.cells #[.int .i64 a, .int .i64 b, .int .i64 R, .int .i64 Wt] 29)) (by omega)
  have q1 := Has.new (w.alloc (.cells #[.slice a1 m.ways.length (m.ways.length + c1), .slice a2 m.home.length (m.home.length + c2), .int .i64 m.start, .slice a3 m.rocks.length (m.rocks.length + c3), .int .i64 m.speed, .int .i64 m.part, .int .i64 m.flow, .int .i64 m.idle, .int .i64 m.drive, .int .i64 m.battery, .int .i64 m.deadline] 26)) #[.slice a1o o.ways.length (o.ways.length + c1o), .slice a2o o.home.length (o.home.length + c2o), .int .i64 o.start, .slice a3o o.rocks.length (o.rocks.length + c3o), .int .i64 o.speed, .int .i64 o.part, .int .i64 o.flow, .int .i64 o.idle, .int .i64 o.drive, .int .i64 o.battery, .int .i64 o.deadline] 26
  rw [World.size_alloc] at q1
  have q1 := q1.below ((Below.refl (w.heap.size + 2) _).alloc (by simp) (.cells #[.int .i64 a, .int .i64 b, .int .i64 R, .int .i64 Wt] 29)) (by omega)
  have q2 := Has.new ((w.alloc (.cells #[.slice a1 m.ways.length (m.ways.length + c1), .slice a2 m.home.length (m.home.length + c2), .int .i64 m.start, .slice a3 m.rocks.length (m.rocks.length + c3), .int .i64 m.speed, .int .i64 m.part, .int .i64 m.flow, .int .i64 m.idle, .int .i64 m.drive, .int .i64 m.battery, .int .i64 m.deadline] 26)).alloc (.cells #[.slice a1o o.ways.length (o.ways.length + c1o), .slice a2o o.home.length (o.home.length + c2o), .int .i64 o.start, .slice a3o o.rocks.length (o.rocks.length + c3o), .int .i64 o.speed, .int .i64 o.part, .int .i64 o.flow, .int .i64 o.idle, .int .i64 o.drive, .int .i64 o.battery, .int .i64 o.deadline] 26)) #[.int .i64 a, .int .i64 b, .int .i64 R, .int .i64 Wt] 29
  rw [World.size_alloc, World.size_alloc] at q2
  go_wp2_with fail
  replace MM := Lib.hid ((MM.out.below ((((Below.refl w.heap.size w).alloc (Nat.le_refl _) (.cells #[.slice a1 m.ways.length (m.ways.length + c1), .slice a2 m.home.length (m.home.length + c2), .int .i64 m.start, .slice a3 m.rocks.length (m.rocks.length + c3), .int .i64 m.speed, .int .i64 m.part, .int .i64 m.flow, .int .i64 m.idle, .int .i64 m.drive, .int .i64 m.battery, .int .i64 m.deadline] 26)).alloc (by simp) (.cells #[.slice a1o o.ways.length (o.ways.length + c1o), .slice a2o o.home.length (o.home.length + c2o), .int .i64 o.start, .slice a3o o.rocks.length (o.rocks.length + c3o), .int .i64 o.speed, .int .i64 o.part, .int .i64 o.flow, .int .i64 o.idle, .int .i64 o.drive, .int .i64 o.battery, .int .i64 o.deadline] 26)).alloc (by simp; omega) (.cells #[.int .i64 a, .int .i64 b, .int .i64 R, .int .i64 Wt] 29))).mono ((((Below.refl w.heap.size w).alloc (Nat.le_refl _) (.cells #[.slice a1 m.ways.length (m.ways.length + c1), .slice a2 m.home.length (m.home.length + c2), .int .i64 m.start, .slice a3 m.rocks.length (m.rocks.length + c3), .int .i64 m.speed, .int .i64 m.part, .int .i64 m.flow, .int .i64 m.idle, .int .i64 m.drive, .int .i64 m.battery, .int .i64 m.deadline] 26)).alloc (by simp) (.cells #[.slice a1o o.ways.length (o.ways.length + c1o), .slice a2o o.home.length (o.home.length + c2o), .int .i64 o.start, .slice a3o o.rocks.length (o.rocks.length + c3o), .int .i64 o.speed, .int .i64 o.part, .int .i64 o.flow, .int .i64 o.idle, .int .i64 o.drive, .int .i64 o.battery, .int .i64 o.deadline] 26)).alloc (by simp; omega) (.cells #[.int .i64 a, .int .i64 b, .int .i64 R, .int .i64 Wt] 29)).size)
  replace ML := Lib.hid ((ML.out.below ((((Below.refl w.heap.size w).alloc (Nat.le_refl _) (.cells #[.slice a1 m.ways.length (m.ways.length + c1), .slice a2 m.home.length (m.home.length + c2), .int .i64 m.start, .slice a3 m.rocks.length (m.rocks.length + c3), .int .i64 m.speed, .int .i64 m.part, .int .i64 m.flow, .int .i64 m.idle, .int .i64 m.drive, .int .i64 m.battery, .int .i64 m.deadline] 26)).alloc (by simp) (.cells #[.slice a1o o.ways.length (o.ways.length + c1o), .slice a2o o.home.length (o.home.length + c2o), .int .i64 o.start, .slice a3o o.rocks.length (o.rocks.length + c3o), .int .i64 o.speed, .int .i64 o.part, .int .i64 o.flow, .int .i64 o.idle, .int .i64 o.drive, .int .i64 o.battery, .int .i64 o.deadline] 26)).alloc (by simp; omega) (.cells #[.int .i64 a, .int .i64 b, .int .i64 R, .int .i64 Wt] 29))).mono ((((Below.refl w.heap.size w).alloc (Nat.le_refl _) (.cells #[.slice a1 m.ways.length (m.ways.length + c1), .slice a2 m.home.length (m.home.length + c2), .int .i64 m.start, .slice a3 m.rocks.length (m.rocks.length + c3), .int .i64 m.speed, .int .i64 m.part, .int .i64 m.flow, .int .i64 m.idle, .int .i64 m.drive, .int .i64 m.battery, .int .i64 m.deadline] 26)).alloc (by simp) (.cells #[.slice a1o o.ways.length (o.ways.length + c1o), .slice a2o o.home.length (o.home.length + c2o), .int .i64 o.start, .slice a3o o.rocks.length (o.rocks.length + c3o), .int .i64 o.speed, .int .i64 o.part, .int .i64 o.flow, .int .i64 o.idle, .int .i64 o.drive, .int .i64 o.battery, .int .i64 o.deadline] 26)).alloc (by simp; omega) (.cells #[.int .i64 a, .int .i64 b, .int .i64 R, .int .i64 Wt] 29)).size)
  replace OM := Lib.hid ((OM.out.below ((((Below.refl w.heap.size w).alloc (Nat.le_refl _) (.cells #[.slice a1 m.ways.length (m.ways.length + c1), .slice a2 m.home.length (m.home.length + c2), .int .i64 m.start, .slice a3 m.rocks.length (m.rocks.length + c3), .int .i64 m.speed, .int .i64 m.part, .int .i64 m.flow, .int .i64 m.idle, .int .i64 m.drive, .int .i64 m.battery, .int .i64 m.deadline] 26)).alloc (by simp) (.cells #[.slice a1o o.ways.length (o.ways.length + c1o), .slice a2o o.home.length (o.home.length + c2o), .int .i64 o.start, .slice a3o o.rocks.length (o.rocks.length + c3o), .int .i64 o.speed, .int .i64 o.part, .int .i64 o.flow, .int .i64 o.idle, .int .i64 o.drive, .int .i64 o.battery, .int .i64 o.deadline] 26)).alloc (by simp; omega) (.cells #[.int .i64 a, .int .i64 b, .int .i64 R, .int .i64 Wt] 29))).mono ((((Below.refl w.heap.size w).alloc (Nat.le_refl _) (.cells #[.slice a1 m.ways.length (m.ways.length + c1), .slice a2 m.home.length (m.home.length + c2), .int .i64 m.start, .slice a3 m.rocks.length (m.rocks.length + c3), .int .i64 m.speed, .int .i64 m.part, .int .i64 m.flow, .int .i64 m.idle, .int .i64 m.drive, .int .i64 m.battery, .int .i64 m.deadline] 26)).alloc (by simp) (.cells #[.slice a1o o.ways.length (o.ways.length + c1o), .slice a2o o.home.length (o.home.length + c2o), .int .i64 o.start, .slice a3o o.rocks.length (o.rocks.length + c3o), .int .i64 o.speed, .int .i64 o.part, .int .i64 o.flow, .int .i64 o.idle, .int .i64 o.drive, .int .i64 o.battery, .int .i64 o.deadline] 26)).alloc (by simp; omega) (.cells #[.int .i64 a, .int .i64 b, .int .i64 R, .int .i64 Wt] 29)).size)
  replace OL := Lib.hid ((OL.out.below ((((Below.refl w.heap.size w).alloc (Nat.le_refl _) (.cells #[.slice a1 m.ways.length (m.ways.length + c1), .slice a2 m.home.length (m.home.length + c2), .int .i64 m.start, .slice a3 m.rocks.length (m.rocks.length + c3), .int .i64 m.speed, .int .i64 m.part, .int .i64 m.flow, .int .i64 m.idle, .int .i64 m.drive, .int .i64 m.battery, .int .i64 m.deadline] 26)).alloc (by simp) (.cells #[.slice a1o o.ways.length (o.ways.length + c1o), .slice a2o o.home.length (o.home.length + c2o), .int .i64 o.start, .slice a3o o.rocks.length (o.rocks.length + c3o), .int .i64 o.speed, .int .i64 o.part, .int .i64 o.flow, .int .i64 o.idle, .int .i64 o.drive, .int .i64 o.battery, .int .i64 o.deadline] 26)).alloc (by simp; omega) (.cells #[.int .i64 a, .int .i64 b, .int .i64 R, .int .i64 Wt] 29))).mono ((((Below.refl w.heap.size w).alloc (Nat.le_refl _) (.cells #[.slice a1 m.ways.length (m.ways.length + c1), .slice a2 m.home.length (m.home.length + c2), .int .i64 m.start, .slice a3 m.rocks.length (m.rocks.length + c3), .int .i64 m.speed, .int .i64 m.part, .int .i64 m.flow, .int .i64 m.idle, .int .i64 m.drive, .int .i64 m.battery, .int .i64 m.deadline] 26)).alloc (by simp) (.cells #[.slice a1o o.ways.length (o.ways.length + c1o), .slice a2o o.home.length (o.home.length + c2o), .int .i64 o.start, .slice a3o o.rocks.length (o.rocks.length + c3o), .int .i64 o.speed, .int .i64 o.part, .int .i64 o.flow, .int .i64 o.idle, .int .i64 o.drive, .int .i64 o.battery, .int .i64 o.deadline] 26)).alloc (by simp; omega) (.cells #[.int .i64 a, .int .i64 b, .int .i64 R, .int .i64 Wt] 29)).size)
  have MB := Lib.hid (show Has (((w.alloc (.cells #[.slice a1 m.ways.length (m.ways.length + c1), .slice a2 m.home.length (m.home.length + c2), .int .i64 m.start, .slice a3 m.rocks.length (m.rocks.length + c3), .int .i64 m.speed, .int .i64 m.part, .int .i64 m.flow, .int .i64 m.idle, .int .i64 m.drive, .int .i64 m.battery, .int .i64 m.deadline] 26)).alloc (.cells #[.slice a1o o.ways.length (o.ways.length + c1o), .slice a2o o.home.length (o.home.length + c2o), .int .i64 o.start, .slice a3o o.rocks.length (o.rocks.length + c3o), .int .i64 o.speed, .int .i64 o.part, .int .i64 o.flow, .int .i64 o.idle, .int .i64 o.drive, .int .i64 o.battery, .int .i64 o.deadline] 26)).alloc (.cells #[.int .i64 a, .int .i64 b, .int .i64 R, .int .i64 Wt] 29)) (w.heap.size) #[.slice a1 m.ways.length (m.ways.length + c1), .slice a2 m.home.length (m.home.length + c2), .int .i64 m.start, .slice a3 m.rocks.length (m.rocks.length + c3), .int .i64 m.speed, .int .i64 m.part, .int .i64 m.flow, .int .i64 m.idle, .int .i64 m.drive, .int .i64 m.battery, .int .i64 m.deadline] 26 from q0)
  have OB := Lib.hid (show Has (((w.alloc (.cells #[.slice a1 m.ways.length (m.ways.length + c1), .slice a2 m.home.length (m.home.length + c2), .int .i64 m.start, .slice a3 m.rocks.length (m.rocks.length + c3), .int .i64 m.speed, .int .i64 m.part, .int .i64 m.flow, .int .i64 m.idle, .int .i64 m.drive, .int .i64 m.battery, .int .i64 m.deadline] 26)).alloc (.cells #[.slice a1o o.ways.length (o.ways.length + c1o), .slice a2o o.home.length (o.home.length + c2o), .int .i64 o.start, .slice a3o o.rocks.length (o.rocks.length + c3o), .int .i64 o.speed, .int .i64 o.part, .int .i64 o.flow, .int .i64 o.idle, .int .i64 o.drive, .int .i64 o.battery, .int .i64 o.deadline] 26)).alloc (.cells #[.int .i64 a, .int .i64 b, .int .i64 R, .int .i64 Wt] 29)) (w.heap.size + 1) #[.slice a1o o.ways.length (o.ways.length + c1o), .slice a2o o.home.length (o.home.length + c2o), .int .i64 o.start, .slice a3o o.rocks.length (o.rocks.length + c3o), .int .i64 o.speed, .int .i64 o.part, .int .i64 o.flow, .int .i64 o.idle, .int .i64 o.drive, .int .i64 o.battery, .int .i64 o.deadline] 26 from q1)
  have TB := Lib.hid (show Has (((w.alloc (.cells #[.slice a1 m.ways.length (m.ways.length + c1), .slice a2 m.home.length (m.home.length + c2), .int .i64 m.start, .slice a3 m.rocks.length (m.rocks.length + c3), .int .i64 m.speed, .int .i64 m.part, .int .i64 m.flow, .int .i64 m.idle, .int .i64 m.drive, .int .i64 m.battery, .int .i64 m.deadline] 26)).alloc (.cells #[.slice a1o o.ways.length (o.ways.length + c1o), .slice a2o o.home.length (o.home.length + c2o), .int .i64 o.start, .slice a3o o.rocks.length (o.rocks.length + c3o), .int .i64 o.speed, .int .i64 o.part, .int .i64 o.flow, .int .i64 o.idle, .int .i64 o.drive, .int .i64 o.battery, .int .i64 o.deadline] 26)).alloc (.cells #[.int .i64 a, .int .i64 b, .int .i64 R, .int .i64 Wt] 29)) (w.heap.size + 1 + 1) #[.int .i64 a, .int .i64 b, .int .i64 R, .int .i64 Wt] 29 from q2)
  have BX0 := Lib.hid (B0.out.trans ((((((Below.refl w.heap.size w).alloc (Nat.le_refl _) (.cells #[.slice a1 m.ways.length (m.ways.length + c1), .slice a2 m.home.length (m.home.length + c2), .int .i64 m.start, .slice a3 m.rocks.length (m.rocks.length + c3), .int .i64 m.speed, .int .i64 m.part, .int .i64 m.flow, .int .i64 m.idle, .int .i64 m.drive, .int .i64 m.battery, .int .i64 m.deadline] 26)).alloc (by simp) (.cells #[.slice a1o o.ways.length (o.ways.length + c1o), .slice a2o o.home.length (o.home.length + c2o), .int .i64 o.start, .slice a3o o.rocks.length (o.rocks.length + c3o), .int .i64 o.speed, .int .i64 o.part, .int .i64 o.flow, .int .i64 o.idle, .int .i64 o.drive, .int .i64 o.battery, .int .i64 o.deadline] 26)).alloc (by simp; omega) (.cells #[.int .i64 a, .int .i64 b, .int .i64 R, .int .i64 Wt] 29))).mono B0.out.size))
  generalize hXX0 : (((w.alloc (.cells #[.slice a1 m.ways.length (m.ways.length + c1), .slice a2 m.home.length (m.home.length + c2), .int .i64 m.start, .slice a3 m.rocks.length (m.rocks.length + c3), .int .i64 m.speed, .int .i64 m.part, .int .i64 m.flow, .int .i64 m.idle, .int .i64 m.drive, .int .i64 m.battery, .int .i64 m.deadline] 26)).alloc (.cells #[.slice a1o o.ways.length (o.ways.length + c1o), .slice a2o o.home.length (o.home.length + c2o), .int .i64 o.start, .slice a3o o.rocks.length (o.rocks.length + c3o), .int .i64 o.speed, .int .i64 o.part, .int .i64 o.flow, .int .i64 o.idle, .int .i64 o.drive, .int .i64 o.battery, .int .i64 o.deadline] 26)).alloc (.cells #[.int .i64 a, .int .i64 b, .int .i64 R, .int .i64 Wt] 29)) = X0 at *
  clear hXX0
  clear q0 q1 q2
  have hz0 := BX0.out.size
  refine (f1.out _ MM.out ML.out).mono ?_
  rintro e w1 ⟨rfl, b1⟩
  have B1 := Lib.hid (BX0.out.trans (b1.mono BX0.out.size))
  replace MM := Lib.hid ((MM.out.below b1).mono b1.size)
  replace ML := Lib.hid ((ML.out.below b1).mono b1.size)
  replace OM := Lib.hid ((OM.out.below b1).mono b1.size)
  replace OL := Lib.hid ((OL.out.below b1).mono b1.size)
  replace MB := Lib.hid (MB.out.below b1 MB.out.lt)
  replace OB := Lib.hid (OB.out.below b1 OB.out.lt)
  replace TB := Lib.hid (TB.out.below b1 TB.out.lt)
  clear b1
  obtain ⟨d0, d1, d2, d3, d4, d5, d6, d7, d8, d9, d10⟩ := msn_cells (m := m) MB.out
  obtain ⟨e0, e1, e2, e3, e4, e5, e6, e7, e8, e9, e10⟩ := msn_cells (m := o) OB.out
  have t0 := TB.out.cell (i := 0) rfl
  have t1 := TB.out.cell (i := 1) rfl
  have t2 := TB.out.cell (i := 2) rfl
  have t3 := TB.out.cell (i := 3) rfl
  go_wp2_with fail
  refine (f2.out _ OM.out OL.out).mono ?_
  rintro e w2 ⟨rfl, b2⟩
  have B2 := Lib.hid (B1.out.trans (b2.mono B1.out.size))
  replace MM := Lib.hid ((MM.out.below b2).mono b2.size)
  replace ML := Lib.hid ((ML.out.below b2).mono b2.size)
  replace OM := Lib.hid ((OM.out.below b2).mono b2.size)
  replace OL := Lib.hid ((OL.out.below b2).mono b2.size)
  replace MB := Lib.hid (MB.out.below b2 MB.out.lt)
  replace OB := Lib.hid (OB.out.below b2 OB.out.lt)
  replace TB := Lib.hid (TB.out.below b2 TB.out.lt)
  clear b2
  clear d0 d1 d2 d3 d4 d5 d6 d7 d8 d9 d10 e0 e1 e2 e3 e4 e5 e6 e7 e8 e9 e10 t0 t1 t2 t3
  obtain ⟨d0, d1, d2, d3, d4, d5, d6, d7, d8, d9, d10⟩ := msn_cells (m := m) MB.out
  obtain ⟨e0, e1, e2, e3, e4, e5, e6, e7, e8, e9, e10⟩ := msn_cells (m := o) OB.out
  have t0 := TB.out.cell (i := 0) rfl
  have t1 := TB.out.cell (i := 1) rfl
  have t2 := TB.out.cell (i := 2) rfl
  have t3 := TB.out.cell (i := 3) rfl
  cases hb1 : radOkB m l
  · go_wp2
    go_ret2
    exact ⟨by simp [errB, hb1], B2.out⟩
  cases hb2 : radOkB o lo
  · go_wp2
    go_ret2
    exact ⟨by simp [errB, hb2], B2.out⟩
  cases h1 : decide (a < 0)
  rotate_left
  · go_wp2
    go_ret2
    exact ⟨by simp [errB, show ¬ (0 ≤ a) by have := h1; rw [decide_eq_true_eq] at this; omega], B2.out⟩
  cases h2 : decide (a ≥ (m.ways.length : Int))
  rotate_left
  · go_wp2
    go_ret2
    exact ⟨by simp [errB, show ¬ (a < (m.ways.length : Int)) by have := h2; rw [decide_eq_true_eq] at this; omega], B2.out⟩
  cases h3 : decide (b < 0)
  rotate_left
  · go_wp2
    go_ret2
    exact ⟨by simp [errB, show ¬ (0 ≤ b) by have := h3; rw [decide_eq_true_eq] at this; omega], B2.out⟩
  cases h4 : decide (b ≥ (o.ways.length : Int))
  rotate_left
  · go_wp2
    go_ret2
    exact ⟨by simp [errB, show ¬ (b < (o.ways.length : Int)) by have := h4; rw [decide_eq_true_eq] at this; omega], B2.out⟩
  go_wp2_with fail
  refine (fr.out _).mono ?_
  rintro e w3 ⟨rfl, b3⟩
  have B3 := Lib.hid (B2.out.trans (b3.mono B2.out.size))
  replace MM := Lib.hid ((MM.out.below b3).mono b3.size)
  replace ML := Lib.hid ((ML.out.below b3).mono b3.size)
  replace OM := Lib.hid ((OM.out.below b3).mono b3.size)
  replace OL := Lib.hid ((OL.out.below b3).mono b3.size)
  replace MB := Lib.hid (MB.out.below b3 MB.out.lt)
  replace OB := Lib.hid (OB.out.below b3 OB.out.lt)
  replace TB := Lib.hid (TB.out.below b3 TB.out.lt)
  clear b3
  clear d0 d1 d2 d3 d4 d5 d6 d7 d8 d9 d10 e0 e1 e2 e3 e4 e5 e6 e7 e8 e9 e10 t0 t1 t2 t3
  obtain ⟨d0, d1, d2, d3, d4, d5, d6, d7, d8, d9, d10⟩ := msn_cells (m := m) MB.out
  obtain ⟨e0, e1, e2, e3, e4, e5, e6, e7, e8, e9, e10⟩ := msn_cells (m := o) OB.out
  have t0 := TB.out.cell (i := 0) rfl
  have t1 := TB.out.cell (i := 1) rfl
  have t2 := TB.out.cell (i := 2) rfl
  have t3 := TB.out.cell (i := 3) rfl
  cases b5
  · go_wp2
    go_ret2
    exact ⟨by simp [errB], B3.out⟩
  go_wp2_with fail
  refine (fw.out _).mono ?_
  rintro e w4 ⟨rfl, b4⟩
  have B4 := Lib.hid (B3.out.trans (b4.mono B3.out.size))
  replace MM := Lib.hid ((MM.out.below b4).mono b4.size)
  replace ML := Lib.hid ((ML.out.below b4).mono b4.size)
  replace OM := Lib.hid ((OM.out.below b4).mono b4.size)
  replace OL := Lib.hid ((OL.out.below b4).mono b4.size)
  replace MB := Lib.hid (MB.out.below b4 MB.out.lt)
  replace OB := Lib.hid (OB.out.below b4 OB.out.lt)
  replace TB := Lib.hid (TB.out.below b4 TB.out.lt)
  clear b4
  clear d0 d1 d2 d3 d4 d5 d6 d7 d8 d9 d10 e0 e1 e2 e3 e4 e5 e6 e7 e8 e9 e10 t0 t1 t2 t3
  obtain ⟨d0, d1, d2, d3, d4, d5, d6, d7, d8, d9, d10⟩ := msn_cells (m := m) MB.out
  obtain ⟨e0, e1, e2, e3, e4, e5, e6, e7, e8, e9, e10⟩ := msn_cells (m := o) OB.out
  have t0 := TB.out.cell (i := 0) rfl
  have t1 := TB.out.cell (i := 1) rfl
  have t2 := TB.out.cell (i := 2) rfl
  have t3 := TB.out.cell (i := 3) rfl
  cases b6
  · go_wp2
    go_ret2
    exact ⟨by simp [errB], B4.out⟩
  have g1 := h1; have g2 := h2; have g3 := h3; have g4 := h4
  rw [decide_eq_false_iff_not] at g1 g2 g3 g4
  obtain ⟨p, hp⟩ := Int.eq_ofNat_of_zero_le (show 0 ≤ a by omega)
  obtain ⟨q, hq⟩ := Int.eq_ofNat_of_zero_le (show 0 ≤ b by omega)
  subst hp
  subst hq
  have hp : p < m.ways.length := by omega
  have hq : q < o.ways.length := by omega
  clear g1 g2 g3 g4
  go_wp2_with fail
  refine (FM.out hb1 hb2 p q hp hq _ MM.out ML.out OM.out OL.out).mono ?_
  rintro e w5 ⟨rfl, b5⟩
  have B5 := Lib.hid (B4.out.trans (b5.mono B4.out.size))
  replace MM := Lib.hid ((MM.out.below b5).mono b5.size)
  replace ML := Lib.hid ((ML.out.below b5).mono b5.size)
  replace OM := Lib.hid ((OM.out.below b5).mono b5.size)
  replace OL := Lib.hid ((OL.out.below b5).mono b5.size)
  replace MB := Lib.hid (MB.out.below b5 MB.out.lt)
  replace OB := Lib.hid (OB.out.below b5 OB.out.lt)
  replace TB := Lib.hid (TB.out.below b5 TB.out.lt)
  clear b5
  clear d0 d1 d2 d3 d4 d5 d6 d7 d8 d9 d10 e0 e1 e2 e3 e4 e5 e6 e7 e8 e9 e10 t0 t1 t2 t3
  obtain ⟨d0, d1, d2, d3, d4, d5, d6, d7, d8, d9, d10⟩ := msn_cells (m := m) MB.out
  obtain ⟨e0, e1, e2, e3, e4, e5, e6, e7, e8, e9, e10⟩ := msn_cells (m := o) OB.out
  have t0 := TB.out.cell (i := 0) rfl
  have t1 := TB.out.cell (i := 1) rfl
  have t2 := TB.out.cell (i := 2) rfl
  have t3 := TB.out.cell (i := 3) rfl
  go_wp2
  go_ret2
  exact ⟨by simp [errB, hb1, hb2, hp, hq], B5.out⟩
theorem trK_succ (m : Msn) (l : List Int) (o : Msn) (lo : List Int) (R W : Int) {i j : Nat} (hj : j < o.ways.length) :
    trK m l o lo R W (i * o.ways.length + (j + 1)) = trK m l o lo R W (i * o.ways.length + j) ++ (if meetB m l o lo i j R W = true then [(i, j)] else []) := by
  have h0 : 0 < o.ways.length := by omega
  have e1 : (i * o.ways.length + j) / o.ways.length = i := by rw [Nat.mul_comm, Nat.mul_add_div h0, Nat.div_eq_of_lt hj]; omega
  have e2 : (i * o.ways.length + j) % o.ways.length = j := by rw [Nat.mul_comm, Nat.mul_add_mod]; exact Nat.mod_eq_of_lt hj
  unfold trK
  rw [← Nat.add_assoc, upto_succ, List.filter_append]
  congr 1
  simp only [wayOf, e1, e2, List.filter_cons, List.filter_nil]

set_option linter.unusedSimpArgs false in
set_option linter.unusedVariables false in
set_option maxRecDepth 8000 in
set_option maxHeartbeats 4000000 in
theorem rways_any (m o : Msn) (vw vh vr vl vwo vho vro vlo : Value) (l lo : List Int) (R Wt : Int) (w : World) (hm : MsnAt w.heap.size w m vw vh vr) (hl : IntsAt w.heap.size w vl l) (hmo : MsnAt w.heap.size w o vwo vho vro) (hlo : IntsAt w.heap.size w vlo lo) :
    Calls Tryz.prog 18 #[.agg (msnCells m vw vh vr), .agg (msnCells o vwo vho vro), vl, vlo, .int .i64 R, .int .i64 Wt] w fun e w' => ∃ v, e = .returned (.tuple #[v, .int .i64 (errB (waskB m l o lo R Wt))]) ∧ RowAt 4 w'.heap.size w' v (trRows R Wt (trL m l o lo R Wt)) ∧ Below w.heap.size w w' := by
  have f1 := fun w1 h1 h2 => rplanned_any m vw vh vr vl l w1 h1 h2
  have f2 := fun w1 h1 h2 => rplanned_any o vwo vho vro vlo lo w1 h1 h2
  have fr := fun w1 => rnum38_any R w1
  have fw := fun w1 => rnum38_any Wt w1
  have FM := Lib.hid (fun (h1 : radOkB m l = true) (h2 : radOkB o lo = true) (p q : Nat) hp hq w1 g1 g2 g3 g4 => rmeet38_any m o vw vh vr vl vwo vho vro vlo l lo p q R Wt hp hq h1 h2 w1 g1 g2 g3 g4)
  have MM := Lib.hid hm
  have ML := Lib.hid hl
  have OM := Lib.hid hmo
  have OL := Lib.hid hlo
  obtain ⟨⟨-, a1, c1, rfl, -⟩, ⟨-, a2, c2, rfl, -⟩, ⟨-, a3, c3, rfl, -⟩⟩ := hm
  obtain ⟨⟨-, a1o, c1o, rfl, -⟩, ⟨-, a2o, c2o, rfl, -⟩, ⟨-, a3o, c3o, rfl, -⟩⟩ := hmo
  obtain ⟨-, al, cl, rfl, -⟩ := hl
  obtain ⟨-, alo, clo, rfl, -⟩ := hlo
  unfold msnCells at *
  unfold trL
  obtain ⟨ak, hak⟩ : ∃ x, x = waskB m l o lo R Wt := ⟨_, rfl⟩
  rw [← hak]
  unfold waskB at hak
  generalize numB R 100000 = b5 at *
  generalize numB Wt 100000 = b6 at *
  replace f1 := Lib.hid f1
  replace f2 := Lib.hid f2
  replace fr := Lib.hid fr
  replace fw := Lib.hid fw
  have B0 := Lib.hid (Below.refl w.heap.size w)
  replace hak := Lib.hid hak
  go_enter Tryz.func18, Tryz.ntmps18
  have q0 := Has.new w #[.slice a1 m.ways.length (m.ways.length + c1), .slice a2 m.home.length (m.home.length + c2), .int .i64 m.start, .slice a3 m.rocks.length (m.rocks.length + c3), .int .i64 m.speed, .int .i64 m.part, .int .i64 m.flow, .int .i64 m.idle, .int .i64 m.drive, .int .i64 m.battery, .int .i64 m.deadline] 26
  have q0 := q0.below ((Below.refl (w.heap.size + 1) _).alloc (by simp) (.cells #[.slice a1o o.ways.length (o.ways.length + c1o), .slice a2o o.home.length (o.home.length + c2o), .int .i64 o.start, .slice a3o o.rocks.length (o.rocks.length + c3o), .int .i64 o.speed, .int .i64 o.part, .int .i64 o.flow, .int .i64 o.idle, .int .i64 o.drive, .int .i64 o.battery, .int .i64 o.deadline] 26)) (by omega)
  have q1 := Has.new (w.alloc (.cells #[.slice a1 m.ways.length (m.ways.length + c1), .slice a2 m.home.length (m.home.length + c2), .int .i64 m.start, .slice a3 m.rocks.length (m.rocks.length + c3), .int .i64 m.speed, .int .i64 m.part, .int .i64 m.flow, .int .i64 m.idle, .int .i64 m.drive, .int .i64 m.battery, .int .i64 m.deadline] 26)) #[.slice a1o o.ways.length (o.ways.length + c1o), .slice a2o o.home.length (o.home.length + c2o), .int .i64 o.start, .slice a3o o.rocks.length (o.rocks.length + c3o), .int .i64 o.speed, .int .i64 o.part, .int .i64 o.flow, .int .i64 o.idle, .int .i64 o.drive, .int .i64 o.battery, .int .i64 o.deadline] 26
  rw [World.size_alloc] at q1
  go_wp2_with fail
  replace MM := Lib.hid ((MM.out.below (((Below.refl w.heap.size w).alloc (Nat.le_refl _) (.cells #[.slice a1 m.ways.length (m.ways.length + c1), .slice a2 m.home.length (m.home.length + c2), .int .i64 m.start, .slice a3 m.rocks.length (m.rocks.length + c3), .int .i64 m.speed, .int .i64 m.part, .int .i64 m.flow, .int .i64 m.idle, .int .i64 m.drive, .int .i64 m.battery, .int .i64 m.deadline] 26)).alloc (by simp) (.cells #[.slice a1o o.ways.length (o.ways.length + c1o), .slice a2o o.home.length (o.home.length + c2o), .int .i64 o.start, .slice a3o o.rocks.length (o.rocks.length + c3o), .int .i64 o.speed, .int .i64 o.part, .int .i64 o.flow, .int .i64 o.idle, .int .i64 o.drive, .int .i64 o.battery, .int .i64 o.deadline] 26))).mono (((Below.refl w.heap.size w).alloc (Nat.le_refl _) (.cells #[.slice a1 m.ways.length (m.ways.length + c1), .slice a2 m.home.length (m.home.length + c2), .int .i64 m.start, .slice a3 m.rocks.length (m.rocks.length + c3), .int .i64 m.speed, .int .i64 m.part, .int .i64 m.flow, .int .i64 m.idle, .int .i64 m.drive, .int .i64 m.battery, .int .i64 m.deadline] 26)).alloc (by simp) (.cells #[.slice a1o o.ways.length (o.ways.length + c1o), .slice a2o o.home.length (o.home.length + c2o), .int .i64 o.start, .slice a3o o.rocks.length (o.rocks.length + c3o), .int .i64 o.speed, .int .i64 o.part, .int .i64 o.flow, .int .i64 o.idle, .int .i64 o.drive, .int .i64 o.battery, .int .i64 o.deadline] 26)).size)
  replace ML := Lib.hid ((ML.out.below (((Below.refl w.heap.size w).alloc (Nat.le_refl _) (.cells #[.slice a1 m.ways.length (m.ways.length + c1), .slice a2 m.home.length (m.home.length + c2), .int .i64 m.start, .slice a3 m.rocks.length (m.rocks.length + c3), .int .i64 m.speed, .int .i64 m.part, .int .i64 m.flow, .int .i64 m.idle, .int .i64 m.drive, .int .i64 m.battery, .int .i64 m.deadline] 26)).alloc (by simp) (.cells #[.slice a1o o.ways.length (o.ways.length + c1o), .slice a2o o.home.length (o.home.length + c2o), .int .i64 o.start, .slice a3o o.rocks.length (o.rocks.length + c3o), .int .i64 o.speed, .int .i64 o.part, .int .i64 o.flow, .int .i64 o.idle, .int .i64 o.drive, .int .i64 o.battery, .int .i64 o.deadline] 26))).mono (((Below.refl w.heap.size w).alloc (Nat.le_refl _) (.cells #[.slice a1 m.ways.length (m.ways.length + c1), .slice a2 m.home.length (m.home.length + c2), .int .i64 m.start, .slice a3 m.rocks.length (m.rocks.length + c3), .int .i64 m.speed, .int .i64 m.part, .int .i64 m.flow, .int .i64 m.idle, .int .i64 m.drive, .int .i64 m.battery, .int .i64 m.deadline] 26)).alloc (by simp) (.cells #[.slice a1o o.ways.length (o.ways.length + c1o), .slice a2o o.home.length (o.home.length + c2o), .int .i64 o.start, .slice a3o o.rocks.length (o.rocks.length + c3o), .int .i64 o.speed, .int .i64 o.part, .int .i64 o.flow, .int .i64 o.idle, .int .i64 o.drive, .int .i64 o.battery, .int .i64 o.deadline] 26)).size)
  replace OM := Lib.hid ((OM.out.below (((Below.refl w.heap.size w).alloc (Nat.le_refl _) (.cells #[.slice a1 m.ways.length (m.ways.length + c1), .slice a2 m.home.length (m.home.length + c2), .int .i64 m.start, .slice a3 m.rocks.length (m.rocks.length + c3), .int .i64 m.speed, .int .i64 m.part, .int .i64 m.flow, .int .i64 m.idle, .int .i64 m.drive, .int .i64 m.battery, .int .i64 m.deadline] 26)).alloc (by simp) (.cells #[.slice a1o o.ways.length (o.ways.length + c1o), .slice a2o o.home.length (o.home.length + c2o), .int .i64 o.start, .slice a3o o.rocks.length (o.rocks.length + c3o), .int .i64 o.speed, .int .i64 o.part, .int .i64 o.flow, .int .i64 o.idle, .int .i64 o.drive, .int .i64 o.battery, .int .i64 o.deadline] 26))).mono (((Below.refl w.heap.size w).alloc (Nat.le_refl _) (.cells #[.slice a1 m.ways.length (m.ways.length + c1), .slice a2 m.home.length (m.home.length + c2), .int .i64 m.start, .slice a3 m.rocks.length (m.rocks.length + c3), .int .i64 m.speed, .int .i64 m.part, .int .i64 m.flow, .int .i64 m.idle, .int .i64 m.drive, .int .i64 m.battery, .int .i64 m.deadline] 26)).alloc (by simp) (.cells #[.slice a1o o.ways.length (o.ways.length + c1o), .slice a2o o.home.length (o.home.length + c2o), .int .i64 o.start, .slice a3o o.rocks.length (o.rocks.length + c3o), .int .i64 o.speed, .int .i64 o.part, .int .i64 o.flow, .int .i64 o.idle, .int .i64 o.drive, .int .i64 o.battery, .int .i64 o.deadline] 26)).size)
  replace OL := Lib.hid ((OL.out.below (((Below.refl w.heap.size w).alloc (Nat.le_refl _) (.cells #[.slice a1 m.ways.length (m.ways.length + c1), .slice a2 m.home.length (m.home.length + c2), .int .i64 m.start, .slice a3 m.rocks.length (m.rocks.length + c3), .int .i64 m.speed, .int .i64 m.part, .int .i64 m.flow, .int .i64 m.idle, .int .i64 m.drive, .int .i64 m.battery, .int .i64 m.deadline] 26)).alloc (by simp) (.cells #[.slice a1o o.ways.length (o.ways.length + c1o), .slice a2o o.home.length (o.home.length + c2o), .int .i64 o.start, .slice a3o o.rocks.length (o.rocks.length + c3o), .int .i64 o.speed, .int .i64 o.part, .int .i64 o.flow, .int .i64 o.idle, .int .i64 o.drive, .int .i64 o.battery, .int .i64 o.deadline] 26))).mono (((Below.refl w.heap.size w).alloc (Nat.le_refl _) (.cells #[.slice a1 m.ways.length (m.ways.length + c1), .slice a2 m.home.length (m.home.length + c2), .int .i64 m.start, .slice a3 m.rocks.length (m.rocks.length + c3), .int .i64 m.speed, .int .i64 m.part, .int .i64 m.flow, .int .i64 m.idle, .int .i64 m.drive, .int .i64 m.battery, .int .i64 m.deadline] 26)).alloc (by simp) (.cells #[.slice a1o o.ways.length (o.ways.length + c1o), .slice a2o o.home.length (o.home.length + c2o), .int .i64 o.start, .slice a3o o.rocks.length (o.rocks.length + c3o), .int .i64 o.speed, .int .i64 o.part, .int .i64 o.flow, .int .i64 o.idle, .int .i64 o.drive, .int .i64 o.battery, .int .i64 o.deadline] 26)).size)
  have MB := Lib.hid (show Has ((w.alloc (.cells #[.slice a1 m.ways.length (m.ways.length + c1), .slice a2 m.home.length (m.home.length + c2), .int .i64 m.start, .slice a3 m.rocks.length (m.rocks.length + c3), .int .i64 m.speed, .int .i64 m.part, .int .i64 m.flow, .int .i64 m.idle, .int .i64 m.drive, .int .i64 m.battery, .int .i64 m.deadline] 26)).alloc (.cells #[.slice a1o o.ways.length (o.ways.length + c1o), .slice a2o o.home.length (o.home.length + c2o), .int .i64 o.start, .slice a3o o.rocks.length (o.rocks.length + c3o), .int .i64 o.speed, .int .i64 o.part, .int .i64 o.flow, .int .i64 o.idle, .int .i64 o.drive, .int .i64 o.battery, .int .i64 o.deadline] 26)) (w.heap.size) #[.slice a1 m.ways.length (m.ways.length + c1), .slice a2 m.home.length (m.home.length + c2), .int .i64 m.start, .slice a3 m.rocks.length (m.rocks.length + c3), .int .i64 m.speed, .int .i64 m.part, .int .i64 m.flow, .int .i64 m.idle, .int .i64 m.drive, .int .i64 m.battery, .int .i64 m.deadline] 26 from q0)
  have OB := Lib.hid (show Has ((w.alloc (.cells #[.slice a1 m.ways.length (m.ways.length + c1), .slice a2 m.home.length (m.home.length + c2), .int .i64 m.start, .slice a3 m.rocks.length (m.rocks.length + c3), .int .i64 m.speed, .int .i64 m.part, .int .i64 m.flow, .int .i64 m.idle, .int .i64 m.drive, .int .i64 m.battery, .int .i64 m.deadline] 26)).alloc (.cells #[.slice a1o o.ways.length (o.ways.length + c1o), .slice a2o o.home.length (o.home.length + c2o), .int .i64 o.start, .slice a3o o.rocks.length (o.rocks.length + c3o), .int .i64 o.speed, .int .i64 o.part, .int .i64 o.flow, .int .i64 o.idle, .int .i64 o.drive, .int .i64 o.battery, .int .i64 o.deadline] 26)) (w.heap.size + 1) #[.slice a1o o.ways.length (o.ways.length + c1o), .slice a2o o.home.length (o.home.length + c2o), .int .i64 o.start, .slice a3o o.rocks.length (o.rocks.length + c3o), .int .i64 o.speed, .int .i64 o.part, .int .i64 o.flow, .int .i64 o.idle, .int .i64 o.drive, .int .i64 o.battery, .int .i64 o.deadline] 26 from q1)
  have BX0 := Lib.hid (B0.out.trans (((((Below.refl w.heap.size w).alloc (Nat.le_refl _) (.cells #[.slice a1 m.ways.length (m.ways.length + c1), .slice a2 m.home.length (m.home.length + c2), .int .i64 m.start, .slice a3 m.rocks.length (m.rocks.length + c3), .int .i64 m.speed, .int .i64 m.part, .int .i64 m.flow, .int .i64 m.idle, .int .i64 m.drive, .int .i64 m.battery, .int .i64 m.deadline] 26)).alloc (by simp) (.cells #[.slice a1o o.ways.length (o.ways.length + c1o), .slice a2o o.home.length (o.home.length + c2o), .int .i64 o.start, .slice a3o o.rocks.length (o.rocks.length + c3o), .int .i64 o.speed, .int .i64 o.part, .int .i64 o.flow, .int .i64 o.idle, .int .i64 o.drive, .int .i64 o.battery, .int .i64 o.deadline] 26))).mono B0.out.size))
  generalize hXX0 : ((w.alloc (.cells #[.slice a1 m.ways.length (m.ways.length + c1), .slice a2 m.home.length (m.home.length + c2), .int .i64 m.start, .slice a3 m.rocks.length (m.rocks.length + c3), .int .i64 m.speed, .int .i64 m.part, .int .i64 m.flow, .int .i64 m.idle, .int .i64 m.drive, .int .i64 m.battery, .int .i64 m.deadline] 26)).alloc (.cells #[.slice a1o o.ways.length (o.ways.length + c1o), .slice a2o o.home.length (o.home.length + c2o), .int .i64 o.start, .slice a3o o.rocks.length (o.rocks.length + c3o), .int .i64 o.speed, .int .i64 o.part, .int .i64 o.flow, .int .i64 o.idle, .int .i64 o.drive, .int .i64 o.battery, .int .i64 o.deadline] 26)) = X0 at *
  clear hXX0
  clear q0 q1
  have hz0 := BX0.out.size
  refine (f1.out _ MM.out ML.out).mono ?_
  rintro e w1 ⟨rfl, b1⟩
  have B1 := Lib.hid (BX0.out.trans (b1.mono BX0.out.size))
  replace MM := Lib.hid ((MM.out.below b1).mono b1.size)
  replace ML := Lib.hid ((ML.out.below b1).mono b1.size)
  replace OM := Lib.hid ((OM.out.below b1).mono b1.size)
  replace OL := Lib.hid ((OL.out.below b1).mono b1.size)
  replace MB := Lib.hid (MB.out.below b1 MB.out.lt)
  replace OB := Lib.hid (OB.out.below b1 OB.out.lt)
  clear b1
  obtain ⟨d0, d1, d2, d3, d4, d5, d6, d7, d8, d9, d10⟩ := msn_cells (m := m) MB.out
  obtain ⟨e0, e1, e2, e3, e4, e5, e6, e7, e8, e9, e10⟩ := msn_cells (m := o) OB.out
  go_wp2_with fail
  refine (f2.out _ OM.out OL.out).mono ?_
  rintro e w2 ⟨rfl, b2⟩
  have B2 := Lib.hid (B1.out.trans (b2.mono B1.out.size))
  replace MM := Lib.hid ((MM.out.below b2).mono b2.size)
  replace ML := Lib.hid ((ML.out.below b2).mono b2.size)
  replace OM := Lib.hid ((OM.out.below b2).mono b2.size)
  replace OL := Lib.hid ((OL.out.below b2).mono b2.size)
  replace MB := Lib.hid (MB.out.below b2 MB.out.lt)
  replace OB := Lib.hid (OB.out.below b2 OB.out.lt)
  clear b2
  clear d0 d1 d2 d3 d4 d5 d6 d7 d8 d9 d10 e0 e1 e2 e3 e4 e5 e6 e7 e8 e9 e10
  obtain ⟨d0, d1, d2, d3, d4, d5, d6, d7, d8, d9, d10⟩ := msn_cells (m := m) MB.out
  obtain ⟨e0, e1, e2, e3, e4, e5, e6, e7, e8, e9, e10⟩ := msn_cells (m := o) OB.out
  cases hb1 : radOkB m l
  · have hf : ak = false := by rw [hak.out]; simp [hb1]
    subst hf
    clear hak
    go_wp2
    go_ret2
    refine ⟨_, rfl, ?_, B2.out⟩
    exact RowAt.nil 4 _ _
  cases hb2 : radOkB o lo
  · have hf : ak = false := by rw [hak.out]; simp [hb2]
    subst hf
    clear hak
    go_wp2
    go_ret2
    refine ⟨_, rfl, ?_, B2.out⟩
    exact RowAt.nil 4 _ _
  go_wp2_with fail
  refine (fr.out _).mono ?_
  rintro e w3 ⟨rfl, b3⟩
  have B3 := Lib.hid (B2.out.trans (b3.mono B2.out.size))
  replace MM := Lib.hid ((MM.out.below b3).mono b3.size)
  replace ML := Lib.hid ((ML.out.below b3).mono b3.size)
  replace OM := Lib.hid ((OM.out.below b3).mono b3.size)
  replace OL := Lib.hid ((OL.out.below b3).mono b3.size)
  replace MB := Lib.hid (MB.out.below b3 MB.out.lt)
  replace OB := Lib.hid (OB.out.below b3 OB.out.lt)
  clear b3
  clear d0 d1 d2 d3 d4 d5 d6 d7 d8 d9 d10 e0 e1 e2 e3 e4 e5 e6 e7 e8 e9 e10
  obtain ⟨d0, d1, d2, d3, d4, d5, d6, d7, d8, d9, d10⟩ := msn_cells (m := m) MB.out
  obtain ⟨e0, e1, e2, e3, e4, e5, e6, e7, e8, e9, e10⟩ := msn_cells (m := o) OB.out
  cases b5
  · have hf : ak = false := by rw [hak.out]; simp
    subst hf
    clear hak
    go_wp2
    go_ret2
    refine ⟨_, rfl, ?_, B3.out⟩
    exact RowAt.nil 4 _ _
  go_wp2_with fail
  refine (fw.out _).mono ?_
  rintro e w4 ⟨rfl, b4⟩
  have B4 := Lib.hid (B3.out.trans (b4.mono B3.out.size))
  replace MM := Lib.hid ((MM.out.below b4).mono b4.size)
  replace ML := Lib.hid ((ML.out.below b4).mono b4.size)
  replace OM := Lib.hid ((OM.out.below b4).mono b4.size)
  replace OL := Lib.hid ((OL.out.below b4).mono b4.size)
  replace MB := Lib.hid (MB.out.below b4 MB.out.lt)
  replace OB := Lib.hid (OB.out.below b4 OB.out.lt)
  clear b4
  clear d0 d1 d2 d3 d4 d5 d6 d7 d8 d9 d10 e0 e1 e2 e3 e4 e5 e6 e7 e8 e9 e10
  obtain ⟨d0, d1, d2, d3, d4, d5, d6, d7, d8, d9, d10⟩ := msn_cells (m := m) MB.out
  obtain ⟨e0, e1, e2, e3, e4, e5, e6, e7, e8, e9, e10⟩ := msn_cells (m := o) OB.out
  cases b6
  · have hf : ak = false := by rw [hak.out]; simp
    subst hf
    clear hak
    go_wp2
    go_ret2
    refine ⟨_, rfl, ?_, B4.out⟩
    exact RowAt.nil 4 _ _
  have hf : ak = true := by rw [hak.out]; simp [hb1, hb2]
  subst hf
  clear hak f1 f2
  have n41 := ((validB_iff m).1 (by simpa [radOkB] using hb1 : validB m = true ∧ stopsB m l = true).1).n41
  have n41o := ((validB_iff o).1 (by simpa [radOkB] using hb2 : validB o = true ∧ stopsB o lo = true).1).n41
  replace FM := Lib.hid (FM.out hb1 hb2)
  have hNL : m.ways.length * o.ways.length ≤ 41 * 41 := Nat.mul_le_mul n41 n41o
  obtain ⟨i0, hi, hz0', hz1', hz2'⟩ := info_parts trInfo
  clear hb1 hb2
  clear d0 d1 d2 d3 d4 d5 d6 d7 d8 d9 d10 e0 e1 e2 e3 e4 e5 e6 e7 e8 e9 e10
  go_wp2
  go_loopw [16, 17] (fun v i wr => ∃ k : Nat, k ≤ m.ways.length ∧ i = .int .i64 (k : Int) ∧ wr.ownsRow w4.heap.size 29 4 v (trK m l o lo R Wt (k * o.ways.length)).length (trRows R Wt (trK m l o lo R Wt (k * o.ways.length))).flatten ∧ Below w4.heap.size w4 wr) (fun _ i _ => m.ways.length - (intOf i).toNat)
  case atStart => exact ⟨0, by omega, rfl, by rw [Nat.zero_mul]; exact World.ownsRow_nil _ _ _ _, Below.refl _ _⟩
  case round =>
    obtain ⟨k, hk, rfl, hrow, hB⟩ := hrel
    have c0 := (MB.out.below hB MB.out.lt).cell (i := 0) rfl
    by_cases hlt : k < m.ways.length
    · have dk : decide ((k : Int) < (m.ways.length : Int)) = true := by rw [decide_eq_true_eq]; omega
      have HR := Lib.hid hrow
      have HB := Lib.hid hB
      obtain ⟨wq, hwq⟩ : ∃ x, x = wr := ⟨_, rfl⟩
      subst hwq
      clear hrow hB
      go_wp2
      clear c0
      go_loopw [16, 18] (fun v i wr => ∃ j : Nat, j ≤ o.ways.length ∧ i = .int .i64 (j : Int) ∧ wr.ownsRow w4.heap.size 29 4 v (trK m l o lo R Wt (k * o.ways.length + j)).length (trRows R Wt (trK m l o lo R Wt (k * o.ways.length + j))).flatten ∧ Below w4.heap.size w4 wr) (fun _ i _ => o.ways.length - (intOf i).toNat)
      case atStart => exact ⟨0, by omega, rfl, HR.out, HB.out⟩
      case round =>
        obtain ⟨j, hj, rfl, hrow, hB⟩ := hrel
        have c0 := (OB.out.below hB OB.out.lt).cell (i := 0) rfl
        have hzB := hB.size
        by_cases hlj : j < o.ways.length
        · have dj : decide ((j : Int) < (o.ways.length : Int)) = true := by rw [decide_eq_true_eq]; omega
          have hst := Lib.hid (trK_succ m l o lo R Wt (i := k) hlj)
          have hlen := trK_len m l o lo R Wt (k * o.ways.length + j)
          have hkj : k * o.ways.length + j < m.ways.length * o.ways.length := by
            have : (k + 1) * o.ways.length ≤ m.ways.length * o.ways.length := Nat.mul_le_mul_right _ (by omega)
            rw [Nat.succ_mul] at this; omega
          obtain ⟨tl, htl⟩ : ∃ tl, trK m l o lo R Wt (k * o.ways.length + j) = tl := ⟨_, rfl⟩
          rw [htl] at hrow hst hlen
          have hBA : Below wr.heap.size wr (wr.alloc (.cells #[.int .i64 (k : Int), .int .i64 (j : Int), .int .i64 R, .int .i64 Wt] 29)) := (Below.refl _ _).alloc (Nat.le_refl _) _
          have hBa := hB.trans (hBA.mono hzB)
          have HN := Lib.hid (Has.new wr #[.int .i64 (k : Int), .int .i64 (j : Int), .int .i64 R, .int .i64 Wt] 29)
          have HR := Lib.hid (hrow.alloc (.cells #[.int .i64 (k : Int), .int .i64 (j : Int), .int .i64 R, .int .i64 Wt] 29))
          have fm := Lib.hid (FM.out k j hlt hlj _ ((MM.out.below hBa).mono hBa.size) ((ML.out.below hBa).mono hBa.size) ((OM.out.below hBa).mono hBa.size) ((OL.out.below hBa).mono hBa.size))
          obtain ⟨d0, d1, d2, d3, d4, d5, d6, d7, d8, d9, d10⟩ := msn_cells (m := m) (MB.out.below hBa MB.out.lt)
          obtain ⟨e0, e1, e2, e3, e4, e5, e6, e7, e8, e9, e10⟩ := msn_cells (m := o) (OB.out.below hBa OB.out.lt)
          have HBa := Lib.hid hBa
          clear hrow hB hBA hBa htl
          generalize meetB m l o lo k j R Wt = mb at *
          have hz1 : (wr.alloc (.cells #[.int .i64 (k : Int), .int .i64 (j : Int), .int .i64 R, .int .i64 Wt] 29)).heap.size = wr.heap.size + 1 := by simp
          cases mb
          · go_wp2_with fail
            refine fm.out.mono ?_
            rintro e w7 ⟨rfl, hb7⟩
            have R7 := Lib.hid (prow_below HR.out hb7)
            have B7 := Lib.hid (HBa.out.trans (hb7.mono HBa.out.size))
            clear hb7 d0 e0 d1 e1 d2 e2 d3 e3 d4 e4 d5 e5 d6 e6 d7 e7 d8 e8 d9 e9 d10 e10 c0
            go_wp2
            go_roundw
            case rel => exact ⟨j + 1, by omega, by go_num, by rw [hst.out]; simp only [if_neg Bool.false_ne_true, List.append_nil]; exact R7.out, B7.out⟩
            case measure => simp [intOf]; omega
          · go_wp2_with fail
            refine fm.out.mono ?_
            rintro e w7 ⟨rfl, hb7⟩
            have R7 := Lib.hid (prow_below HR.out hb7)
            have B7 := Lib.hid (HBa.out.trans (hb7.mono HBa.out.size))
            have N7 := HN.out.below hb7 (by omega)
            have x0 : w7.cell? ⟨wr.heap.size, 0, none⟩ = some (.int .i64 (k : Int)) := N7.cell (i := 0) rfl
            have x1 : w7.cell? ⟨wr.heap.size, 1, none⟩ = some (.int .i64 (j : Int)) := N7.cell (i := 1) rfl
            have x2 : w7.cell? ⟨wr.heap.size, 2, none⟩ = some (.int .i64 R) := N7.cell (i := 2) rfl
            have x3 : w7.cell? ⟨wr.heap.size, 3, none⟩ = some (.int .i64 Wt) := N7.cell (i := 3) rfl
            have hz7 := hb7.size
            clear hb7 N7 d0 e0 d1 e1 d2 e2 d3 e3 d4 e4 d5 e5 d6 e6 d7 e7 d8 e8 d9 e9 d10 e10 c0
            go_wp2_with (at_builtin; refine wpList_append_own _ rfl _ _ 38 rfl w4.heap.size 29 i0 (.agg #[.int .i64 0, .int .i64 0, .int .i64 0, .int .i64 0]) 4 32 Tryz.underlying38 hi hz0' hz1' hz2' rfl (by decide) _ _ _ rfl (R7.out.alloc _) ⟨w7.heap.size, 0, none⟩ 1 1 [.int .i64 (k : Int), .int .i64 (j : Int), .int .i64 R, .int .i64 Wt] rfl rfl (two_new _ _ _ _ _ _) (by simp [Value.oneCell']) (by unfold maxLen; omega) (by omega) (by simp; omega) ?_; intro v' w8 hown' hgrow _)
            go_roundw
            case rel =>
              have hb0 : Below w4.heap.size w7 w8 := ((Below.refl w4.heap.size w7).alloc (by omega) _).grown hgrow (by simp; omega) (fun j ej => (R7.out.lt j ej).1)
              refine ⟨j + 1, by omega, by go_num, ?_, B7.out.trans hb0⟩
              rw [hst.out]
              simp only [if_true, List.length_append, List.length_cons, List.length_nil, trRows, List.map_append, List.map_cons, List.map_nil, List.flatten_append, List.flatten_cons, List.flatten_nil, List.append_nil]
              exact hown'
            case measure => simp [intOf]; omega
        · obtain rfl : j = o.ways.length := by omega
          have dj : decide ((o.ways.length : Int) < (o.ways.length : Int)) = false := by simp
          have HR := Lib.hid hrow
          have HB := Lib.hid hB
          clear hrow hB
          go_wp2
          go_roundw
          case rel => exact ⟨k + 1, by omega, by go_num, by rw [Nat.succ_mul]; exact HR.out, HB.out⟩
          case measure => simp [intOf]; omega
    · obtain rfl : k = m.ways.length := by omega
      have dk : decide ((m.ways.length : Int) < (m.ways.length : Int)) = false := by simp
      have hlen := trK_len m l o lo R Wt (m.ways.length * o.ways.length)
      have hI := RowAt.own hrow (by omega) (trRows_size _ _ _) (by unfold trRows; rw [List.length_map]; omega)
      obtain ⟨-, av, cv, hvv, -⟩ := hI
      subst hvv
      have HI := Lib.hid (RowAt.own hrow (by omega) (trRows_size _ _ _) (by unfold trRows; rw [List.length_map]; omega))
      have HB := Lib.hid (B4.out.trans (hB.mono B4.out.size))
      clear hrow hB
      go_wp2
      go_ret2
      exact ⟨_, rfl, HI.out, HB.out⟩

set_option linter.unusedSimpArgs false in
set_option linter.unusedVariables false in
set_option maxRecDepth 8000 in
set_option maxHeartbeats 1600000 in
theorem same38_any (R Wt : Int) (L : List (Nat × Nat)) (va vb : Value) (w : World) (ha : RowAt 4 w.heap.size w va (trRows R Wt L)) (hb : RowAt 4 w.heap.size w vb (trRows R Wt L)) :
    Calls Tryz.prog 19 #[va, vb] w fun e w' => e = .returned (.bool true) ∧ Below w.heap.size w w' := by
  have hn : (trRows R Wt L).length = L.length := by simp [trRows]
  obtain ⟨hla, aa, ca, rfl, hca⟩ := ha
  obtain ⟨-, ab, cb, rfl, hcb⟩ := hb
  rw [hn] at *
  have HNN := Lib.hid (show (trRows R Wt L).length = L.length by simp [trRows])
  have HCA := Lib.hid hca
  have HCB := Lib.hid hcb
  have B0 := Lib.hid (Below.refl w.heap.size w)
  have dn : ((L.length : Int) != (L.length : Int)) = false := by simp
  clear hca hcb
  go_enter Tryz.func19, Tryz.ntmps19
  go_wp2
  go_loopw [5] (fun i wr => ∃ k : Nat, k ≤ L.length ∧ i = .int .i64 (k : Int) ∧ Below w.heap.size w wr) (fun i _ => L.length - (intOf i).toNat)
  case atStart => exact ⟨0, by omega, rfl, Below.refl _ _⟩
  case round =>
    obtain ⟨k, hk, rfl, hB⟩ := hrel
    by_cases hlt : k < L.length
    · have dk : decide ((k : Int) < (L.length : Int)) = true := by rw [decide_eq_true_eq]; omega
      have hne : trRows R Wt L ≠ [] := by intro h; have e := HNN.out; rw [h] at e; simp at e; omega
      obtain ⟨b1, o1, rfl, hb1, hc1⟩ := HCA.out.resolve_left hne
      obtain ⟨b2, o2, rfl, hb2, hc2⟩ := HCB.out.resolve_left hne
      have hg : (trRows R Wt L)[k]? = some (tryC (L[k].1) (L[k].2) R Wt).toList := by simp [trRows, hlt]
      generalize L[k].1 = p at *
      generalize L[k].2 = q at *
      have p0 := Low.fact ((hB.cell (p := ⟨b1, o1 + k * 4 + 0, none⟩) hb1).trans (hc1 k _ hg 0 _ rfl))
      have p1 := Low.fact ((hB.cell (p := ⟨b1, o1 + k * 4 + 1, none⟩) hb1).trans (hc1 k _ hg 1 _ rfl))
      have p2 := Low.fact ((hB.cell (p := ⟨b1, o1 + k * 4 + 2, none⟩) hb1).trans (hc1 k _ hg 2 _ rfl))
      have p3 := Low.fact ((hB.cell (p := ⟨b1, o1 + k * 4 + 3, none⟩) hb1).trans (hc1 k _ hg 3 _ rfl))
      have q0 := Low.fact ((hB.cell (p := ⟨b2, o2 + k * 4 + 0, none⟩) hb2).trans (hc2 k _ hg 0 _ rfl))
      have q1 := Low.fact ((hB.cell (p := ⟨b2, o2 + k * 4 + 1, none⟩) hb2).trans (hc2 k _ hg 1 _ rfl))
      have q2 := Low.fact ((hB.cell (p := ⟨b2, o2 + k * 4 + 2, none⟩) hb2).trans (hc2 k _ hg 2 _ rfl))
      have q3 := Low.fact ((hB.cell (p := ⟨b2, o2 + k * 4 + 3, none⟩) hb2).trans (hc2 k _ hg 3 _ rfl))
      rw [Nat.add_zero] at p0 q0
      have kl : (k : Int) < L.length := by omega
      have k0 : (0 : Int) ≤ k := by omega
      have HBk := Lib.hid hB
      have hzB := hB.size
      clear hc1 hc2 hg hB hne
      go_wp2
      (refine wp_region_low (by kernel_rfl) (by kernel_rfl) ?_; (iterate 9 (apply quiet_want; (case hw => rfl); (case hval => (intro w1 hw1; have hcx := Low.cells hw1; simp only [Oper.quietAt]; go_simp; first | done | (first | fail) | rfl | exact ⟨rfl, rfl⟩)); simp only [Act.put, List.setIfInBounds_toArray, List.set_cons_zero, List.set_cons_succ])); refine wpQuiet_nil ?_; intro w2 hw2)
      have BZ := Lib.hid (HBk.out.trans (hw2.out.mono hzB))
      clear hw2 p0 p1 p2 p3 q0 q1 q2 q3
      go_wp2
      go_roundw
      case rel => exact ⟨k + 1, by omega, by go_num, BZ.out⟩
      case measure => simp [intOf]; omega
    · obtain rfl : k = L.length := by omega
      have dk : decide ((L.length : Int) < (L.length : Int)) = false := by simp
      have HBk := Lib.hid hB
      clear hB
      go_wp2
      go_ret
      exact ⟨rfl, HBk.out⟩

end Go.Proofs.YtdpnhckbabjagaaGreat
