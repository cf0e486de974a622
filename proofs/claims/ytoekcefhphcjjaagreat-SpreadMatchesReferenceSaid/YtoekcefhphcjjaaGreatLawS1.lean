/- For all places, radii, missions and stops, valid or not, both functions of layer 32 return what the reference implementation returns. No condition. -/
import Derived.Test.YtoekcefhphcjjaaGreatBin38
import Derived.Test.YtoekcefhphcjjaaGreatBin39
import Derived.Test.YtoekcefhphcjjaaGreatBin40
import Derived.Test.YtoekcefhphcjjaaGreatBin41
import Derived.Test.YtoekcefhphcjjaaGreatBin30
namespace Go.Proofs.YtoekcefhphcjjaaGreat.spreadMatchesReference
open Go.ChangeShapes Go.WideShapes Go.ChangeAt Go.RowKit
set_option linter.unusedVariables false
theorem own : ownKnob Tryz.prog.godebug = none := by kernel_rfl
theorem laidOut : laidOutB Tryz.prog = true := by kernel_rfl
attribute [local irreducible] wpQuiet

set_option linter.unusedSimpArgs false in
set_option linter.unusedVariables false in
set_option maxRecDepth 8000 in
set_option maxHeartbeats 4000000 in
theorem walk (w : World) (ax ay bx by' u v : Int) (m : Msn) (vw vh vr vl : Value) (l : List Int) (_ : (Lit.int .i64 u).wf = true) (_ : (Lit.int .i64 v).wf = true) (hm : MsnAt w.heap.size w m vw vh vr) (hl : IntsAt w.heap.size w vl l) :
    Calls Tryz.prog 3 #[.agg #[.int .i64 ax, .int .i64 ay], .agg #[.int .i64 bx, .int .i64 by'], .int .i64 u, .int .i64 v, .agg (msnCells m vw vh vr), vl] w fun e w' => e = .returned (.bool true) ∧ Below w.heap.size w w' := by
  have f1 := fun w1 => corridor_any ⟨ax, ay⟩ ⟨bx, by'⟩ u v w1
  have f2 := fun w1 => rcorridor_any ⟨ax, ay⟩ ⟨bx, by'⟩ u v w1
  have f3 := fun w1 h1 h2 => radii_all m vw vh vr vl l w1 h1 h2
  have f4 := fun w1 h1 h2 => rradii_all m vw vh vr vl l w1 h1 h2
  have ff := fun w1 h => few_any m vw vh vr w1 h
  have hd := Lib.hid (fun w1 => head32_any w1)
  have M0 := Lib.hid hm
  have L0 := Lib.hid hl
  obtain ⟨⟨-, a1, cap1, rfl, -⟩, ⟨-, a2, cap2, rfl, -⟩, ⟨-, a3, cap3, rfl, -⟩⟩ := hm
  obtain ⟨-, al, capl, rfl, -⟩ := hl
  generalize corE ⟨ax, ay⟩ u ⟨bx, by'⟩ v = ce at *
  generalize corL ⟨ax, ay⟩ u ⟨bx, by'⟩ v = cl at *
  generalize rdBL m l = bl at *
  generalize rdAL m l = al' at *
  generalize rdE m l = re at *
  replace f1 := Lib.hid f1
  replace f2 := Lib.hid f2
  replace f3 := Lib.hid f3
  replace f4 := Lib.hid f4
  replace ff := Lib.hid ff
  have B0 := Lib.hid (Below.refl w.heap.size w)
  unfold msnCells at *
  go_enter Tryz.func3, Tryz.ntmps3
  have q0 := Has.new w #[.int .i64 ax, .int .i64 ay] 23
  have q0 := q0.below ((Below.refl (w.heap.size + 1) _).alloc (by simp) (.cells #[.int .i64 bx, .int .i64 by'] 23)) (by omega)
  have q0 := q0.below ((Below.refl (w.heap.size + 2) _).alloc (by simp) (.cells #[.slice a1 m.ways.length (m.ways.length + cap1), .slice a2 m.home.length (m.home.length + cap2), .int .i64 m.start, .slice a3 m.rocks.length (m.rocks.length + cap3), .int .i64 m.speed, .int .i64 m.part, .int .i64 m.flow, .int .i64 m.idle, .int .i64 m.drive, .int .i64 m.battery, .int .i64 m.deadline] 28)) (by omega)
  have q1 := Has.new (w.alloc (.cells #[.int .i64 ax, .int .i64 ay] 23)) #[.int .i64 bx, .int .i64 by'] 23
  rw [World.size_alloc] at q1
  have q1 := q1.below ((Below.refl (w.heap.size + 2) _).alloc (by simp) (.cells #[.slice a1 m.ways.length (m.ways.length + cap1), .slice a2 m.home.length (m.home.length + cap2), .int .i64 m.start, .slice a3 m.rocks.length (m.rocks.length + cap3), .int .i64 m.speed, .int .i64 m.part, .int .i64 m.flow, .int .i64 m.idle, .int .i64 m.drive, .int .i64 m.battery, .int .i64 m.deadline] 28)) (by omega)
  have q2 := Has.new ((w.alloc (.cells #[.int .i64 ax, .int .i64 ay] 23)).alloc (.cells #[.int .i64 bx, .int .i64 by'] 23)) #[.slice a1 m.ways.length (m.ways.length + cap1), .slice a2 m.home.length (m.home.length + cap2), .int .i64 m.start, .slice a3 m.rocks.length (m.rocks.length + cap3), .int .i64 m.speed, .int .i64 m.part, .int .i64 m.flow, .int .i64 m.idle, .int .i64 m.drive, .int .i64 m.battery, .int .i64 m.deadline] 28
  rw [World.size_alloc, World.size_alloc] at q2
  go_wp2_with fail
  replace M0 := Lib.hid ((M0.out.below ((((Below.refl w.heap.size w).alloc (Nat.le_refl _) (.cells #[.int .i64 ax, .int .i64 ay] 23)).alloc (by simp) (.cells #[.int .i64 bx, .int .i64 by'] 23)).alloc (by simp; omega) (.cells #[.slice a1 m.ways.length (m.ways.length + cap1), .slice a2 m.home.length (m.home.length + cap2), .int .i64 m.start, .slice a3 m.rocks.length (m.rocks.length + cap3), .int .i64 m.speed, .int .i64 m.part, .int .i64 m.flow, .int .i64 m.idle, .int .i64 m.drive, .int .i64 m.battery, .int .i64 m.deadline] 28))).mono ((((Below.refl w.heap.size w).alloc (Nat.le_refl _) (.cells #[.int .i64 ax, .int .i64 ay] 23)).alloc (by simp) (.cells #[.int .i64 bx, .int .i64 by'] 23)).alloc (by simp; omega) (.cells #[.slice a1 m.ways.length (m.ways.length + cap1), .slice a2 m.home.length (m.home.length + cap2), .int .i64 m.start, .slice a3 m.rocks.length (m.rocks.length + cap3), .int .i64 m.speed, .int .i64 m.part, .int .i64 m.flow, .int .i64 m.idle, .int .i64 m.drive, .int .i64 m.battery, .int .i64 m.deadline] 28)).size)
  replace L0 := Lib.hid ((L0.out.below ((((Below.refl w.heap.size w).alloc (Nat.le_refl _) (.cells #[.int .i64 ax, .int .i64 ay] 23)).alloc (by simp) (.cells #[.int .i64 bx, .int .i64 by'] 23)).alloc (by simp; omega) (.cells #[.slice a1 m.ways.length (m.ways.length + cap1), .slice a2 m.home.length (m.home.length + cap2), .int .i64 m.start, .slice a3 m.rocks.length (m.rocks.length + cap3), .int .i64 m.speed, .int .i64 m.part, .int .i64 m.flow, .int .i64 m.idle, .int .i64 m.drive, .int .i64 m.battery, .int .i64 m.deadline] 28))).mono ((((Below.refl w.heap.size w).alloc (Nat.le_refl _) (.cells #[.int .i64 ax, .int .i64 ay] 23)).alloc (by simp) (.cells #[.int .i64 bx, .int .i64 by'] 23)).alloc (by simp; omega) (.cells #[.slice a1 m.ways.length (m.ways.length + cap1), .slice a2 m.home.length (m.home.length + cap2), .int .i64 m.start, .slice a3 m.rocks.length (m.rocks.length + cap3), .int .i64 m.speed, .int .i64 m.part, .int .i64 m.flow, .int .i64 m.idle, .int .i64 m.drive, .int .i64 m.battery, .int .i64 m.deadline] 28)).size)
  have PA := Lib.hid (show Has (((w.alloc (.cells #[.int .i64 ax, .int .i64 ay] 23)).alloc (.cells #[.int .i64 bx, .int .i64 by'] 23)).alloc (.cells #[.slice a1 m.ways.length (m.ways.length + cap1), .slice a2 m.home.length (m.home.length + cap2), .int .i64 m.start, .slice a3 m.rocks.length (m.rocks.length + cap3), .int .i64 m.speed, .int .i64 m.part, .int .i64 m.flow, .int .i64 m.idle, .int .i64 m.drive, .int .i64 m.battery, .int .i64 m.deadline] 28)) (w.heap.size) #[.int .i64 ax, .int .i64 ay] 23 from q0)
  have PB := Lib.hid (show Has (((w.alloc (.cells #[.int .i64 ax, .int .i64 ay] 23)).alloc (.cells #[.int .i64 bx, .int .i64 by'] 23)).alloc (.cells #[.slice a1 m.ways.length (m.ways.length + cap1), .slice a2 m.home.length (m.home.length + cap2), .int .i64 m.start, .slice a3 m.rocks.length (m.rocks.length + cap3), .int .i64 m.speed, .int .i64 m.part, .int .i64 m.flow, .int .i64 m.idle, .int .i64 m.drive, .int .i64 m.battery, .int .i64 m.deadline] 28)) (w.heap.size + 1) #[.int .i64 bx, .int .i64 by'] 23 from q1)
  have MB := Lib.hid (show Has (((w.alloc (.cells #[.int .i64 ax, .int .i64 ay] 23)).alloc (.cells #[.int .i64 bx, .int .i64 by'] 23)).alloc (.cells #[.slice a1 m.ways.length (m.ways.length + cap1), .slice a2 m.home.length (m.home.length + cap2), .int .i64 m.start, .slice a3 m.rocks.length (m.rocks.length + cap3), .int .i64 m.speed, .int .i64 m.part, .int .i64 m.flow, .int .i64 m.idle, .int .i64 m.drive, .int .i64 m.battery, .int .i64 m.deadline] 28)) (w.heap.size + 1 + 1) #[.slice a1 m.ways.length (m.ways.length + cap1), .slice a2 m.home.length (m.home.length + cap2), .int .i64 m.start, .slice a3 m.rocks.length (m.rocks.length + cap3), .int .i64 m.speed, .int .i64 m.part, .int .i64 m.flow, .int .i64 m.idle, .int .i64 m.drive, .int .i64 m.battery, .int .i64 m.deadline] 28 from q2)
  have BX0 := Lib.hid (B0.out.trans ((((((Below.refl w.heap.size w).alloc (Nat.le_refl _) (.cells #[.int .i64 ax, .int .i64 ay] 23)).alloc (by simp) (.cells #[.int .i64 bx, .int .i64 by'] 23)).alloc (by simp; omega) (.cells #[.slice a1 m.ways.length (m.ways.length + cap1), .slice a2 m.home.length (m.home.length + cap2), .int .i64 m.start, .slice a3 m.rocks.length (m.rocks.length + cap3), .int .i64 m.speed, .int .i64 m.part, .int .i64 m.flow, .int .i64 m.idle, .int .i64 m.drive, .int .i64 m.battery, .int .i64 m.deadline] 28))).mono B0.out.size))
  generalize hXX0 : (((w.alloc (.cells #[.int .i64 ax, .int .i64 ay] 23)).alloc (.cells #[.int .i64 bx, .int .i64 by'] 23)).alloc (.cells #[.slice a1 m.ways.length (m.ways.length + cap1), .slice a2 m.home.length (m.home.length + cap2), .int .i64 m.start, .slice a3 m.rocks.length (m.rocks.length + cap3), .int .i64 m.speed, .int .i64 m.part, .int .i64 m.flow, .int .i64 m.idle, .int .i64 m.drive, .int .i64 m.battery, .int .i64 m.deadline] 28)) = X0 at *
  clear hXX0
  obtain ⟨c0, c1, c2, c3, c4, c5, c6, c7, c8, c9, c10⟩ := msn_cells (m := m) MB.out
  have x0 := PA.out.cell (i := 0) rfl; have x1 := PA.out.cell (i := 1) rfl
  have y0 := PB.out.cell (i := 0) rfl; have y1 := PB.out.cell (i := 1) rfl
  clear q0 q1 q2
  have hz0 := BX0.out.size
  refine (hd.out _).mono ?_
  rintro e w1 ⟨rfl, b1⟩
  have B1 := Lib.hid (BX0.out.trans (b1.mono BX0.out.size))
  replace M0 := Lib.hid ((M0.out.below b1).mono b1.size)
  replace L0 := Lib.hid ((L0.out.below b1).mono b1.size)
  replace PA := Lib.hid (PA.out.below b1 PA.out.lt)
  replace PB := Lib.hid (PB.out.below b1 PB.out.lt)
  replace MB := Lib.hid (MB.out.below b1 MB.out.lt)
  clear b1
  clear c0 c1 c2 c3 c4 c5 c6 c7 c8 c9 c10 x0 x1 y0 y1
  obtain ⟨c0, c1, c2, c3, c4, c5, c6, c7, c8, c9, c10⟩ := msn_cells (m := m) MB.out
  have x0 := PA.out.cell (i := 0) rfl; have x1 := PA.out.cell (i := 1) rfl
  have y0 := PB.out.cell (i := 0) rfl; have y1 := PB.out.cell (i := 1) rfl
  go_wp2_with fail
  refine (ff.out _ M0.out).mono ?_
  rintro e w2 ⟨rfl, b2⟩
  have B2 := Lib.hid (B1.out.trans (b2.mono B1.out.size))
  replace M0 := Lib.hid ((M0.out.below b2).mono b2.size)
  replace L0 := Lib.hid ((L0.out.below b2).mono b2.size)
  replace PA := Lib.hid (PA.out.below b2 PA.out.lt)
  replace PB := Lib.hid (PB.out.below b2 PB.out.lt)
  replace MB := Lib.hid (MB.out.below b2 MB.out.lt)
  clear b2
  clear c0 c1 c2 c3 c4 c5 c6 c7 c8 c9 c10 x0 x1 y0 y1
  obtain ⟨c0, c1, c2, c3, c4, c5, c6, c7, c8, c9, c10⟩ := msn_cells (m := m) MB.out
  have x0 := PA.out.cell (i := 0) rfl; have x1 := PA.out.cell (i := 1) rfl
  have y0 := PB.out.cell (i := 0) rfl; have y1 := PB.out.cell (i := 1) rfl
  cases hfew : fewB m
  · go_wp2
    go_ret
    exact ⟨rfl, B2.out⟩
  clear hfew
  by_cases hln : (60 : Int) < l.length
  · have dl : decide ((l.length : Int) > 60) = true := by rw [decide_eq_true_eq]; omega
    go_wp2
    go_ret
    exact ⟨rfl, B2.out⟩
  have dl : decide ((l.length : Int) > 60) = false := by rw [decide_eq_false_iff_not]; omega
  go_wp2_with fail
  refine (f1.out _).mono ?_
  rintro e w3 ⟨v3, rfl, p3, b3⟩
  have B3 := Lib.hid (B2.out.trans (b3.mono B2.out.size))
  replace M0 := Lib.hid ((M0.out.below b3).mono b3.size)
  replace L0 := Lib.hid ((L0.out.below b3).mono b3.size)
  replace PA := Lib.hid (PA.out.below b3 PA.out.lt)
  replace PB := Lib.hid (PB.out.below b3 PB.out.lt)
  replace MB := Lib.hid (MB.out.below b3 MB.out.lt)
  obtain ⟨ga3, gc3, hv3⟩ := p3.len
  subst hv3
  have P1 := Lib.hid p3
  clear p3
  clear b3
  clear c0 c1 c2 c3 c4 c5 c6 c7 c8 c9 c10 x0 x1 y0 y1
  obtain ⟨c0, c1, c2, c3, c4, c5, c6, c7, c8, c9, c10⟩ := msn_cells (m := m) MB.out
  have x0 := PA.out.cell (i := 0) rfl; have x1 := PA.out.cell (i := 1) rfl
  have y0 := PB.out.cell (i := 0) rfl; have y1 := PB.out.cell (i := 1) rfl
  go_wp2_with fail
  refine (f2.out _).mono ?_
  rintro e w4 ⟨v4, rfl, p4, b4⟩
  have B4 := Lib.hid (B3.out.trans (b4.mono B3.out.size))
  replace M0 := Lib.hid ((M0.out.below b4).mono b4.size)
  replace L0 := Lib.hid ((L0.out.below b4).mono b4.size)
  replace PA := Lib.hid (PA.out.below b4 PA.out.lt)
  replace PB := Lib.hid (PB.out.below b4 PB.out.lt)
  replace MB := Lib.hid (MB.out.below b4 MB.out.lt)
  replace P1 := Lib.hid ((P1.out.below b4).mono b4.size)
  obtain ⟨ga4, gc4, hv4⟩ := p4.len
  subst hv4
  have P2 := Lib.hid p4
  clear p4
  clear b4
  clear c0 c1 c2 c3 c4 c5 c6 c7 c8 c9 c10 x0 x1 y0 y1
  obtain ⟨c0, c1, c2, c3, c4, c5, c6, c7, c8, c9, c10⟩ := msn_cells (m := m) MB.out
  have x0 := PA.out.cell (i := 0) rfl; have x1 := PA.out.cell (i := 1) rfl
  have y0 := PB.out.cell (i := 0) rfl; have y1 := PB.out.cell (i := 1) rfl
  go_wp2_with fail
  have dc : decide (cl = cl) = true := by simp
  refine (samepts_any _ _ cl cl _ P1.out P2.out).mono ?_
  rintro e w5 ⟨rfl, b5⟩
  have B5 := Lib.hid (B4.out.trans (b5.mono B4.out.size))
  clear P1
  clear P2
  replace M0 := Lib.hid ((M0.out.below b5).mono b5.size)
  replace L0 := Lib.hid ((L0.out.below b5).mono b5.size)
  replace PA := Lib.hid (PA.out.below b5 PA.out.lt)
  replace PB := Lib.hid (PB.out.below b5 PB.out.lt)
  replace MB := Lib.hid (MB.out.below b5 MB.out.lt)
  clear b5
  clear c0 c1 c2 c3 c4 c5 c6 c7 c8 c9 c10 x0 x1 y0 y1
  obtain ⟨c0, c1, c2, c3, c4, c5, c6, c7, c8, c9, c10⟩ := msn_cells (m := m) MB.out
  have x0 := PA.out.cell (i := 0) rfl; have x1 := PA.out.cell (i := 1) rfl
  have y0 := PB.out.cell (i := 0) rfl; have y1 := PB.out.cell (i := 1) rfl
  go_wp2_with fail
  refine (f3.out _ M0.out L0.out).mono ?_
  rintro e w6 ⟨v6, u6, rfl, p6, q6, b6⟩
  have B6 := Lib.hid (B5.out.trans (b6.mono B5.out.size))
  replace M0 := Lib.hid ((M0.out.below b6).mono b6.size)
  replace L0 := Lib.hid ((L0.out.below b6).mono b6.size)
  replace PA := Lib.hid (PA.out.below b6 PA.out.lt)
  replace PB := Lib.hid (PB.out.below b6 PB.out.lt)
  replace MB := Lib.hid (MB.out.below b6 MB.out.lt)
  have I1 := Lib.hid p6
  have I2 := Lib.hid q6
  obtain ⟨-, ga6, gc6, hv6, -⟩ := p6
  obtain ⟨-, ga6', gc6', hv6', -⟩ := q6
  subst hv6
  subst hv6'
  clear b6
  clear c0 c1 c2 c3 c4 c5 c6 c7 c8 c9 c10 x0 x1 y0 y1
  obtain ⟨c0, c1, c2, c3, c4, c5, c6, c7, c8, c9, c10⟩ := msn_cells (m := m) MB.out
  have x0 := PA.out.cell (i := 0) rfl; have x1 := PA.out.cell (i := 1) rfl
  have y0 := PB.out.cell (i := 0) rfl; have y1 := PB.out.cell (i := 1) rfl
  go_wp2_with fail
  refine (f4.out _ M0.out L0.out).mono ?_
  rintro e w7 ⟨v7, u7, rfl, p7, q7, b7⟩
  have B7 := Lib.hid (B6.out.trans (b7.mono B6.out.size))
  replace M0 := Lib.hid ((M0.out.below b7).mono b7.size)
  replace L0 := Lib.hid ((L0.out.below b7).mono b7.size)
  replace PA := Lib.hid (PA.out.below b7 PA.out.lt)
  replace PB := Lib.hid (PB.out.below b7 PB.out.lt)
  replace MB := Lib.hid (MB.out.below b7 MB.out.lt)
  replace I1 := Lib.hid ((I1.out.below b7).mono b7.size)
  replace I2 := Lib.hid ((I2.out.below b7).mono b7.size)
  have I3 := Lib.hid p7
  have I4 := Lib.hid q7
  obtain ⟨-, ga7, gc7, hv7, -⟩ := p7
  obtain ⟨-, ga7', gc7', hv7', -⟩ := q7
  subst hv7
  subst hv7'
  clear b7
  clear c0 c1 c2 c3 c4 c5 c6 c7 c8 c9 c10 x0 x1 y0 y1
  obtain ⟨c0, c1, c2, c3, c4, c5, c6, c7, c8, c9, c10⟩ := msn_cells (m := m) MB.out
  have x0 := PA.out.cell (i := 0) rfl; have x1 := PA.out.cell (i := 1) rfl
  have y0 := PB.out.cell (i := 0) rfl; have y1 := PB.out.cell (i := 1) rfl
  go_wp2_with fail
  have db : decide (bl = bl) = true := by simp
  refine (same32_any _ _ bl bl _ I1.out I3.out).mono ?_
  rintro e w8 ⟨rfl, b8⟩
  have B8 := Lib.hid (B7.out.trans (b8.mono B7.out.size))
  clear I1
  clear I3
  replace M0 := Lib.hid ((M0.out.below b8).mono b8.size)
  replace L0 := Lib.hid ((L0.out.below b8).mono b8.size)
  replace PA := Lib.hid (PA.out.below b8 PA.out.lt)
  replace PB := Lib.hid (PB.out.below b8 PB.out.lt)
  replace MB := Lib.hid (MB.out.below b8 MB.out.lt)
  replace I2 := Lib.hid ((I2.out.below b8).mono b8.size)
  replace I4 := Lib.hid ((I4.out.below b8).mono b8.size)
  clear b8
  clear c0 c1 c2 c3 c4 c5 c6 c7 c8 c9 c10 x0 x1 y0 y1
  obtain ⟨c0, c1, c2, c3, c4, c5, c6, c7, c8, c9, c10⟩ := msn_cells (m := m) MB.out
  have x0 := PA.out.cell (i := 0) rfl; have x1 := PA.out.cell (i := 1) rfl
  have y0 := PB.out.cell (i := 0) rfl; have y1 := PB.out.cell (i := 1) rfl
  go_wp2_with fail
  have da : decide (al' = al') = true := by simp
  refine (same32_any _ _ al' al' _ I2.out I4.out).mono ?_
  rintro e w9 ⟨rfl, b9⟩
  have B9 := Lib.hid (B8.out.trans (b9.mono B8.out.size))
  clear I2
  clear I4
  replace M0 := Lib.hid ((M0.out.below b9).mono b9.size)
  replace L0 := Lib.hid ((L0.out.below b9).mono b9.size)
  replace PA := Lib.hid (PA.out.below b9 PA.out.lt)
  replace PB := Lib.hid (PB.out.below b9 PB.out.lt)
  replace MB := Lib.hid (MB.out.below b9 MB.out.lt)
  clear b9
  clear c0 c1 c2 c3 c4 c5 c6 c7 c8 c9 c10 x0 x1 y0 y1
  obtain ⟨c0, c1, c2, c3, c4, c5, c6, c7, c8, c9, c10⟩ := msn_cells (m := m) MB.out
  have x0 := PA.out.cell (i := 0) rfl; have x1 := PA.out.cell (i := 1) rfl
  have y0 := PB.out.cell (i := 0) rfl; have y1 := PB.out.cell (i := 1) rfl
  clear c0 c1 c2 c3 c4 c5 c6 c7 c8 c9 c10 x0 x1 y0 y1
  go_wp2
  go_ret
  exact ⟨rfl, B9.out⟩

set_option maxRecDepth 100000 in
theorem lifted (os : Os) (started : os.Started) (H : Type) (enc : TypeId × Value → H) :
    ReturnsInHanded {} Tryz.checked os 3 .any (Rows.spreadMatchesReferenceSpec.pre6 enc Tryz.prog Tryz.f3 Rows.spreadMatchesReferenceRow.domain false) (Rows.spreadMatchesReferenceSpec.post enc Tryz.prog Tryz.f3 false true false false) := by
  refine returnsInHanded_of_change_sized (C := Tryz.checked) own started (by kernel_rfl) Tryz.func3
    (ChangeSpec.witness6 (enc := enc) (C := Tryz.checked) false ⟨#[], #[.agg #[.int .i64 0, .int .i64 0], .agg #[.int .i64 0, .int .i64 0], .int .i64 0, .int .i64 0, .agg #[.slice none 0 0, .slice none 0 0, .int .i64 0, .slice none 0 0, .int .i64 0, .int .i64 0, .int .i64 0, .int .i64 0, .int .i64 0, .int .i64 0, .int .i64 0], .slice none 0 0], []⟩ 8 (by kernel_rfl) (by kernel_rfl) (by kernel_rfl) (by kernel_rfl)) ?_
  intro W base args ds gs before hval0 hW hcnd hsz0 _
  have hval : ∀ (j : Nat) t v, Tryz.f3.params[j]? = some t → args[j]? = some v → Value.okWide Tryz.prog W .any base t v := hval0
  have hW' := hW
  obtain ⟨p, q, hA0, hV, rfl, hfz, hnd⟩ := hW
  have hA : DataW.TrodAll enc Tryz.prog W 0 (fun _ => true) true Tryz.f3.params.toList args.toList ds p := hA0
  have hsz : (DataW.weightsEach Tryz.prog (Tryz.f3.params.toList ++ Rows.spreadMatchesReferenceSpec.plain.varTypes Tryz.prog) (ds ++ gs)).all (· ≤ reachBytes) = true := hsz0
  rw [Tryz.params3] at hA hval hsz
  obtain ⟨v0, vs0, d0, ds0, p0, q0, hargs, rfl, rfl, h0, r0⟩ := trodAll_cons hA
  obtain ⟨v1, vs1, d1, ds1, p1, q1, rfl, rfl, rfl, h1, r1⟩ := trodAll_cons r0
  obtain ⟨v2, vs2, d2, ds2, p2, q2, rfl, rfl, rfl, h2, r2⟩ := trodAll_cons r1
  obtain ⟨v3, vs3, d3, ds3, p3, q3, rfl, rfl, rfl, h3, r3⟩ := trodAll_cons r2
  obtain ⟨v4, vs4, d4, ds4, p4, q4, rfl, rfl, rfl, h4, r4⟩ := trodAll_cons r3
  obtain ⟨v5, vs5, d5, ds5, p5, q5, rfl, rfl, rfl, h5, r5⟩ := trodAll_cons r4
  obtain ⟨rfl, rfl, rfl⟩ := trodAll_nil r5
  obtain rfl : args = #[v0, v1, v2, v3, v4, v5] := by cases args; simp_all
  obtain ⟨rfl, rfl⟩ := trodVars_none hV
  have k0 := h0
  have lt0 : ∀ x ∈ p0, x.block < W.heap.size := by obtain ⟨m, hm⟩ := k0; exact DataW.trod_lt m _ _ _ hm
  obtain ⟨a0, b0, rfl⟩ := open_point (hval 0 23 v0 rfl rfl) h0
  have k1 := h1
  have lt1 : ∀ x ∈ p1, x.block < W.heap.size := by obtain ⟨m, hm⟩ := k1; exact DataW.trod_lt m _ _ _ hm
  obtain ⟨a1, b1, rfl⟩ := open_point (hval 1 23 v1 rfl rfl) h1
  obtain ⟨a2, rfl, rfl, rfl, w2⟩ := open_int Tryz.underlying3 (hval 2 3 v2 rfl rfl) h2
  obtain ⟨a3, rfl, rfl, rfl, w3⟩ := open_int Tryz.underlying3 (hval 3 3 v3 rfl rfl) h3
  have k4 := h4
  have lt4 : ∀ x ∈ p4, x.block < W.heap.size := by obtain ⟨m, hm⟩ := k4; exact DataW.trod_lt m _ _ _ hm
  have z4 : ∀ n ∈ d4.weights Tryz.prog 28, n ≤ reachBytes := fun n hn => by have := List.all_eq_true.1 hsz n (DataW.weights_mem_each (j := 4) (t := 28) (d := d4) rfl rfl n hn); simpa using this
  obtain ⟨a4, vw4, vh4, vr4, rfl, w4⟩ := open_msn (hval 4 28 v4 rfl rfl) h4 z4
  have k5 := h5
  have lt5 : ∀ x ∈ p5, x.block < W.heap.size := by obtain ⟨m, hm⟩ := k5; exact DataW.trod_lt m _ _ _ hm
  have z5 : ∀ n ∈ d5.weights Tryz.prog 29, n ≤ reachBytes := fun n hn => by have := List.all_eq_true.1 hsz n (DataW.weights_mem_each (j := 5) (t := 29) (d := d5) rfl rfl n hn); simpa using this
  obtain ⟨a5, w5⟩ := open_ints_arg (hval 5 29 v5 rfl rfl) h5 z5
  clear hA0 hval0
  refine (walk W a0 b0 a1 b1 a2 a3 a4 vw4 vh4 vr4 v5 a5 w2 w3 w4 w5).mono fun e W' ⟨he, bel⟩ => ?_
  subst he
  exact ⟨_, rfl, _, _, _, [], _, [], hW', trodAll_mk1 (shut_bool Tryz.underlying4 _), (trodAll_cons_mk (Below.trod laidOut (by kernel_rfl) (of_decide_eq_true (by kernel_rfl)) k0 bel lt0) (trodAll_cons_mk (Below.trod laidOut (by kernel_rfl) (of_decide_eq_true (by kernel_rfl)) k1 bel lt1) (trodAll_cons_mk (shut_int Tryz.underlying3 w2) (trodAll_cons_mk (shut_int Tryz.underlying3 w3) (trodAll_cons_mk (Below.trod laidOut (by kernel_rfl) (of_decide_eq_true (by kernel_rfl)) k4 bel lt4) (trodAll_cons_mk (Below.trod laidOut (by kernel_rfl) (of_decide_eq_true (by kernel_rfl)) k5 bel lt5) trodAll_mk0)))))), rfl, bel.frame _, fun h => by cases h⟩

theorem over : Rows.spreadMatchesReferenceRow.holds Tryz.pinned (OpenSpec.ofChange Rows.spreadMatchesReferenceSpec) :=
  OpenClaim.holds_of_wide 3 Tryz.f3 rfl rfl rfl rfl rfl rfl rfl ⟨rfl, rfl, rfl, rfl, rfl⟩ rfl rfl rfl rfl rfl (by kernel_rfl) Tryz.func3 (by kernel_rfl)
    (of_decide_eq_true (by kernel_rfl)) (by unfold Func.isWrapper; first | (rw [if_pos (by decide +kernel)]; kernel_rfl) | (rw [if_neg (by decide +kernel)]; exact ⟨rfl, rfl⟩))
    (fun os started H enc _ => lifted os started H enc)

/-- the statement -/
theorem proved : Rows.SpreadMatchesReferenceSaid := over
#print axioms proved
end Go.Proofs.YtoekcefhphcjjaaGreat.spreadMatchesReference
