/- For all polygons, missions, stops and trysts, valid or not, all functions of layer 38 return what the reference implementation returns. No condition. -/
import Derived.Test.YtdpnhckbabjagaaGreatBin35
import Derived.Test.YtdpnhckbabjagaaGreatBin30
namespace Go.Proofs.YtdpnhckbabjagaaGreat.trystMatchesReference
open Go.ChangeShapes Go.WideShapes Go.ChangeAt Go.RowKit
set_option linter.unusedVariables false
theorem own : ownKnob Tryz.prog.godebug = none := by kernel_rfl
theorem laidOut : laidOutB Tryz.prog = true := by kernel_rfl
attribute [local irreducible] wpQuiet

set_option linter.unusedSimpArgs false in
set_option linter.unusedVariables false in
set_option maxRecDepth 8000 in
set_option maxHeartbeats 4000000 in
theorem walk (w : World) (vp : Value) (p : List Pt) (vq : Value) (q : List Pt) (m : Msn) (vw vh vr : Value) (o : Msn) (vwo vho vro : Value) (vl : Value) (l : List Int) (vlo : Value) (lo : List Int) (ta tb R Wt : Int) (hp : PtsAt w.heap.size w vp p) (hq : PtsAt w.heap.size w vq q) (hm : MsnAt w.heap.size w m vw vh vr) (hmo : MsnAt w.heap.size w o vwo vho vro) (hl : IntsAt w.heap.size w vl l) (hlo : IntsAt w.heap.size w vlo lo) :
    Calls Tryz.prog 3 #[vp, vq, .agg (msnCells m vw vh vr), .agg (msnCells o vwo vho vro), vl, vlo, .agg #[.int .i64 ta, .int .i64 tb, .int .i64 R, .int .i64 Wt]] w fun e w' => e = .returned (.bool true) ∧ Below w.heap.size w w' := by
  have f1 := fun w1 h1 h2 => range_any vp vq p q w1 h1 h2
  have f2 := fun w1 h1 h2 => rrange_any vp vq p q w1 h1 h2
  have f3 := fun w1 h1 h2 h3 h4 => tmeets_any m o vw vh vr vl vwo vho vro vlo l lo ta tb R Wt w1 h1 h2 h3 h4
  have f4 := fun w1 h1 h2 h3 h4 => rmeets_any m o vw vh vr vl vwo vho vro vlo l lo ta tb R Wt w1 h1 h2 h3 h4
  have f5 := fun w1 h1 h2 h3 h4 => tways_any m o vw vh vr vl vwo vho vro vlo l lo R Wt w1 h1 h2 h3 h4
  have f6 := fun w1 h1 h2 h3 h4 => rways_any m o vw vh vr vl vwo vho vro vlo l lo R Wt w1 h1 h2 h3 h4
  have fp := fun w1 h => few03_any vp p w1 h
  have fq := fun w1 h => few03_any vq q w1 h
  have PP := Lib.hid hp
  have QQ := Lib.hid hq
  have MM := Lib.hid hm
  have ML := Lib.hid hl
  have OM := Lib.hid hmo
  have OL := Lib.hid hlo
  have ff := Lib.hid (fun w1 h1 h2 h3 h4 => few38_any m o vw vh vr vl vwo vho vro vlo l lo w1 h1 h2 h3 h4)
  have hd := Lib.hid (fun w1 => head38_any w1)
  obtain ⟨ap, cp, rfl⟩ := hp.len
  obtain ⟨aq, cq, rfl⟩ := hq.len
  obtain ⟨⟨-, a1, c1, rfl, -⟩, ⟨-, a2, c2, rfl, -⟩, ⟨-, a3, c3, rfl, -⟩⟩ := hm
  obtain ⟨⟨-, a1o, c1o, rfl, -⟩, ⟨-, a2o, c2o, rfl, -⟩, ⟨-, a3o, c3o, rfl, -⟩⟩ := hmo
  obtain ⟨-, al, cl, rfl, -⟩ := hl
  obtain ⟨-, alo, clo, rfl, -⟩ := hlo
  unfold msnCells at *
  generalize rangeV p q = rv at *
  generalize rangeE p q = re at *
  generalize (askB m l o lo ta tb R Wt && meetB m l o lo ta.toNat tb.toNat R Wt) = bm at *
  generalize errB (askB m l o lo ta tb R Wt) = em at *
  generalize errB (waskB m l o lo R Wt) = ew at *
  generalize trL m l o lo R Wt = tl at *
  generalize decide (p.length ≤ 80) = b1 at *
  generalize decide (q.length ≤ 80) = b2 at *
  replace f1 := Lib.hid f1
  replace f2 := Lib.hid f2
  replace f3 := Lib.hid f3
  replace f4 := Lib.hid f4
  replace f5 := Lib.hid f5
  replace f6 := Lib.hid f6
  replace fp := Lib.hid fp
  replace fq := Lib.hid fq
  have B0 := Lib.hid (Below.refl w.heap.size w)
  clear hp hq
  go_enter Tryz.func3, Tryz.ntmps3
  have q0 := Has.new w #[.slice a1 m.ways.length (m.ways.length + c1), .slice a2 m.home.length (m.home.length + c2), .int .i64 m.start, .slice a3 m.rocks.length (m.rocks.length + c3), .int .i64 m.speed, .int .i64 m.part, .int .i64 m.flow, .int .i64 m.idle, .int .i64 m.drive, .int .i64 m.battery, .int .i64 m.deadline] 26
  have q0 := q0.below ((Below.refl (w.heap.size + 1) _).alloc (by simp) (.cells #[.slice a1o o.ways.length (o.ways.length + c1o), .slice a2o o.home.length (o.home.length + c2o), .int .i64 o.start, .slice a3o o.rocks.length (o.rocks.length + c3o), .int .i64 o.speed, .int .i64 o.part, .int .i64 o.flow, .int .i64 o.idle, .int .i64 o.drive, .int .i64 o.battery, .int .i64 o.deadline] 26)) (by omega)
  have q0 := q0.below ((Below.refl (w.heap.size + 2) _).alloc (by simp) (.cells #[.int .i64 ta, .int .i64 tb, .int .i64 R, .int .i64 Wt] 29)) (by omega)
  have q1 := Has.new (w.alloc (.cells #[.slice a1 m.ways.length (m.ways.length + c1), .slice a2 m.home.length (m.home.length + c2), .int .i64 m.start, .slice a3 m.rocks.length (m.rocks.length + c3), .int .i64 m.speed, .int .i64 m.part, .int .i64 m.flow, .int .i64 m.idle, .int .i64 m.drive, .int .i64 m.battery, .int .i64 m.deadline] 26)) #[.slice a1o o.ways.length (o.ways.length + c1o), .slice a2o o.home.length (o.home.length + c2o), .int .i64 o.start, .slice a3o o.rocks.length (o.rocks.length + c3o), .int .i64 o.speed, .int .i64 o.part, .int .i64 o.flow, .int .i64 o.idle, .int .i64 o.drive, .int .i64 o.battery, .int .i64 o.deadline] 26
  rw [World.size_alloc] at q1
  have q1 := q1.below ((Below.refl (w.heap.size + 2) _).alloc (by simp) (.cells #[.int .i64 ta, .int .i64 tb, .int .i64 R, .int .i64 Wt] 29)) (by omega)
  have q2 := Has.new ((w.alloc (.cells #[.slice a1 m.ways.length (m.ways.length + c1), .slice a2 m.home.length (m.home.length + c2), .int .i64 m.start, .slice a3 m.rocks.length (m.rocks.length + c3), .int .i64 m.speed, .int .i64 m.part, .int .i64 m.flow, .int .i64 m.idle, .int .i64 m.drive, .int .i64 m.battery, .int .i64 m.deadline] 26)).alloc (.cells #[.slice a1o o.ways.length (o.ways.length + c1o), .slice a2o o.home.length (o.home.length + c2o), .int .i64 o.start, .slice a3o o.rocks.length (o.rocks.length + c3o), .int .i64 o.speed, .int .i64 o.part, .int .i64 o.flow, .int .i64 o.idle, .int .i64 o.drive, .int .i64 o.battery, .int .i64 o.deadline] 26)) #[.int .i64 ta, .int .i64 tb, .int .i64 R, .int .i64 Wt] 29
  rw [World.size_alloc, World.size_alloc] at q2
  go_wp2_with fail
  replace MM := Lib.hid ((MM.out.below ((((Below.refl w.heap.size w).alloc (Nat.le_refl _) (.cells #[.slice a1 m.ways.length (m.ways.length + c1), .slice a2 m.home.length (m.home.length + c2), .int .i64 m.start, .slice a3 m.rocks.length (m.rocks.length + c3), .int .i64 m.speed, .int .i64 m.part, .int .i64 m.flow, .int .i64 m.idle, .int .i64 m.drive, .int .i64 m.battery, .int .i64 m.deadline] 26)).alloc (by simp) (.cells #[.slice a1o o.ways.length (o.ways.length + c1o), .slice a2o o.home.length (o.home.length + c2o), .int .i64 o.start, .slice a3o o.rocks.length (o.rocks.length + c3o), .int .i64 o.speed, .int .i64 o.part, .int .i64 o.flow, .int .i64 o.idle, .int .i64 o.drive, .int .i64 o.battery, .int .i64 o.deadline] 26)).alloc (by simp; omega) (.cells #[.int .i64 ta, .int .i64 tb, .int .i64 R, .int .i64 Wt] 29))).mono ((((Below.refl w.heap.size w).alloc (Nat.le_refl _) (.cells #[.slice a1 m.ways.length (m.ways.length + c1), .slice a2 m.home.length (m.home.length + c2), .int .i64 m.start, .slice a3 m.rocks.length (m.rocks.length + c3), .int .i64 m.speed, .int .i64 m.part, .int .i64 m.flow, .int .i64 m.idle, .int .i64 m.drive, .int .i64 m.battery, .int .i64 m.deadline] 26)).alloc (by simp) (.cells #[.slice a1o o.ways.length (o.ways.length + c1o), .slice a2o o.home.length (o.home.length + c2o), .int .i64 o.start, .slice a3o o.rocks.length (o.rocks.length + c3o), .int .i64 o.speed, .int .i64 o.part, .int .i64 o.flow, .int .i64 o.idle, .int .i64 o.drive, .int .i64 o.battery, .int .i64 o.deadline] 26)).alloc (by simp; omega) (.cells #[.int .i64 ta, .int .i64 tb, .int .i64 R, .int .i64 Wt] 29)).size)
  replace ML := Lib.hid ((ML.out.below ((((Below.refl w.heap.size w).alloc (Nat.le_refl _) (.cells #[.slice a1 m.ways.length (m.ways.length + c1), .slice a2 m.home.length (m.home.length + c2), .int .i64 m.start, .slice a3 m.rocks.length (m.rocks.length + c3), .int .i64 m.speed, .int .i64 m.part, .int .i64 m.flow, .int .i64 m.idle, .int .i64 m.drive, .int .i64 m.battery, .int .i64 m.deadline] 26)).alloc (by simp) (.cells #[.slice a1o o.ways.length (o.ways.length + c1o), .slice a2o o.home.length (o.home.length + c2o), .int .i64 o.start, .slice a3o o.rocks.length (o.rocks.length + c3o), .int .i64 o.speed, .int .i64 o.part, .int .i64 o.flow, .int .i64 o.idle, .int .i64 o.drive, .int .i64 o.battery, .int .i64 o.deadline] 26)).alloc (by simp; omega) (.cells #[.int .i64 ta, .int .i64 tb, .int .i64 R, .int .i64 Wt] 29))).mono ((((Below.refl w.heap.size w).alloc (Nat.le_refl _) (.cells #[.slice a1 m.ways.length (m.ways.length + c1), .slice a2 m.home.length (m.home.length + c2), .int .i64 m.start, .slice a3 m.rocks.length (m.rocks.length + c3), .int .i64 m.speed, .int .i64 m.part, .int .i64 m.flow, .int .i64 m.idle, .int .i64 m.drive, .int .i64 m.battery, .int .i64 m.deadline] 26)).alloc (by simp) (.cells #[.slice a1o o.ways.length (o.ways.length + c1o), .slice a2o o.home.length (o.home.length + c2o), .int .i64 o.start, .slice a3o o.rocks.length (o.rocks.length + c3o), .int .i64 o.speed, .int .i64 o.part, .int .i64 o.flow, .int .i64 o.idle, .int .i64 o.drive, .int .i64 o.battery, .int .i64 o.deadline] 26)).alloc (by simp; omega) (.cells #[.int .i64 ta, .int .i64 tb, .int .i64 R, .int .i64 Wt] 29)).size)
  replace OM := Lib.hid ((OM.out.below ((((Below.refl w.heap.size w).alloc (Nat.le_refl _) (.cells #[.slice a1 m.ways.length (m.ways.length + c1), .slice a2 m.home.length (m.home.length + c2), .int .i64 m.start, .slice a3 m.rocks.length (m.rocks.length + c3), .int .i64 m.speed, .int .i64 m.part, .int .i64 m.flow, .int .i64 m.idle, .int .i64 m.drive, .int .i64 m.battery, .int .i64 m.deadline] 26)).alloc (by simp) (.cells #[.slice a1o o.ways.length (o.ways.length + c1o), .slice a2o o.home.length (o.home.length + c2o), .int .i64 o.start, .slice a3o o.rocks.length (o.rocks.length + c3o), .int .i64 o.speed, .int .i64 o.part, .int .i64 o.flow, .int .i64 o.idle, .int .i64 o.drive, .int .i64 o.battery, .int .i64 o.deadline] 26)).alloc (by simp; omega) (.cells #[.int .i64 ta, .int .i64 tb, .int .i64 R, .int .i64 Wt] 29))).mono ((((Below.refl w.heap.size w).alloc (Nat.le_refl _) (.cells #[.slice a1 m.ways.length (m.ways.length + c1), .slice a2 m.home.length (m.home.length + c2), .int .i64 m.start, .slice a3 m.rocks.length (m.rocks.length + c3), .int .i64 m.speed, .int .i64 m.part, .int .i64 m.flow, .int .i64 m.idle, .int .i64 m.drive, .int .i64 m.battery, .int .i64 m.deadline] 26)).alloc (by simp) (.cells #[.slice a1o o.ways.length (o.ways.length + c1o), .slice a2o o.home.length (o.home.length + c2o), .int .i64 o.start, .slice a3o o.rocks.length (o.rocks.length + c3o), .int .i64 o.speed, .int .i64 o.part, .int .i64 o.flow, .int .i64 o.idle, .int .i64 o.drive, .int .i64 o.battery, .int .i64 o.deadline] 26)).alloc (by simp; omega) (.cells #[.int .i64 ta, .int .i64 tb, .int .i64 R, .int .i64 Wt] 29)).size)
  replace OL := Lib.hid ((OL.out.below ((((Below.refl w.heap.size w).alloc (Nat.le_refl _) (.cells #[.slice a1 m.ways.length (m.ways.length + c1), .slice a2 m.home.length (m.home.length + c2), .int .i64 m.start, .slice a3 m.rocks.length (m.rocks.length + c3), .int .i64 m.speed, .int .i64 m.part, .int .i64 m.flow, .int .i64 m.idle, .int .i64 m.drive, .int .i64 m.battery, .int .i64 m.deadline] 26)).alloc (by simp) (.cells #[.slice a1o o.ways.length (o.ways.length + c1o), .slice a2o o.home.length (o.home.length + c2o), .int .i64 o.start, .slice a3o o.rocks.length (o.rocks.length + c3o), .int .i64 o.speed, .int .i64 o.part, .int .i64 o.flow, .int .i64 o.idle, .int .i64 o.drive, .int .i64 o.battery, .int .i64 o.deadline] 26)).alloc (by simp; omega) (.cells #[.int .i64 ta, .int .i64 tb, .int .i64 R, .int .i64 Wt] 29))).mono ((((Below.refl w.heap.size w).alloc (Nat.le_refl _) (.cells #[.slice a1 m.ways.length (m.ways.length + c1), .slice a2 m.home.length (m.home.length + c2), .int .i64 m.start, .slice a3 m.rocks.length (m.rocks.length + c3), .int .i64 m.speed, .int .i64 m.part, .int .i64 m.flow, .int .i64 m.idle, .int .i64 m.drive, .int .i64 m.battery, .int .i64 m.deadline] 26)).alloc (by simp) (.cells #[.slice a1o o.ways.length (o.ways.length + c1o), .slice a2o o.home.length (o.home.length + c2o), .int .i64 o.start, .slice a3o o.rocks.length (o.rocks.length + c3o), .int .i64 o.speed, .int .i64 o.part, .int .i64 o.flow, .int .i64 o.idle, .int .i64 o.drive, .int .i64 o.battery, .int .i64 o.deadline] 26)).alloc (by simp; omega) (.cells #[.int .i64 ta, .int .i64 tb, .int .i64 R, .int .i64 Wt] 29)).size)
  replace PP := Lib.hid ((PP.out.below ((((Below.refl w.heap.size w).alloc (Nat.le_refl _) (.cells #[.slice a1 m.ways.length (m.ways.length + c1), .slice a2 m.home.length (m.home.length + c2), .int .i64 m.start, .slice a3 m.rocks.length (m.rocks.length + c3), .int .i64 m.speed, .int .i64 m.part, .int .i64 m.flow, .int .i64 m.idle, .int .i64 m.drive, .int .i64 m.battery, .int .i64 m.deadline] 26)).alloc (by simp) (.cells #[.slice a1o o.ways.length (o.ways.length + c1o), .slice a2o o.home.length (o.home.length + c2o), .int .i64 o.start, .slice a3o o.rocks.length (o.rocks.length + c3o), .int .i64 o.speed, .int .i64 o.part, .int .i64 o.flow, .int .i64 o.idle, .int .i64 o.drive, .int .i64 o.battery, .int .i64 o.deadline] 26)).alloc (by simp; omega) (.cells #[.int .i64 ta, .int .i64 tb, .int .i64 R, .int .i64 Wt] 29))).mono ((((Below.refl w.heap.size w).alloc (Nat.le_refl _) (.cells #[.slice a1 m.ways.length (m.ways.length + c1), .slice a2 m.home.length (m.home.length + c2), .int .i64 m.start, .slice a3 m.rocks.length (m.rocks.length + c3), .int .i64 m.speed, .int .i64 m.part, .int .i64 m.flow, .int .i64 m.idle, .int .i64 m.drive, .int .i64 m.battery, .int .i64 m.deadline] 26)).alloc (by simp) (.cells #[.slice a1o o.ways.length (o.ways.length + c1o), .slice a2o o.home.length (o.home.length + c2o), .int .i64 o.start, .slice a3o o.rocks.length (o.rocks.length + c3o), .int .i64 o.speed, .int .i64 o.part, .int .i64 o.flow, .int .i64 o.idle, .int .i64 o.drive, .int .i64 o.battery, .int .i64 o.deadline] 26)).alloc (by simp; omega) (.cells #[.int .i64 ta, .int .i64 tb, .int .i64 R, .int .i64 Wt] 29)).size)
  replace QQ := Lib.hid ((QQ.out.below ((((Below.refl w.heap.size w).alloc (Nat.le_refl _) (.cells #[.slice a1 m.ways.length (m.ways.length + c1), .slice a2 m.home.length (m.home.length + c2), .int .i64 m.start, .slice a3 m.rocks.length (m.rocks.length + c3), .int .i64 m.speed, .int .i64 m.part, .int .i64 m.flow, .int .i64 m.idle, .int .i64 m.drive, .int .i64 m.battery, .int .i64 m.deadline] 26)).alloc (by simp) (.cells #[.slice a1o o.ways.length (o.ways.length + c1o), .slice a2o o.home.length (o.home.length + c2o), .int .i64 o.start, .slice a3o o.rocks.length (o.rocks.length + c3o), .int .i64 o.speed, .int .i64 o.part, .int .i64 o.flow, .int .i64 o.idle, .int .i64 o.drive, .int .i64 o.battery, .int .i64 o.deadline] 26)).alloc (by simp; omega) (.cells #[.int .i64 ta, .int .i64 tb, .int .i64 R, .int .i64 Wt] 29))).mono ((((Below.refl w.heap.size w).alloc (Nat.le_refl _) (.cells #[.slice a1 m.ways.length (m.ways.length + c1), .slice a2 m.home.length (m.home.length + c2), .int .i64 m.start, .slice a3 m.rocks.length (m.rocks.length + c3), .int .i64 m.speed, .int .i64 m.part, .int .i64 m.flow, .int .i64 m.idle, .int .i64 m.drive, .int .i64 m.battery, .int .i64 m.deadline] 26)).alloc (by simp) (.cells #[.slice a1o o.ways.length (o.ways.length + c1o), .slice a2o o.home.length (o.home.length + c2o), .int .i64 o.start, .slice a3o o.rocks.length (o.rocks.length + c3o), .int .i64 o.speed, .int .i64 o.part, .int .i64 o.flow, .int .i64 o.idle, .int .i64 o.drive, .int .i64 o.battery, .int .i64 o.deadline] 26)).alloc (by simp; omega) (.cells #[.int .i64 ta, .int .i64 tb, .int .i64 R, .int .i64 Wt] 29)).size)
  have MB := Lib.hid (show Has (((w.alloc (.cells #[.slice a1 m.ways.length (m.ways.length + c1), .slice a2 m.home.length (m.home.length + c2), .int .i64 m.start, .slice a3 m.rocks.length (m.rocks.length + c3), .int .i64 m.speed, .int .i64 m.part, .int .i64 m.flow, .int .i64 m.idle, .int .i64 m.drive, .int .i64 m.battery, .int .i64 m.deadline] 26)).alloc (.cells #[.slice a1o o.ways.length (o.ways.length + c1o), .slice a2o o.home.length (o.home.length + c2o), .int .i64 o.start, .slice a3o o.rocks.length (o.rocks.length + c3o), .int .i64 o.speed, .int .i64 o.part, .int .i64 o.flow, .int .i64 o.idle, .int .i64 o.drive, .int .i64 o.battery, .int .i64 o.deadline] 26)).alloc (.cells #[.int .i64 ta, .int .i64 tb, .int .i64 R, .int .i64 Wt] 29)) (w.heap.size) #[.slice a1 m.ways.length (m.ways.length + c1), .slice a2 m.home.length (m.home.length + c2), .int .i64 m.start, .slice a3 m.rocks.length (m.rocks.length + c3), .int .i64 m.speed, .int .i64 m.part, .int .i64 m.flow, .int .i64 m.idle, .int .i64 m.drive, .int .i64 m.battery, .int .i64 m.deadline] 26 from q0)
  have OB := Lib.hid (show Has (((w.alloc (.cells #[.slice a1 m.ways.length (m.ways.length + c1), .slice a2 m.home.length (m.home.length + c2), .int .i64 m.start, .slice a3 m.rocks.length (m.rocks.length + c3), .int .i64 m.speed, .int .i64 m.part, .int .i64 m.flow, .int .i64 m.idle, .int .i64 m.drive, .int .i64 m.battery, .int .i64 m.deadline] 26)).alloc (.cells #[.slice a1o o.ways.length (o.ways.length + c1o), .slice a2o o.home.length (o.home.length + c2o), .int .i64 o.start, .slice a3o o.rocks.length (o.rocks.length + c3o), .int .i64 o.speed, .int .i64 o.part, .int .i64 o.flow, .int .i64 o.idle, .int .i64 o.drive, .int .i64 o.battery, .int .i64 o.deadline] 26)).alloc (.cells #[.int .i64 ta, .int .i64 tb, .int .i64 R, .int .i64 Wt] 29)) (w.heap.size + 1) #[.slice a1o o.ways.length (o.ways.length + c1o), .slice a2o o.home.length (o.home.length + c2o), .int .i64 o.start, .slice a3o o.rocks.length (o.rocks.length + c3o), .int .i64 o.speed, .int .i64 o.part, .int .i64 o.flow, .int .i64 o.idle, .int .i64 o.drive, .int .i64 o.battery, .int .i64 o.deadline] 26 from q1)
  have TB := Lib.hid (show Has (((w.alloc (.cells #[.slice a1 m.ways.length (m.ways.length + c1), .slice a2 m.home.length (m.home.length + c2), .int .i64 m.start, .slice a3 m.rocks.length (m.rocks.length + c3), .int .i64 m.speed, .int .i64 m.part, .int .i64 m.flow, .int .i64 m.idle, .int .i64 m.drive, .int .i64 m.battery, .int .i64 m.deadline] 26)).alloc (.cells #[.slice a1o o.ways.length (o.ways.length + c1o), .slice a2o o.home.length (o.home.length + c2o), .int .i64 o.start, .slice a3o o.rocks.length (o.rocks.length + c3o), .int .i64 o.speed, .int .i64 o.part, .int .i64 o.flow, .int .i64 o.idle, .int .i64 o.drive, .int .i64 o.battery, .int .i64 o.deadline] 26)).alloc (.cells #[.int .i64 ta, .int .i64 tb, .int .i64 R, .int .i64 Wt] 29)) (w.heap.size + 1 + 1) #[.int .i64 ta, .int .i64 tb, .int .i64 R, .int .i64 Wt] 29 from q2)
  have BX0 := Lib.hid (B0.out.trans ((((((Below.refl w.heap.size w).alloc (Nat.le_refl _) (.cells #[.slice a1 m.ways.length (m.ways.length + c1), .slice a2 m.home.length (m.home.length + c2), .int .i64 m.start, .slice a3 m.rocks.length (m.rocks.length + c3), .int .i64 m.speed, .int .i64 m.part, .int .i64 m.flow, .int .i64 m.idle, .int .i64 m.drive, .int .i64 m.battery, .int .i64 m.deadline] 26)).alloc (by simp) (.cells #[.slice a1o o.ways.length (o.ways.length + c1o), .slice a2o o.home.length (o.home.length + c2o), .int .i64 o.start, .slice a3o o.rocks.length (o.rocks.length + c3o), .int .i64 o.speed, .int .i64 o.part, .int .i64 o.flow, .int .i64 o.idle, .int .i64 o.drive, .int .i64 o.battery, .int .i64 o.deadline] 26)).alloc (by simp; omega) (.cells #[.int .i64 ta, .int .i64 tb, .int .i64 R, .int .i64 Wt] 29))).mono B0.out.size))
  generalize hXX0 : (((w.alloc (.cells #[.slice a1 m.ways.length (m.ways.length + c1), .slice a2 m.home.length (m.home.length + c2), .int .i64 m.start, .slice a3 m.rocks.length (m.rocks.length + c3), .int .i64 m.speed, .int .i64 m.part, .int .i64 m.flow, .int .i64 m.idle, .int .i64 m.drive, .int .i64 m.battery, .int .i64 m.deadline] 26)).alloc (.cells #[.slice a1o o.ways.length (o.ways.length + c1o), .slice a2o o.home.length (o.home.length + c2o), .int .i64 o.start, .slice a3o o.rocks.length (o.rocks.length + c3o), .int .i64 o.speed, .int .i64 o.part, .int .i64 o.flow, .int .i64 o.idle, .int .i64 o.drive, .int .i64 o.battery, .int .i64 o.deadline] 26)).alloc (.cells #[.int .i64 ta, .int .i64 tb, .int .i64 R, .int .i64 Wt] 29)) = X0 at *
  clear hXX0
  clear q0 q1 q2
  have hz0 := BX0.out.size
  refine (hd.out _).mono ?_
  rintro e w1 ⟨rfl, b1⟩
  have B1 := Lib.hid (BX0.out.trans (b1.mono BX0.out.size))
  replace MM := Lib.hid ((MM.out.below b1).mono b1.size)
  replace ML := Lib.hid ((ML.out.below b1).mono b1.size)
  replace OM := Lib.hid ((OM.out.below b1).mono b1.size)
  replace OL := Lib.hid ((OL.out.below b1).mono b1.size)
  replace PP := Lib.hid ((PP.out.below b1).mono b1.size)
  replace QQ := Lib.hid ((QQ.out.below b1).mono b1.size)
  replace MB := Lib.hid (MB.out.below b1 MB.out.lt)
  replace OB := Lib.hid (OB.out.below b1 OB.out.lt)
  replace TB := Lib.hid (TB.out.below b1 TB.out.lt)
  clear b1
  obtain ⟨d0, d1, d2, d3, d4, d5, d6, d7, d8, d9, d10⟩ := msn_cells (m := m) MB.out
  obtain ⟨e0, e1, e2, e3, e4, e5, e6, e7, e8, e9, e10⟩ := msn_cells (m := o) OB.out
  have t0 := TB.out.cell (i := 0) rfl
  have t1 := TB.out.cell (i := 1) rfl
  have t2 := TB.out.cell (i := 2) rfl
  have t3 := TB.out.cell (i := 3) rfl
  go_wp2_with fail
  refine (fp.out _ PP.out).mono ?_
  rintro e w2 ⟨rfl, b2⟩
  have B2 := Lib.hid (B1.out.trans (b2.mono B1.out.size))
  replace MM := Lib.hid ((MM.out.below b2).mono b2.size)
  replace ML := Lib.hid ((ML.out.below b2).mono b2.size)
  replace OM := Lib.hid ((OM.out.below b2).mono b2.size)
  replace OL := Lib.hid ((OL.out.below b2).mono b2.size)
  replace PP := Lib.hid ((PP.out.below b2).mono b2.size)
  replace QQ := Lib.hid ((QQ.out.below b2).mono b2.size)
  replace MB := Lib.hid (MB.out.below b2 MB.out.lt)
  replace OB := Lib.hid (OB.out.below b2 OB.out.lt)
  replace TB := Lib.hid (TB.out.below b2 TB.out.lt)
  clear b2
  clear d0 d1 d2 d3 d4 d5 d6 d7 d8 d9 d10 e0 e1 e2 e3 e4 e5 e6 e7 e8 e9 e10 t0 t1 t2 t3
  obtain ⟨d0, d1, d2, d3, d4, d5, d6, d7, d8, d9, d10⟩ := msn_cells (m := m) MB.out
  obtain ⟨e0, e1, e2, e3, e4, e5, e6, e7, e8, e9, e10⟩ := msn_cells (m := o) OB.out
  have t0 := TB.out.cell (i := 0) rfl
  have t1 := TB.out.cell (i := 1) rfl
  have t2 := TB.out.cell (i := 2) rfl
  have t3 := TB.out.cell (i := 3) rfl
  cases b1
  · go_wp2
    go_ret
    exact ⟨rfl, B2.out⟩
  go_wp2_with fail
  refine (fq.out _ QQ.out).mono ?_
  rintro e w3 ⟨rfl, b3⟩
  have B3 := Lib.hid (B2.out.trans (b3.mono B2.out.size))
  replace MM := Lib.hid ((MM.out.below b3).mono b3.size)
  replace ML := Lib.hid ((ML.out.below b3).mono b3.size)
  replace OM := Lib.hid ((OM.out.below b3).mono b3.size)
  replace OL := Lib.hid ((OL.out.below b3).mono b3.size)
  replace PP := Lib.hid ((PP.out.below b3).mono b3.size)
  replace QQ := Lib.hid ((QQ.out.below b3).mono b3.size)
  replace MB := Lib.hid (MB.out.below b3 MB.out.lt)
  replace OB := Lib.hid (OB.out.below b3 OB.out.lt)
  replace TB := Lib.hid (TB.out.below b3 TB.out.lt)
  clear b3
  clear d0 d1 d2 d3 d4 d5 d6 d7 d8 d9 d10 e0 e1 e2 e3 e4 e5 e6 e7 e8 e9 e10 t0 t1 t2 t3
  obtain ⟨d0, d1, d2, d3, d4, d5, d6, d7, d8, d9, d10⟩ := msn_cells (m := m) MB.out
  obtain ⟨e0, e1, e2, e3, e4, e5, e6, e7, e8, e9, e10⟩ := msn_cells (m := o) OB.out
  have t0 := TB.out.cell (i := 0) rfl
  have t1 := TB.out.cell (i := 1) rfl
  have t2 := TB.out.cell (i := 2) rfl
  have t3 := TB.out.cell (i := 3) rfl
  cases b2
  · go_wp2
    go_ret
    exact ⟨rfl, B3.out⟩
  go_wp2_with fail
  refine (ff.out _ MM.out ML.out OM.out OL.out).mono ?_
  rintro e w4 ⟨rfl, b4⟩
  have B4 := Lib.hid (B3.out.trans (b4.mono B3.out.size))
  replace MM := Lib.hid ((MM.out.below b4).mono b4.size)
  replace ML := Lib.hid ((ML.out.below b4).mono b4.size)
  replace OM := Lib.hid ((OM.out.below b4).mono b4.size)
  replace OL := Lib.hid ((OL.out.below b4).mono b4.size)
  replace PP := Lib.hid ((PP.out.below b4).mono b4.size)
  replace QQ := Lib.hid ((QQ.out.below b4).mono b4.size)
  replace MB := Lib.hid (MB.out.below b4 MB.out.lt)
  replace OB := Lib.hid (OB.out.below b4 OB.out.lt)
  replace TB := Lib.hid (TB.out.below b4 TB.out.lt)
  clear b4
  clear d0 d1 d2 d3 d4 d5 d6 d7 d8 d9 d10 e0 e1 e2 e3 e4 e5 e6 e7 e8 e9 e10 t0 t1 t2 t3
  obtain ⟨d0, d1, d2, d3, d4, d5, d6, d7, d8, d9, d10⟩ := msn_cells (m := m) MB.out
  obtain ⟨e0, e1, e2, e3, e4, e5, e6, e7, e8, e9, e10⟩ := msn_cells (m := o) OB.out
  have t0 := TB.out.cell (i := 0) rfl
  have t1 := TB.out.cell (i := 1) rfl
  have t2 := TB.out.cell (i := 2) rfl
  have t3 := TB.out.cell (i := 3) rfl
  cases hfew : few38B m l o lo
  · go_wp2
    go_ret
    exact ⟨rfl, B4.out⟩
  clear hfew
  go_wp2_with fail
  refine (f1.out _ PP.out QQ.out).mono ?_
  rintro e w5 ⟨rfl, b5⟩
  have B5 := Lib.hid (B4.out.trans (b5.mono B4.out.size))
  replace MM := Lib.hid ((MM.out.below b5).mono b5.size)
  replace ML := Lib.hid ((ML.out.below b5).mono b5.size)
  replace OM := Lib.hid ((OM.out.below b5).mono b5.size)
  replace OL := Lib.hid ((OL.out.below b5).mono b5.size)
  replace PP := Lib.hid ((PP.out.below b5).mono b5.size)
  replace QQ := Lib.hid ((QQ.out.below b5).mono b5.size)
  replace MB := Lib.hid (MB.out.below b5 MB.out.lt)
  replace OB := Lib.hid (OB.out.below b5 OB.out.lt)
  replace TB := Lib.hid (TB.out.below b5 TB.out.lt)
  clear b5
  clear d0 d1 d2 d3 d4 d5 d6 d7 d8 d9 d10 e0 e1 e2 e3 e4 e5 e6 e7 e8 e9 e10 t0 t1 t2 t3
  obtain ⟨d0, d1, d2, d3, d4, d5, d6, d7, d8, d9, d10⟩ := msn_cells (m := m) MB.out
  obtain ⟨e0, e1, e2, e3, e4, e5, e6, e7, e8, e9, e10⟩ := msn_cells (m := o) OB.out
  have t0 := TB.out.cell (i := 0) rfl
  have t1 := TB.out.cell (i := 1) rfl
  have t2 := TB.out.cell (i := 2) rfl
  have t3 := TB.out.cell (i := 3) rfl
  go_wp2_with fail
  refine (f2.out _ PP.out QQ.out).mono ?_
  rintro e w6 ⟨rfl, b6⟩
  have B6 := Lib.hid (B5.out.trans (b6.mono B5.out.size))
  clear PP
  clear QQ
  replace MM := Lib.hid ((MM.out.below b6).mono b6.size)
  replace ML := Lib.hid ((ML.out.below b6).mono b6.size)
  replace OM := Lib.hid ((OM.out.below b6).mono b6.size)
  replace OL := Lib.hid ((OL.out.below b6).mono b6.size)
  replace MB := Lib.hid (MB.out.below b6 MB.out.lt)
  replace OB := Lib.hid (OB.out.below b6 OB.out.lt)
  replace TB := Lib.hid (TB.out.below b6 TB.out.lt)
  clear b6
  clear d0 d1 d2 d3 d4 d5 d6 d7 d8 d9 d10 e0 e1 e2 e3 e4 e5 e6 e7 e8 e9 e10 t0 t1 t2 t3
  obtain ⟨d0, d1, d2, d3, d4, d5, d6, d7, d8, d9, d10⟩ := msn_cells (m := m) MB.out
  obtain ⟨e0, e1, e2, e3, e4, e5, e6, e7, e8, e9, e10⟩ := msn_cells (m := o) OB.out
  have t0 := TB.out.cell (i := 0) rfl
  have t1 := TB.out.cell (i := 1) rfl
  have t2 := TB.out.cell (i := 2) rfl
  have t3 := TB.out.cell (i := 3) rfl
  go_wp2_with fail
  refine (f3.out _ MM.out ML.out OM.out OL.out).mono ?_
  rintro e w7 ⟨rfl, b7⟩
  have B7 := Lib.hid (B6.out.trans (b7.mono B6.out.size))
  replace MM := Lib.hid ((MM.out.below b7).mono b7.size)
  replace ML := Lib.hid ((ML.out.below b7).mono b7.size)
  replace OM := Lib.hid ((OM.out.below b7).mono b7.size)
  replace OL := Lib.hid ((OL.out.below b7).mono b7.size)
  replace MB := Lib.hid (MB.out.below b7 MB.out.lt)
  replace OB := Lib.hid (OB.out.below b7 OB.out.lt)
  replace TB := Lib.hid (TB.out.below b7 TB.out.lt)
  clear b7
  clear d0 d1 d2 d3 d4 d5 d6 d7 d8 d9 d10 e0 e1 e2 e3 e4 e5 e6 e7 e8 e9 e10 t0 t1 t2 t3
  obtain ⟨d0, d1, d2, d3, d4, d5, d6, d7, d8, d9, d10⟩ := msn_cells (m := m) MB.out
  obtain ⟨e0, e1, e2, e3, e4, e5, e6, e7, e8, e9, e10⟩ := msn_cells (m := o) OB.out
  have t0 := TB.out.cell (i := 0) rfl
  have t1 := TB.out.cell (i := 1) rfl
  have t2 := TB.out.cell (i := 2) rfl
  have t3 := TB.out.cell (i := 3) rfl
  go_wp2_with fail
  refine (f4.out _ MM.out ML.out OM.out OL.out).mono ?_
  rintro e w8 ⟨rfl, b8⟩
  have B8 := Lib.hid (B7.out.trans (b8.mono B7.out.size))
  replace MM := Lib.hid ((MM.out.below b8).mono b8.size)
  replace ML := Lib.hid ((ML.out.below b8).mono b8.size)
  replace OM := Lib.hid ((OM.out.below b8).mono b8.size)
  replace OL := Lib.hid ((OL.out.below b8).mono b8.size)
  replace MB := Lib.hid (MB.out.below b8 MB.out.lt)
  replace OB := Lib.hid (OB.out.below b8 OB.out.lt)
  replace TB := Lib.hid (TB.out.below b8 TB.out.lt)
  clear b8
  clear d0 d1 d2 d3 d4 d5 d6 d7 d8 d9 d10 e0 e1 e2 e3 e4 e5 e6 e7 e8 e9 e10 t0 t1 t2 t3
  obtain ⟨d0, d1, d2, d3, d4, d5, d6, d7, d8, d9, d10⟩ := msn_cells (m := m) MB.out
  obtain ⟨e0, e1, e2, e3, e4, e5, e6, e7, e8, e9, e10⟩ := msn_cells (m := o) OB.out
  have t0 := TB.out.cell (i := 0) rfl
  have t1 := TB.out.cell (i := 1) rfl
  have t2 := TB.out.cell (i := 2) rfl
  have t3 := TB.out.cell (i := 3) rfl
  go_wp2_with fail
  refine (f5.out _ MM.out ML.out OM.out OL.out).mono ?_
  rintro e w9 ⟨v9, rfl, p9, b9⟩
  have B9 := Lib.hid (B8.out.trans (b9.mono B8.out.size))
  replace MM := Lib.hid ((MM.out.below b9).mono b9.size)
  replace ML := Lib.hid ((ML.out.below b9).mono b9.size)
  replace OM := Lib.hid ((OM.out.below b9).mono b9.size)
  replace OL := Lib.hid ((OL.out.below b9).mono b9.size)
  replace MB := Lib.hid (MB.out.below b9 MB.out.lt)
  replace OB := Lib.hid (OB.out.below b9 OB.out.lt)
  replace TB := Lib.hid (TB.out.below b9 TB.out.lt)
  have L1 := Lib.hid p9
  obtain ⟨-, g9, k9, hv9, -⟩ := p9
  subst hv9
  clear b9
  clear d0 d1 d2 d3 d4 d5 d6 d7 d8 d9 d10 e0 e1 e2 e3 e4 e5 e6 e7 e8 e9 e10 t0 t1 t2 t3
  obtain ⟨d0, d1, d2, d3, d4, d5, d6, d7, d8, d9, d10⟩ := msn_cells (m := m) MB.out
  obtain ⟨e0, e1, e2, e3, e4, e5, e6, e7, e8, e9, e10⟩ := msn_cells (m := o) OB.out
  have t0 := TB.out.cell (i := 0) rfl
  have t1 := TB.out.cell (i := 1) rfl
  have t2 := TB.out.cell (i := 2) rfl
  have t3 := TB.out.cell (i := 3) rfl
  go_wp2_with fail
  refine (f6.out _ MM.out ML.out OM.out OL.out).mono ?_
  rintro e w10 ⟨v10, rfl, p10, b10⟩
  have B10 := Lib.hid (B9.out.trans (b10.mono B9.out.size))
  replace MM := Lib.hid ((MM.out.below b10).mono b10.size)
  replace ML := Lib.hid ((ML.out.below b10).mono b10.size)
  replace OM := Lib.hid ((OM.out.below b10).mono b10.size)
  replace OL := Lib.hid ((OL.out.below b10).mono b10.size)
  replace MB := Lib.hid (MB.out.below b10 MB.out.lt)
  replace OB := Lib.hid (OB.out.below b10 OB.out.lt)
  replace TB := Lib.hid (TB.out.below b10 TB.out.lt)
  replace L1 := Lib.hid ((L1.out.below b10).mono b10.size)
  have L2 := Lib.hid p10
  obtain ⟨-, g10, k10, hv10, -⟩ := p10
  subst hv10
  clear b10
  clear d0 d1 d2 d3 d4 d5 d6 d7 d8 d9 d10 e0 e1 e2 e3 e4 e5 e6 e7 e8 e9 e10 t0 t1 t2 t3
  obtain ⟨d0, d1, d2, d3, d4, d5, d6, d7, d8, d9, d10⟩ := msn_cells (m := m) MB.out
  obtain ⟨e0, e1, e2, e3, e4, e5, e6, e7, e8, e9, e10⟩ := msn_cells (m := o) OB.out
  have t0 := TB.out.cell (i := 0) rfl
  have t1 := TB.out.cell (i := 1) rfl
  have t2 := TB.out.cell (i := 2) rfl
  have t3 := TB.out.cell (i := 3) rfl
  go_wp2_with fail
  refine (same38_any R Wt tl _ _ _ L1.out L2.out).mono ?_
  rintro e w11 ⟨rfl, b11⟩
  have B11 := Lib.hid (B10.out.trans (b11.mono B10.out.size))
  replace MM := Lib.hid ((MM.out.below b11).mono b11.size)
  replace ML := Lib.hid ((ML.out.below b11).mono b11.size)
  replace OM := Lib.hid ((OM.out.below b11).mono b11.size)
  replace OL := Lib.hid ((OL.out.below b11).mono b11.size)
  replace MB := Lib.hid (MB.out.below b11 MB.out.lt)
  replace OB := Lib.hid (OB.out.below b11 OB.out.lt)
  replace TB := Lib.hid (TB.out.below b11 TB.out.lt)
  replace L1 := Lib.hid ((L1.out.below b11).mono b11.size)
  replace L2 := Lib.hid ((L2.out.below b11).mono b11.size)
  clear b11
  clear d0 d1 d2 d3 d4 d5 d6 d7 d8 d9 d10 e0 e1 e2 e3 e4 e5 e6 e7 e8 e9 e10 t0 t1 t2 t3
  obtain ⟨d0, d1, d2, d3, d4, d5, d6, d7, d8, d9, d10⟩ := msn_cells (m := m) MB.out
  obtain ⟨e0, e1, e2, e3, e4, e5, e6, e7, e8, e9, e10⟩ := msn_cells (m := o) OB.out
  have t0 := TB.out.cell (i := 0) rfl
  have t1 := TB.out.cell (i := 1) rfl
  have t2 := TB.out.cell (i := 2) rfl
  have t3 := TB.out.cell (i := 3) rfl
  clear d0 d1 d2 d3 d4 d5 d6 d7 d8 d9 d10 e0 e1 e2 e3 e4 e5 e6 e7 e8 e9 e10 t0 t1 t2 t3
  go_wp2
  go_ret
  exact ⟨rfl, B11.out⟩

set_option maxRecDepth 100000 in
theorem lifted (os : Os) (started : os.Started) (H : Type) (enc : TypeId × Value → H) :
    ReturnsInHanded {} Tryz.checked os 3 .any (Rows.trystMatchesReferenceSpec.pre6 enc Tryz.prog Tryz.f3 Rows.trystMatchesReferenceRow.domain false) (Rows.trystMatchesReferenceSpec.post enc Tryz.prog Tryz.f3 false true false false) := by
  refine returnsInHanded_of_change_sized (C := Tryz.checked) own started (by kernel_rfl) Tryz.func3
    (ChangeSpec.witness6 (enc := enc) (C := Tryz.checked) false ⟨#[], #[.slice none 0 0, .slice none 0 0, .agg #[.slice none 0 0, .slice none 0 0, .int .i64 0, .slice none 0 0, .int .i64 0, .int .i64 0, .int .i64 0, .int .i64 0, .int .i64 0, .int .i64 0, .int .i64 0], .agg #[.slice none 0 0, .slice none 0 0, .int .i64 0, .slice none 0 0, .int .i64 0, .int .i64 0, .int .i64 0, .int .i64 0, .int .i64 0, .int .i64 0, .int .i64 0], .slice none 0 0, .slice none 0 0, .agg #[.int .i64 0, .int .i64 0, .int .i64 0, .int .i64 0]], []⟩ 8 (by kernel_rfl) (by kernel_rfl) (by kernel_rfl) (by kernel_rfl)) ?_
  intro W base args ds gs before hval0 hW hcnd hsz0 _
  have hval : ∀ (j : Nat) t v, Tryz.f3.params[j]? = some t → args[j]? = some v → Value.okWide Tryz.prog W .any base t v := hval0
  have hW' := hW
  obtain ⟨p, q, hA0, hV, rfl, hfz, hnd⟩ := hW
  have hA : DataW.TrodAll enc Tryz.prog W 0 (fun _ => true) true Tryz.f3.params.toList args.toList ds p := hA0
  have hsz : (DataW.weightsEach Tryz.prog (Tryz.f3.params.toList ++ Rows.trystMatchesReferenceSpec.plain.varTypes Tryz.prog) (ds ++ gs)).all (· ≤ reachBytes) = true := hsz0
  rw [Tryz.params3] at hA hval hsz
  obtain ⟨v0, vs0, d0, ds0, p0, q0, hargs, rfl, rfl, h0, r0⟩ := trodAll_cons hA
  obtain ⟨v1, vs1, d1, ds1, p1, q1, rfl, rfl, rfl, h1, r1⟩ := trodAll_cons r0
  obtain ⟨v2, vs2, d2, ds2, p2, q2, rfl, rfl, rfl, h2, r2⟩ := trodAll_cons r1
  obtain ⟨v3, vs3, d3, ds3, p3, q3, rfl, rfl, rfl, h3, r3⟩ := trodAll_cons r2
  obtain ⟨v4, vs4, d4, ds4, p4, q4, rfl, rfl, rfl, h4, r4⟩ := trodAll_cons r3
  obtain ⟨v5, vs5, d5, ds5, p5, q5, rfl, rfl, rfl, h5, r5⟩ := trodAll_cons r4
  obtain ⟨v6, vs6, d6, ds6, p6, q6, rfl, rfl, rfl, h6, r6⟩ := trodAll_cons r5
  obtain ⟨rfl, rfl, rfl⟩ := trodAll_nil r6
  obtain rfl : args = #[v0, v1, v2, v3, v4, v5, v6] := by cases args; simp_all
  obtain ⟨rfl, rfl⟩ := trodVars_none hV
  have k0 := h0
  have lt0 : ∀ x ∈ p0, x.block < W.heap.size := by obtain ⟨m, hm⟩ := k0; exact DataW.trod_lt m _ _ _ hm
  have z0 : ∀ n ∈ d0.weights Tryz.prog 22, n ≤ reachBytes := fun n hn => by have := List.all_eq_true.1 hsz n (DataW.weights_mem_each (j := 0) (t := 22) (d := d0) rfl rfl n hn); simpa using this
  obtain ⟨a0, w0⟩ := open_pts_arg (hval 0 22 v0 rfl rfl) h0 z0
  have k1 := h1
  have lt1 : ∀ x ∈ p1, x.block < W.heap.size := by obtain ⟨m, hm⟩ := k1; exact DataW.trod_lt m _ _ _ hm
  have z1 : ∀ n ∈ d1.weights Tryz.prog 22, n ≤ reachBytes := fun n hn => by have := List.all_eq_true.1 hsz n (DataW.weights_mem_each (j := 1) (t := 22) (d := d1) rfl rfl n hn); simpa using this
  obtain ⟨a1, w1⟩ := open_pts_arg (hval 1 22 v1 rfl rfl) h1 z1
  have k2 := h2
  have lt2 : ∀ x ∈ p2, x.block < W.heap.size := by obtain ⟨m, hm⟩ := k2; exact DataW.trod_lt m _ _ _ hm
  have z2 : ∀ n ∈ d2.weights Tryz.prog 26, n ≤ reachBytes := fun n hn => by have := List.all_eq_true.1 hsz n (DataW.weights_mem_each (j := 2) (t := 26) (d := d2) rfl rfl n hn); simpa using this
  obtain ⟨a2, vw2, vh2, vr2, rfl, w2⟩ := open_msn (hval 2 26 v2 rfl rfl) h2 z2
  have k3 := h3
  have lt3 : ∀ x ∈ p3, x.block < W.heap.size := by obtain ⟨m, hm⟩ := k3; exact DataW.trod_lt m _ _ _ hm
  have z3 : ∀ n ∈ d3.weights Tryz.prog 26, n ≤ reachBytes := fun n hn => by have := List.all_eq_true.1 hsz n (DataW.weights_mem_each (j := 3) (t := 26) (d := d3) rfl rfl n hn); simpa using this
  obtain ⟨a3, vw3, vh3, vr3, rfl, w3⟩ := open_msn (hval 3 26 v3 rfl rfl) h3 z3
  have k4 := h4
  have lt4 : ∀ x ∈ p4, x.block < W.heap.size := by obtain ⟨m, hm⟩ := k4; exact DataW.trod_lt m _ _ _ hm
  have z4 : ∀ n ∈ d4.weights Tryz.prog 27, n ≤ reachBytes := fun n hn => by have := List.all_eq_true.1 hsz n (DataW.weights_mem_each (j := 4) (t := 27) (d := d4) rfl rfl n hn); simpa using this
  obtain ⟨a4, w4⟩ := open_ints_arg (hval 4 27 v4 rfl rfl) h4 z4
  have k5 := h5
  have lt5 : ∀ x ∈ p5, x.block < W.heap.size := by obtain ⟨m, hm⟩ := k5; exact DataW.trod_lt m _ _ _ hm
  have z5 : ∀ n ∈ d5.weights Tryz.prog 27, n ≤ reachBytes := fun n hn => by have := List.all_eq_true.1 hsz n (DataW.weights_mem_each (j := 5) (t := 27) (d := d5) rfl rfl n hn); simpa using this
  obtain ⟨a5, w5⟩ := open_ints_arg (hval 5 27 v5 rfl rfl) h5 z5
  have k6 := h6
  have lt6 : ∀ x ∈ p6, x.block < W.heap.size := by obtain ⟨m, hm⟩ := k6; exact DataW.trod_lt m _ _ _ hm
  obtain ⟨a6, b6, c6, d6', rfl⟩ := open_tryst (hval 6 29 v6 rfl rfl) h6
  clear hA0 hval0
  refine (walk W v0 a0 v1 a1 a2 vw2 vh2 vr2 a3 vw3 vh3 vr3 v4 a4 v5 a5 a6 b6 c6 d6' w0 w1 w2 w3 w4 w5).mono fun e W' ⟨he, bel⟩ => ?_
  subst he
  exact ⟨_, rfl, _, _, _, [], _, [], hW', trodAll_mk1 (shut_bool Tryz.underlying4 _), (trodAll_cons_mk (Below.trod laidOut (by kernel_rfl) (of_decide_eq_true (by kernel_rfl)) k0 bel lt0) (trodAll_cons_mk (Below.trod laidOut (by kernel_rfl) (of_decide_eq_true (by kernel_rfl)) k1 bel lt1) (trodAll_cons_mk (Below.trod laidOut (by kernel_rfl) (of_decide_eq_true (by kernel_rfl)) k2 bel lt2) (trodAll_cons_mk (Below.trod laidOut (by kernel_rfl) (of_decide_eq_true (by kernel_rfl)) k3 bel lt3) (trodAll_cons_mk (Below.trod laidOut (by kernel_rfl) (of_decide_eq_true (by kernel_rfl)) k4 bel lt4) (trodAll_cons_mk (Below.trod laidOut (by kernel_rfl) (of_decide_eq_true (by kernel_rfl)) k5 bel lt5) (trodAll_cons_mk (Below.trod laidOut (by kernel_rfl) (of_decide_eq_true (by kernel_rfl)) k6 bel lt6) trodAll_mk0))))))), rfl, bel.frame _, fun h => by cases h⟩

theorem over : Rows.trystMatchesReferenceRow.holds Tryz.pinned (OpenSpec.ofChange Rows.trystMatchesReferenceSpec) :=
  OpenClaim.holds_of_wide 3 Tryz.f3 rfl rfl rfl rfl rfl rfl rfl ⟨rfl, rfl, rfl, rfl, rfl⟩ rfl rfl rfl rfl rfl (by kernel_rfl) Tryz.func3 (by kernel_rfl)
    (of_decide_eq_true (by kernel_rfl)) (by unfold Func.isWrapper; first | (rw [if_pos (by decide +kernel)]; kernel_rfl) | (rw [if_neg (by decide +kernel)]; exact ⟨rfl, rfl⟩))
    (fun os started H enc _ => lifted os started H enc)

/-- the statement -/
theorem proved : Rows.TrystMatchesReferenceSaid := over
#print axioms proved
end Go.Proofs.YtdpnhckbabjagaaGreat.trystMatchesReference
