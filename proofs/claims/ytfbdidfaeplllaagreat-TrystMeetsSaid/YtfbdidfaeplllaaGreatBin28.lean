/- package tryst: Meets. | package tryst: the iterator over all trysts, its contract. | The head of the laws of layer 32. (Printed by tools/mkhead32.py.) -/
import Derived.Test.YtfbdidfaeplllaaGreatBin26
import Derived.Test.YtfbdidfaeplllaaGreatBin05
import Derived.Test.YtfbdidfaeplllaaGreatBin14
import Derived.Test.YtfbdidfaeplllaaGreatBin25
import Derived.Test.YtfbdidfaeplllaaGreatBin16
import Derived.Test.YtfbdidfaeplllaaGreatBin13
import Derived.Test.YtfbdidfaeplllaaGreatBin15
namespace Go.Proofs.YtfbdidfaeplllaaGreat
open Go.RowKit
attribute [local irreducible] wpQuiet

/-- what on returns, of any mission and stops -/
theorem ton_any (m : Msn) (vw vh vr vl : Value) (l : List Int) (w : World) (hm : MsnAt w.heap.size w m vw vh vr) (hl : IntsAt w.heap.size w vl l) :
    Calls Tryz.prog 41 #[.agg (msnCells m vw vh vr), vl] w fun e w' => ∃ m' vw' vh' vr' va vt la lt, e = .returned (.tuple #[.agg (vehCells m' vw' vh' vr' va vt), .bool (radOkB m l)]) ∧ MsnAt w'.heap.size w' m' vw' vh' vr' ∧ IntsAt w'.heap.size w' va la ∧ IntsAt w'.heap.size w' vt lt ∧ (radOkB m l = true → (m' = m ∧ vw' = vw ∧ vh' = vh ∧ vr' = vr) ∧ la = rdAU m l ∧ lt = usedT m l) ∧ Below w.heap.size w w' := by
  cases h : radOkB m l
  · refine (ton_no m vw vh vr vl l w hm hl h).mono ?_
    rintro e w' ⟨rfl, hb⟩
    exact ⟨⟨[], [], 0, [], 0, 0, 0, 0, 0, 0, 0⟩, .slice none 0 0, .slice none 0 0, .slice none 0 0, .slice none 0 0, .slice none 0 0, [], [], rfl, ⟨⟨by simp, none, 0, rfl, .inl rfl⟩, PtsAt.nil _ _, ⟨by simp, none, 0, rfl, .inl rfl⟩⟩, ⟨by simp, none, 0, rfl, .inl rfl⟩, ⟨by simp, none, 0, rfl, .inl rfl⟩, by simp, hb⟩
  · refine (ton_yes m vw vh vr vl l w hm hl h).mono ?_
    rintro e w' ⟨va, vt, rfl, ha, ht, hb⟩
    exact ⟨m, vw, vh, vr, va, vt, _, _, rfl, (hm.below hb).mono hb.size, ha, ht, fun _ => ⟨⟨rfl, rfl, rfl, rfl⟩, rfl, rfl⟩, hb⟩
/-- the error of what is asked rightly or not -/
def errB (b : Bool) : Int := if b = true then 0 else 1
/-- whether a tryst can be asked for -/
noncomputable def askB (m : Msn) (l : List Int) (o : Msn) (lo : List Int) (a b R W : Int) : Bool :=
  radOkB m l && (radOkB o lo && ((decide (a ≥ 0) && decide (a < (m.ways.length : Int))) && ((decide (b ≥ 0) && decide (b < (o.ways.length : Int))) && (numB R 100000 && numB W 100000))))

set_option linter.unusedSimpArgs false in
set_option linter.unusedVariables false in
set_option maxRecDepth 8000 in
set_option maxHeartbeats 3200000 in
theorem tmeets_any (m o : Msn) (vw vh vr vl vwo vho vro vlo : Value) (l lo : List Int) (a b R Wt : Int) (w : World) (hm : MsnAt w.heap.size w m vw vh vr) (hl : IntsAt w.heap.size w vl l) (hmo : MsnAt w.heap.size w o vwo vho vro) (hlo : IntsAt w.heap.size w vlo lo) :
    Calls Tryz.prog 14 #[.agg (msnCells m vw vh vr), .agg (msnCells o vwo vho vro), vl, vlo, .agg #[.int .i64 a, .int .i64 b, .int .i64 R, .int .i64 Wt]] w fun e w' => e = .returned (.tuple #[.bool (askB m l o lo a b R Wt && meetB m l o lo a.toNat b.toNat R Wt), .int .i64 (errB (askB m l o lo a b R Wt))]) ∧ Below w.heap.size w w' := by
  have f1 := fun w1 h1 h2 => ton_any m vw vh vr vl l w1 h1 h2
  have f2 := fun w1 h1 h2 => ton_any o vwo vho vro vlo lo w1 h1 h2
  have FM := Lib.hid (fun (h1 : radOkB m l = true) (h2 : radOkB o lo = true) va vt vao vto (p q : Nat) hp hq w1 g1 g2 g3 g4 g5 g6 => tmeet_any m o vw vh vr va vt vwo vho vro vao vto l lo h1 h2 p q R Wt hp hq w1 g1 g2 g3 g4 g5 g6)
  have fa := fun va vt la lt w1 h1 h2 h3 => thas_any m vw vh vr va vt la [] lt a w1 h1 h2 h3
  have fb := fun va vt la lt w1 h1 h2 h3 => thas_any o vwo vho vro va vt la [] lt b w1 h1 h2 h3
  have fr := fun w1 => tnum_any R 100000 w1
  have fw := fun w1 => tnum_any Wt 100000 w1
  have MM := Lib.hid hm
  have ML := Lib.hid hl
  have OM := Lib.hid hmo
  have OL := Lib.hid hlo
  obtain ⟨⟨-, a1, c1, rfl, -⟩, ⟨-, a2, c2, rfl, -⟩, ⟨-, a3, c3, rfl, -⟩⟩ := hm
  obtain ⟨⟨-, a1o, c1o, rfl, -⟩, ⟨-, a2o, c2o, rfl, -⟩, ⟨-, a3o, c3o, rfl, -⟩⟩ := hmo
  obtain ⟨-, al, cl, rfl, -⟩ := hl
  obtain ⟨-, alo, clo, rfl, -⟩ := hlo
  unfold msnCells askB at *
  generalize hb3 : (decide (a ≥ 0) && decide (a < (m.ways.length : Int))) = b3 at *
  generalize hb4 : (decide (b ≥ 0) && decide (b < (o.ways.length : Int))) = b4 at *
  replace hb3 := Lib.hid hb3
  replace hb4 := Lib.hid hb4
  generalize numB R 100000 = b5 at *
  generalize numB Wt 100000 = b6 at *
  replace f1 := Lib.hid f1
  replace f2 := Lib.hid f2
  replace fa := Lib.hid fa
  replace fb := Lib.hid fb
  replace fr := Lib.hid fr
  replace fw := Lib.hid fw
  have B0 := Lib.hid (Below.refl w.heap.size w)
  go_enter Tryz.func14, Tryz.ntmps14
  have q0 := Has.new w #[.slice a1 m.ways.length (m.ways.length + c1), .slice a2 m.home.length (m.home.length + c2), .int .i64 m.start, .slice a3 m.rocks.length (m.rocks.length + c3), .int .i64 m.speed, .int .i64 m.part, .int .i64 m.flow, .int .i64 m.idle, .int .i64 m.drive, .int .i64 m.battery, .int .i64 m.deadline] 26
  have q0 := q0.below ((Below.refl (w.heap.size + 1) _).alloc (by simp) (.cells #[.slice a1o o.ways.length (o.ways.length + c1o), .slice a2o o.home.length (o.home.length + c2o), .int .i64 o.start, .slice a3o o.rocks.length (o.rocks.length + c3o), .int .i64 o.speed, .int .i64 o.part, .int .i64 o.flow, .int .i64 o.idle, .int .i64 o.drive, .int .i64 o.battery, .int .i64 o.deadline] 26)) (by omega)
  have q0 := q0.below ((Below.refl (w.heap.size + 2) _).alloc (by simp) (.cells #[.int .i64 a, .int .i64 b, .int .i64 R, .int .i64 Wt] 29)) (by omega)
  have q1 := Has.new (w.alloc (.cells #[.slice a1 m.ways.length (m.ways.length + c1), .slice a2 m.home.length (m.home.length + c2), .int .i64 m.start, .slice a3 m.rocks.length (m.rocks.length + c3), .int .i64 m.speed, .int .i64 m.part, .int .i64 m.flow, .int .i64 m.idle, .int .i64 m.drive, .int .i64 m.battery, .int .i64 m.deadline] 26)) #[.slice a1o o.ways.length (o.ways.length + c1o), .slice a2o o.home.length (o.home.length + c2o), .int .i64 o.start, .slice a3o o.rocks.length (o.rocks.length + c3o), .int .i64 o.speed, .int .i64 o.part, .int .i64 o.flow, .int .i64 o.idle, .int .i64 o.drive, .int .i64 o.battery, .int .i64 o.deadline] 26
  rw [World.size_alloc] at q1
  have q1 := q1.below ((Below.refl (w.heap.size + 2) _).alloc (by simp) (.cells #[.int .i64 a, .int .i64 b, .int .i64 R, .int .i64 Wt] 29)) (by omega)
  have q2 := Has.new ((w.alloc (.cells #[.slice a1 m.ways.length (m.ways.length + c1), .slice a2 m.home.length (m.home.length + c2), .int .i64 m.start, .slice a3 m.rocks.length (m.rocks.length + c3), .int .i64 m.speed, .int .i64 m.part, .int .i64 m.flow, .int .i64 m.idle, .int .i64 m.drive, .int .i64 m.battery, .int .i64 m.deadline] 26)).alloc (.cells #[.slice a1o o.ways.length (o.ways.length + c1o), .slice a2o o.home.length (o.home.length + c2o), .int .i64 o.start, .slice a3o o.rocks.length (o.rocks.length + c3o), .int .i64 o.speed, .int .i64 o.part, .int .i64 o.flow, .int .i64 o.idle, .int .i64 o.drive, .int .i64 o.battery, .int .i64 o.deadline] 26)) #[.int .i64 a, .int .i64 b, .int .i64 R, .int .i64 Wt] 29
  rw [World.size_alloc, World.size_alloc] at q2
  go_wp2_with fail
  replace MM := Lib.hid ((MM.out.below ((((Below.refl w.heap.size w).alloc (Nat.le_refl _) (.cells #[.slice a1 m.ways.length (m.ways.length + c1), .slice a2 m.home.length (m.home.length + c2), .int .i64 m.start, .slice a3 m.rocks.length (m.rocks.length + c3), .int .i64 m.speed, .int .i64 m.part, .int .i64 m.flow, .int .i64 m.idle, .int .i64 m.drive, .int .i64 m.battery, .int .i64 m.deadline] 26)).alloc (by simp) (.cells #[.slice a1o o.ways.length (o.ways.length + c1o), .slice a2o o.home.length (o.home.length + c2o), .int .i64 o.start, .slice a3o o.rocks.length (o.rocks.length + c3o), .int .i64 o.speed, .int .i64 o.part, .int .i64 o.flow, .int .i64 o.idle, .int .i64 o.drive, .int .i64 o.battery, .int .i64 o.deadline] 26)).alloc (by simp; omega) (.cells #[.int .i64 a, .int .i64 b, .int .i64 R, .int .i64 Wt] 29))).mono ((((Below.refl w.heap.size w).alloc (Nat.le_refl _) (.cells #[.slice a1 m.ways.length (m.ways.length + c1), .slice a2 m.home.length (m.home.length + c2), .int .i64 m.start, .slice a3 m.rocks.length (m.rocks.length + c3), .int .i64 m.speed, .int .i64 m.part, .int .i64 m.flow, .int .i64 m.idle, .int .i64 m.drive, .int .i64 m.battery, .int .i64 m.deadline] 26)).alloc (by simp) (.cells #[.slice a1o o.ways.length (o.ways.length + c1o), .slice a2o o.home.length (o.home.length + c2o), .int .i64 o.start, .slice a3o o.rocks.length (o.rocks.length + c3o), .int .i64 o.speed, .int .i64 o.part, .int .i64 o.flow, .int .i64 o.idle, .int .i64 o.drive, .int .i64 o.battery, .int .i64 o.deadline] 26)).alloc (by simp; omega) (.cells #[.int .i64 a, .int .i64 b, .int .i64 R, .int .i64 Wt] 29)).size)
  replace ML := Lib.hid ((ML.out.below ((((Below.refl w.heap.size w).alloc (Nat.le_refl _) (.cells #[.slice a1 m.ways.length (m.ways.length + c1), .slice a2 m.home.length (m.home.length + c2), .int .i64 m.start, .slice a3 m.rocks.length (m.rocks.length + c3), .int .i64 m.speed, .int .i64 m.part, .int .i64 m.flow, .int .i64 m.idle, .int .i64 m.drive, .int .i64 m.battery, .int .i64 m.deadline] 26)).alloc (by simp) (.cells #[.slice a1o o.ways.length (o.ways.length + c1o), .slice a2o o.home.length (o.home.length + c2o), .int .i64 o.start, .slice a3o o.rocks.length (o.rocks.length + c3o), .int .i64 o.speed, .int .i64 o.part, .int .i64 o.flow, .int .i64 o.idle, .int .i64 o.drive, .int .i64 o.battery, .int .i64 o.deadline] 26)).alloc (by simp; omega) (.cells #[.int .i64 a, .int .i64 b, .int .i64 R, .int .i64 Wt] 29))).mono ((((Below.refl w.heap.size w).alloc (Nat.le_refl _) (.cells #[.slice a1 m.ways.length (m.ways.length + c1), .slice a2 m.home.length (m.home.length + c2), .int .i64 m.start, .slice a3 m.rocks.length (m.rocks.length + c3), .int .i64 m.speed, .int .i64 m.part, .int .i64 m.flow, .int .i64 m.idle, .int .i64 m.drive, .int .i64 m.battery, .int .i64 m.deadline] 26)).alloc (by simp) (.cells #[.slice a1o o.ways.length (o.ways.length + c1o), .slice a2o o.home.length (o.home.length + c2o), .int .i64 o.start, .slice a3o o.rocks.length (o.rocks.length + c3o), .int .i64 o.speed, .int .i64 o.part, .int .i64 o.flow, .int .i64 o.idle, .int .i64 o.drive, .int .i64 o.battery, .int .i64 o.deadline] 26)).alloc (by simp; omega) (.cells #[.int .i64 a, .int .i64 b, .int .i64 R, .int .i64 Wt] 29)).size)
  replace OM := Lib.hid ((OM.out.below ((((Below.refl w.heap.size w).alloc (Nat.le_refl _) (.cells #[.slice a1 m.ways.length (m.ways.length + c1), .slice a2 m.home.length (m.home.length + c2), .int .i64 m.start, .slice a3 m.rocks.length (m.rocks.length + c3), .int .i64 m.speed, .int .i64 m.part, .int .i64 m.flow, .int .i64 m.idle, .int .i64 m.drive, .int .i64 m.battery, .int .i64 m.deadline] 26)).alloc (by simp) (.cells #[.slice a1o o.ways.length (o.ways.length + c1o), .slice a2o o.home.length (o.home.length + c2o), .int .i64 o.start, .slice a3o o.rocks.length (o.rocks.length + c3o), .int .i64 o.speed, .int .i64 o.part, .int .i64 o.flow, .int .i64 o.idle, .int .i64 o.drive, .int .i64 o.battery, .int .i64 o.deadline] 26)).alloc (by simp; omega) (.cells #[.int .i64 a, .int .i64 b, .int .i64 R, .int .i64 Wt] 29))).mono ((((Below.refl w.heap.size w).alloc (Nat.le_refl _) (.cells #[.slice a1 m.ways.length (m.ways.length + c1), .slice a2 m.home.length (m.home.length + c2), .int .i64 m.start, .slice a3 m.rocks.length (m.rocks.length + c3), .int .i64 m.speed, .int .i64 m.part, .int .i64 m.flow, .int .i64 m.idle, .int .i64 m.drive, .int .i64 m.battery, .int .i64 m.deadline] 26)).alloc (by simp) (.cells #[.slice a1o o.ways.length (o.ways.length + c1o), .slice a2o o.home.length (o.home.length + c2o), .int .i64 o.start, .slice a3o o.rocks.length (o.rocks.length + c3o), .int .i64 o.speed, .int .i64 o.part, .int .i64 o.flow, .int .i64 o.idle, .int .i64 o.drive, .int .i64 o.battery, .int .i64 o.deadline] 26)).alloc (by simp; omega) (.cells #[.int .i64 a, .int .i64 b, .int .i64 R, .int .i64 Wt] 29)).size)
  replace OL := Lib.hid ((OL.out.below ((((Below.refl w.heap.size w).alloc (Nat.le_refl _) (.cells #[.slice a1 m.ways.length (m.ways.length + c1), .slice a2 m.home.length (m.home.length + c2), .int .i64 m.start, .slice a3 m.rocks.length (m.rocks.length + c3), .int .i64 m.speed, .int .i64 m.part, .int .i64 m.flow, .int .i64 m.idle, .int .i64 m.drive, .int .i64 m.battery, .int .i64 m.deadline] 26)).alloc (by simp) (.cells #[.slice a1o o.ways.length (o.ways.length + c1o), .slice a2o o.home.length (o.home.length + c2o), .int .i64 o.start, .slice a3o o.rocks.length (o.rocks.length + c3o), .int .i64 o.speed, .int .i64 o.part, .int .i64 o.flow, .int .i64 o.idle, .int .i64 o.drive, .int .i64 o.battery, .int .i64 o.deadline] 26)).alloc (by simp; omega) (.cells #[.int .i64 a, .int .i64 b, .int .i64 R, .int .i64 Wt] 29))).mono ((((Below.refl w.heap.size w).alloc (Nat.le_refl _) (.cells #[.slice a1 m.ways.length (m.ways.length + c1), .slice a2 m.home.length (m.home.length + c2), .int .i64 m.start, .slice a3 m.rocks.length (m.rocks.length + c3), .int .i64 m.speed, .int .i64 m.part, .int .i64 m.flow, .int .i64 m.idle, .int .i64 m.drive, .int .i64 m.battery, .int .i64 m.deadline] 26)).alloc (by simp) (.cells #[.slice a1o o.ways.length (o.ways.length + c1o), .slice a2o o.home.length (o.home.length + c2o), .int .i64 o.start, .slice a3o o.rocks.length (o.rocks.length + c3o), .int .i64 o.speed, .int .i64 o.part, .int .i64 o.flow, .int .i64 o.idle, .int .i64 o.drive, .int .i64 o.battery, .int .i64 o.deadline] 26)).alloc (by simp; omega) (.cells #[.int .i64 a, .int .i64 b, .int .i64 R, .int .i64 Wt] 29)).size)
  have MB := Lib.hid (show Has (((w.alloc (.cells #[.slice a1 m.ways.length (m.ways.length + c1), .slice a2 m.home.length (m.home.length + c2), .int .i64 m.start, .slice a3 m.rocks.length (m.rocks.length + c3), .int .i64 m.speed, .int .i64 m.part, .int .i64 m.flow, .int .i64 m.idle, .int .i64 m.drive, .int .i64 m.battery, .int .i64 m.deadline] 26)).alloc (.cells #[.slice a1o o.ways.length (o.ways.length + c1o), .slice a2o o.home.length (o.home.length + c2o), .int .i64 o.start, .slice a3o o.rocks.length (o.rocks.length + c3o), .int .i64 o.speed, .int .i64 o.part, .int .i64 o.flow, .int .i64 o.idle, .int .i64 o.drive, .int .i64 o.battery, .int .i64 o.deadline] 26)).alloc (.cells #[.int .i64 a, .int .i64 b, .int .i64 R, .int .i64 Wt] 29)) (w.heap.size) #[.slice a1 m.ways.length (m.ways.length + c1), .slice a2 m.home.length (m.home.length + c2), .int .i64 m.start, .slice a3 m.rocks.length (m.rocks.length + c3), .int .i64 m.speed, .int .i64 m.part, .int .i64 m.flow, .int .i64 m.idle, .int .i64 m.drive, .int .i64 m.battery, .int .i64 m.deadline] 26 from q0)
  have OB := Lib.hid (show Has (((w.alloc (.cells #[.slice a1 m.ways.length (m.ways.length + c1), .slice a2 m.home.length (m.home.length + c2), .int .i64 m.start, .slice a3 m.rocks.length (m.rocks.length + c3), .int .i64 m.speed, .int .i64 m.part, .int .i64 m.flow, .int .i64 m.idle, .int .i64 m.drive, .int .i64 m.battery, .int .i64 m.deadline] 26)).alloc (.cells #[.slice a1o o.ways.length (o.ways.length + c1o), .slice a2o o.home.length (o.home.length + c2o), .int .i64 o.start, .slice a3o o.rocks.length (o.rocks.length + c3o), .int .i64 o.speed, .int .i64 o.part, .int .i64 o.flow, .int .i64 o.idle, .int .i64 o.drive, .int .i64 o.battery, .int .i64 o.deadline] 26)).alloc (.cells #[.int .i64 a, .int .i64 b, .int .i64 R, .int .i64 Wt] 29)) (w.heap.size + 1) #[.slice a1o o.ways.length (o.ways.length + c1o), .slice a2o o.home.length (o.home.length + c2o), .int .i64 o.start, .slice a3o o.rocks.length (o.rocks.length + c3o), .int .i64 o.speed, .int .i64 o.part, .int .i64 o.flow, .int .i64 o.idle, .int .i64 o.drive, .int .i64 o.battery, .int .i64 o.deadline] 26 from q1)
  have TB := Lib.hid (show Has (((w.alloc (.cells #[.slice a1 m.ways.length (m.ways.length + c1), .slice a2 m.home.length (m.home.length + c2), .int .i64 m.start, .slice a3 m.rocks.length (m.rocks.length + c3), .int .i64 m.speed, .int .i64 m.part, .int .i64 m.flow, .int .i64 m.idle, .int .i64 m.drive, .int .i64 m.battery, .int .i64 m.deadline] 26)).alloc (.cells #[.slice a1o o.ways.length (o.ways.length + c1o), .slice a2o o.home.length (o.home.length + c2o), .int .i64 o.start, .slice a3o o.rocks.length (o.rocks.length + c3o), .int .i64 o.speed, .int .i64 o.part, .int .i64 o.flow, .int .i64 o.idle, .int .i64 o.drive, .int .i64 o.battery, .int .i64 o.deadline] 26)).alloc (.cells #[.int .i64 a, .int .i64 b, .int .i64 R, .int .i64 Wt] 29)) (w.heap.size + 1 + 1) #[.int .i64 a, .int .i64 b, .int .i64 R, .int .i64 Wt] 29 from q2)
  have BX0 := Lib.hid (B0.out.trans ((((((Below.refl w.heap.size w).alloc (Nat.le_refl _) (.cells #[.slice a1 m.ways.length (m.ways.length + c1), .slice a2 m.home.length (m.home.length + c2), .int .i64 m.start, .slice a3 m.rocks.length (m.rocks.length + c3), .int .i64 m.speed, .int .i64 m.part, .int .i64 m.flow, .int .i64 m.idle, .int .i64 m.drive, .int .i64 m.battery, .int .i64 m.deadline] 26)).alloc (by simp) (.cells #[.slice a1o o.ways.length (o.ways.length + c1o), .slice a2o o.home.length (o.home.length + c2o), .int .i64 o.start, .slice a3o o.rocks.length (o.rocks.length + c3o), .int .i64 o.speed, .int .i64 o.part, .int .i64 o.flow, .int .i64 o.idle, .int .i64 o.drive, .int .i64 o.battery, .int .i64 o.deadline] 26)).alloc (by simp; omega) (.cells #[.int .i64 a, .int .i64 b, .int .i64 R, .int .i64 Wt] 29))).mono B0.out.size))
  generalize hXX0 : (((w.alloc (.cells #[.slice a1 m.ways.length (m.ways.length + c1), .slice a2 m.home.length (m.home.length + c2), .int .i64 m.start, .slice a3 m.rocks.length (m.rocks.length + c3), .int .i64 m.speed, .int .i64 m.part, .int .i64 m.flow, .int .i64 m.idle, .int .i64 m.drive, .int .i64 m.battery, .int .i64 m.deadline] 26)).alloc (.cells #[.slice a1o o.ways.length (o.ways.length + c1o), .slice a2o o.home.length (o.home.length + c2o), .int .i64 o.start, .slice a3o o.rocks.length (o.rocks.length + c3o), .int .i64 o.speed, .int .i64 o.part, .int .i64 o.flow, .int .i64 o.idle, .int .i64 o.drive, .int .i64 o.battery, .int .i64 o.deadline] 26)).alloc (.cells #[.int .i64 a, .int .i64 b, .int .i64 R, .int .i64 Wt] 29)) = X0 at *
  clear hXX0
  clear q0 q1 q2
  have hz0 := BX0.out.size
  refine (f1.out _ MM.out ML.out).mono ?_
  rintro e w1 ⟨mA, vwA, vhA, vrA, vaA, vtA, laA, ltA, rfl, p1, q1, r1, s1, b1⟩
  have B1 := Lib.hid (BX0.out.trans (b1.mono BX0.out.size))
  replace MM := Lib.hid ((MM.out.below b1).mono b1.size)
  replace ML := Lib.hid ((ML.out.below b1).mono b1.size)
  replace OM := Lib.hid ((OM.out.below b1).mono b1.size)
  replace OL := Lib.hid ((OL.out.below b1).mono b1.size)
  replace MB := Lib.hid (MB.out.below b1 MB.out.lt)
  replace OB := Lib.hid (OB.out.below b1 OB.out.lt)
  replace TB := Lib.hid (TB.out.below b1 TB.out.lt)
  have VA := Lib.hid p1
  have AAA := Lib.hid q1
  have TAA := Lib.hid r1
  have EQA := Lib.hid s1
  obtain ⟨⟨-, a1A, c1A, h1, -⟩, ⟨-, a2A, c2A, h2, -⟩, ⟨-, a3A, c3A, h3, -⟩⟩ := p1
  subst h1 h2 h3
  obtain ⟨-, aaA, caA, h1, -⟩ := q1
  subst h1
  obtain ⟨-, atA, ctA, h1, -⟩ := r1
  subst h1
  clear s1
  unfold vehCells
  clear b1
  have om := msn_cells (m := o) (OB.out.below ((Below.refl w1.heap.size w1).alloc (Nat.le_refl _) (.cells #[.slice a1A mA.ways.length (mA.ways.length + c1A), .slice a2A mA.home.length (mA.home.length + c2A), .int .i64 mA.start, .slice a3A mA.rocks.length (mA.rocks.length + c3A), .int .i64 mA.speed, .int .i64 mA.part, .int .i64 mA.flow, .int .i64 mA.idle, .int .i64 mA.drive, .int .i64 mA.battery, .int .i64 mA.deadline, .slice aaA laA.length (laA.length + caA), .slice atA ltA.length (ltA.length + ctA)] 72)) OB.out.lt)
  obtain ⟨d0, d1, d2, d3, d4, d5, d6, d7, d8, d9, d10⟩ := om
  go_wp2_with fail
  replace MM := Lib.hid ((MM.out.below ((Below.refl w1.heap.size w1).alloc (Nat.le_refl _) (.cells #[.slice a1A mA.ways.length (mA.ways.length + c1A), .slice a2A mA.home.length (mA.home.length + c2A), .int .i64 mA.start, .slice a3A mA.rocks.length (mA.rocks.length + c3A), .int .i64 mA.speed, .int .i64 mA.part, .int .i64 mA.flow, .int .i64 mA.idle, .int .i64 mA.drive, .int .i64 mA.battery, .int .i64 mA.deadline, .slice aaA laA.length (laA.length + caA), .slice atA ltA.length (ltA.length + ctA)] 72))).mono ((Below.refl w1.heap.size w1).alloc (Nat.le_refl _) (.cells #[.slice a1A mA.ways.length (mA.ways.length + c1A), .slice a2A mA.home.length (mA.home.length + c2A), .int .i64 mA.start, .slice a3A mA.rocks.length (mA.rocks.length + c3A), .int .i64 mA.speed, .int .i64 mA.part, .int .i64 mA.flow, .int .i64 mA.idle, .int .i64 mA.drive, .int .i64 mA.battery, .int .i64 mA.deadline, .slice aaA laA.length (laA.length + caA), .slice atA ltA.length (ltA.length + ctA)] 72)).size)
  replace ML := Lib.hid ((ML.out.below ((Below.refl w1.heap.size w1).alloc (Nat.le_refl _) (.cells #[.slice a1A mA.ways.length (mA.ways.length + c1A), .slice a2A mA.home.length (mA.home.length + c2A), .int .i64 mA.start, .slice a3A mA.rocks.length (mA.rocks.length + c3A), .int .i64 mA.speed, .int .i64 mA.part, .int .i64 mA.flow, .int .i64 mA.idle, .int .i64 mA.drive, .int .i64 mA.battery, .int .i64 mA.deadline, .slice aaA laA.length (laA.length + caA), .slice atA ltA.length (ltA.length + ctA)] 72))).mono ((Below.refl w1.heap.size w1).alloc (Nat.le_refl _) (.cells #[.slice a1A mA.ways.length (mA.ways.length + c1A), .slice a2A mA.home.length (mA.home.length + c2A), .int .i64 mA.start, .slice a3A mA.rocks.length (mA.rocks.length + c3A), .int .i64 mA.speed, .int .i64 mA.part, .int .i64 mA.flow, .int .i64 mA.idle, .int .i64 mA.drive, .int .i64 mA.battery, .int .i64 mA.deadline, .slice aaA laA.length (laA.length + caA), .slice atA ltA.length (ltA.length + ctA)] 72)).size)
  replace OM := Lib.hid ((OM.out.below ((Below.refl w1.heap.size w1).alloc (Nat.le_refl _) (.cells #[.slice a1A mA.ways.length (mA.ways.length + c1A), .slice a2A mA.home.length (mA.home.length + c2A), .int .i64 mA.start, .slice a3A mA.rocks.length (mA.rocks.length + c3A), .int .i64 mA.speed, .int .i64 mA.part, .int .i64 mA.flow, .int .i64 mA.idle, .int .i64 mA.drive, .int .i64 mA.battery, .int .i64 mA.deadline, .slice aaA laA.length (laA.length + caA), .slice atA ltA.length (ltA.length + ctA)] 72))).mono ((Below.refl w1.heap.size w1).alloc (Nat.le_refl _) (.cells #[.slice a1A mA.ways.length (mA.ways.length + c1A), .slice a2A mA.home.length (mA.home.length + c2A), .int .i64 mA.start, .slice a3A mA.rocks.length (mA.rocks.length + c3A), .int .i64 mA.speed, .int .i64 mA.part, .int .i64 mA.flow, .int .i64 mA.idle, .int .i64 mA.drive, .int .i64 mA.battery, .int .i64 mA.deadline, .slice aaA laA.length (laA.length + caA), .slice atA ltA.length (ltA.length + ctA)] 72)).size)
  replace OL := Lib.hid ((OL.out.below ((Below.refl w1.heap.size w1).alloc (Nat.le_refl _) (.cells #[.slice a1A mA.ways.length (mA.ways.length + c1A), .slice a2A mA.home.length (mA.home.length + c2A), .int .i64 mA.start, .slice a3A mA.rocks.length (mA.rocks.length + c3A), .int .i64 mA.speed, .int .i64 mA.part, .int .i64 mA.flow, .int .i64 mA.idle, .int .i64 mA.drive, .int .i64 mA.battery, .int .i64 mA.deadline, .slice aaA laA.length (laA.length + caA), .slice atA ltA.length (ltA.length + ctA)] 72))).mono ((Below.refl w1.heap.size w1).alloc (Nat.le_refl _) (.cells #[.slice a1A mA.ways.length (mA.ways.length + c1A), .slice a2A mA.home.length (mA.home.length + c2A), .int .i64 mA.start, .slice a3A mA.rocks.length (mA.rocks.length + c3A), .int .i64 mA.speed, .int .i64 mA.part, .int .i64 mA.flow, .int .i64 mA.idle, .int .i64 mA.drive, .int .i64 mA.battery, .int .i64 mA.deadline, .slice aaA laA.length (laA.length + caA), .slice atA ltA.length (ltA.length + ctA)] 72)).size)
  replace MB := Lib.hid (MB.out.below ((Below.refl w1.heap.size w1).alloc (Nat.le_refl _) (.cells #[.slice a1A mA.ways.length (mA.ways.length + c1A), .slice a2A mA.home.length (mA.home.length + c2A), .int .i64 mA.start, .slice a3A mA.rocks.length (mA.rocks.length + c3A), .int .i64 mA.speed, .int .i64 mA.part, .int .i64 mA.flow, .int .i64 mA.idle, .int .i64 mA.drive, .int .i64 mA.battery, .int .i64 mA.deadline, .slice aaA laA.length (laA.length + caA), .slice atA ltA.length (ltA.length + ctA)] 72)) MB.out.lt)
  replace OB := Lib.hid (OB.out.below ((Below.refl w1.heap.size w1).alloc (Nat.le_refl _) (.cells #[.slice a1A mA.ways.length (mA.ways.length + c1A), .slice a2A mA.home.length (mA.home.length + c2A), .int .i64 mA.start, .slice a3A mA.rocks.length (mA.rocks.length + c3A), .int .i64 mA.speed, .int .i64 mA.part, .int .i64 mA.flow, .int .i64 mA.idle, .int .i64 mA.drive, .int .i64 mA.battery, .int .i64 mA.deadline, .slice aaA laA.length (laA.length + caA), .slice atA ltA.length (ltA.length + ctA)] 72)) OB.out.lt)
  replace TB := Lib.hid (TB.out.below ((Below.refl w1.heap.size w1).alloc (Nat.le_refl _) (.cells #[.slice a1A mA.ways.length (mA.ways.length + c1A), .slice a2A mA.home.length (mA.home.length + c2A), .int .i64 mA.start, .slice a3A mA.rocks.length (mA.rocks.length + c3A), .int .i64 mA.speed, .int .i64 mA.part, .int .i64 mA.flow, .int .i64 mA.idle, .int .i64 mA.drive, .int .i64 mA.battery, .int .i64 mA.deadline, .slice aaA laA.length (laA.length + caA), .slice atA ltA.length (ltA.length + ctA)] 72)) TB.out.lt)
  replace VA := Lib.hid ((VA.out.below ((Below.refl w1.heap.size w1).alloc (Nat.le_refl _) (.cells #[.slice a1A mA.ways.length (mA.ways.length + c1A), .slice a2A mA.home.length (mA.home.length + c2A), .int .i64 mA.start, .slice a3A mA.rocks.length (mA.rocks.length + c3A), .int .i64 mA.speed, .int .i64 mA.part, .int .i64 mA.flow, .int .i64 mA.idle, .int .i64 mA.drive, .int .i64 mA.battery, .int .i64 mA.deadline, .slice aaA laA.length (laA.length + caA), .slice atA ltA.length (ltA.length + ctA)] 72))).mono ((Below.refl w1.heap.size w1).alloc (Nat.le_refl _) (.cells #[.slice a1A mA.ways.length (mA.ways.length + c1A), .slice a2A mA.home.length (mA.home.length + c2A), .int .i64 mA.start, .slice a3A mA.rocks.length (mA.rocks.length + c3A), .int .i64 mA.speed, .int .i64 mA.part, .int .i64 mA.flow, .int .i64 mA.idle, .int .i64 mA.drive, .int .i64 mA.battery, .int .i64 mA.deadline, .slice aaA laA.length (laA.length + caA), .slice atA ltA.length (ltA.length + ctA)] 72)).size)
  replace AAA := Lib.hid ((AAA.out.below ((Below.refl w1.heap.size w1).alloc (Nat.le_refl _) (.cells #[.slice a1A mA.ways.length (mA.ways.length + c1A), .slice a2A mA.home.length (mA.home.length + c2A), .int .i64 mA.start, .slice a3A mA.rocks.length (mA.rocks.length + c3A), .int .i64 mA.speed, .int .i64 mA.part, .int .i64 mA.flow, .int .i64 mA.idle, .int .i64 mA.drive, .int .i64 mA.battery, .int .i64 mA.deadline, .slice aaA laA.length (laA.length + caA), .slice atA ltA.length (ltA.length + ctA)] 72))).mono ((Below.refl w1.heap.size w1).alloc (Nat.le_refl _) (.cells #[.slice a1A mA.ways.length (mA.ways.length + c1A), .slice a2A mA.home.length (mA.home.length + c2A), .int .i64 mA.start, .slice a3A mA.rocks.length (mA.rocks.length + c3A), .int .i64 mA.speed, .int .i64 mA.part, .int .i64 mA.flow, .int .i64 mA.idle, .int .i64 mA.drive, .int .i64 mA.battery, .int .i64 mA.deadline, .slice aaA laA.length (laA.length + caA), .slice atA ltA.length (ltA.length + ctA)] 72)).size)
  replace TAA := Lib.hid ((TAA.out.below ((Below.refl w1.heap.size w1).alloc (Nat.le_refl _) (.cells #[.slice a1A mA.ways.length (mA.ways.length + c1A), .slice a2A mA.home.length (mA.home.length + c2A), .int .i64 mA.start, .slice a3A mA.rocks.length (mA.rocks.length + c3A), .int .i64 mA.speed, .int .i64 mA.part, .int .i64 mA.flow, .int .i64 mA.idle, .int .i64 mA.drive, .int .i64 mA.battery, .int .i64 mA.deadline, .slice aaA laA.length (laA.length + caA), .slice atA ltA.length (ltA.length + ctA)] 72))).mono ((Below.refl w1.heap.size w1).alloc (Nat.le_refl _) (.cells #[.slice a1A mA.ways.length (mA.ways.length + c1A), .slice a2A mA.home.length (mA.home.length + c2A), .int .i64 mA.start, .slice a3A mA.rocks.length (mA.rocks.length + c3A), .int .i64 mA.speed, .int .i64 mA.part, .int .i64 mA.flow, .int .i64 mA.idle, .int .i64 mA.drive, .int .i64 mA.battery, .int .i64 mA.deadline, .slice aaA laA.length (laA.length + caA), .slice atA ltA.length (ltA.length + ctA)] 72)).size)
  have RA := Lib.hid (show Has (w1.alloc (.cells #[.slice a1A mA.ways.length (mA.ways.length + c1A), .slice a2A mA.home.length (mA.home.length + c2A), .int .i64 mA.start, .slice a3A mA.rocks.length (mA.rocks.length + c3A), .int .i64 mA.speed, .int .i64 mA.part, .int .i64 mA.flow, .int .i64 mA.idle, .int .i64 mA.drive, .int .i64 mA.battery, .int .i64 mA.deadline, .slice aaA laA.length (laA.length + caA), .slice atA ltA.length (ltA.length + ctA)] 72)) w1.heap.size #[.slice a1A mA.ways.length (mA.ways.length + c1A), .slice a2A mA.home.length (mA.home.length + c2A), .int .i64 mA.start, .slice a3A mA.rocks.length (mA.rocks.length + c3A), .int .i64 mA.speed, .int .i64 mA.part, .int .i64 mA.flow, .int .i64 mA.idle, .int .i64 mA.drive, .int .i64 mA.battery, .int .i64 mA.deadline, .slice aaA laA.length (laA.length + caA), .slice atA ltA.length (ltA.length + ctA)] 72 from Has.new w1 #[.slice a1A mA.ways.length (mA.ways.length + c1A), .slice a2A mA.home.length (mA.home.length + c2A), .int .i64 mA.start, .slice a3A mA.rocks.length (mA.rocks.length + c3A), .int .i64 mA.speed, .int .i64 mA.part, .int .i64 mA.flow, .int .i64 mA.idle, .int .i64 mA.drive, .int .i64 mA.battery, .int .i64 mA.deadline, .slice aaA laA.length (laA.length + caA), .slice atA ltA.length (ltA.length + ctA)] 72)
  have BX1 := Lib.hid (B1.out.trans ((((Below.refl w1.heap.size w1).alloc (Nat.le_refl _) (.cells #[.slice a1A mA.ways.length (mA.ways.length + c1A), .slice a2A mA.home.length (mA.home.length + c2A), .int .i64 mA.start, .slice a3A mA.rocks.length (mA.rocks.length + c3A), .int .i64 mA.speed, .int .i64 mA.part, .int .i64 mA.flow, .int .i64 mA.idle, .int .i64 mA.drive, .int .i64 mA.battery, .int .i64 mA.deadline, .slice aaA laA.length (laA.length + caA), .slice atA ltA.length (ltA.length + ctA)] 72))).mono B1.out.size))
  generalize hXX1 : (w1.alloc (.cells #[.slice a1A mA.ways.length (mA.ways.length + c1A), .slice a2A mA.home.length (mA.home.length + c2A), .int .i64 mA.start, .slice a3A mA.rocks.length (mA.rocks.length + c3A), .int .i64 mA.speed, .int .i64 mA.part, .int .i64 mA.flow, .int .i64 mA.idle, .int .i64 mA.drive, .int .i64 mA.battery, .int .i64 mA.deadline, .slice aaA laA.length (laA.length + caA), .slice atA ltA.length (ltA.length + ctA)] 72)) = X1 at *
  clear hXX1
  clear d0 d1 d2 d3 d4 d5 d6 d7 d8 d9 d10
  refine (f2.out _ OM.out OL.out).mono ?_
  rintro e w2 ⟨mB, vwB, vhB, vrB, vaB, vtB, laB, ltB, rfl, p2, q2, r2, s2, b2⟩
  have B2 := Lib.hid (BX1.out.trans (b2.mono BX1.out.size))
  replace MM := Lib.hid ((MM.out.below b2).mono b2.size)
  replace ML := Lib.hid ((ML.out.below b2).mono b2.size)
  replace OM := Lib.hid ((OM.out.below b2).mono b2.size)
  replace OL := Lib.hid ((OL.out.below b2).mono b2.size)
  replace MB := Lib.hid (MB.out.below b2 MB.out.lt)
  replace OB := Lib.hid (OB.out.below b2 OB.out.lt)
  replace TB := Lib.hid (TB.out.below b2 TB.out.lt)
  replace VA := Lib.hid ((VA.out.below b2).mono b2.size)
  replace AAA := Lib.hid ((AAA.out.below b2).mono b2.size)
  replace TAA := Lib.hid ((TAA.out.below b2).mono b2.size)
  replace RA := Lib.hid (RA.out.below b2 RA.out.lt)
  have VB := Lib.hid p2
  have AAB := Lib.hid q2
  have TAB := Lib.hid r2
  have EQB := Lib.hid s2
  obtain ⟨⟨-, a1B, c1B, h1, -⟩, ⟨-, a2B, c2B, h2, -⟩, ⟨-, a3B, c3B, h3, -⟩⟩ := p2
  subst h1 h2 h3
  obtain ⟨-, aaB, caB, h1, -⟩ := q2
  subst h1
  obtain ⟨-, atB, ctB, h1, -⟩ := r2
  subst h1
  clear s2
  unfold vehCells
  clear b2
  have BZ := Lib.hid (B2.out.trans ((show Below w2.heap.size w2 (w2.alloc (.cells #[.slice a1B mB.ways.length (mB.ways.length + c1B), .slice a2B mB.home.length (mB.home.length + c2B), .int .i64 mB.start, .slice a3B mB.rocks.length (mB.rocks.length + c3B), .int .i64 mB.speed, .int .i64 mB.part, .int .i64 mB.flow, .int .i64 mB.idle, .int .i64 mB.drive, .int .i64 mB.battery, .int .i64 mB.deadline, .slice aaB laB.length (laB.length + caB), .slice atB ltB.length (ltB.length + ctB)] 72)) from (Below.refl _ _).alloc (Nat.le_refl _) _).mono B2.out.size))
  cases hb1 : radOkB m l
  · go_wp2
    go_ret2
    exact ⟨by simp [errB, hb1], BZ.out⟩
  cases hb2 : radOkB o lo
  · go_wp2
    go_ret2
    exact ⟨by simp [errB, hb2], BZ.out⟩
  clear BZ
  obtain ⟨⟨h1, h2, h3, h4⟩, h5, h6⟩ := EQA.out hb1
  replace h1 := h1.symm
  subst h1
  subst h5
  subst h6
  simp only [Value.slice.injEq, true_and, Nat.add_left_cancel_iff] at h2 h3 h4
  obtain ⟨h7, h8⟩ := h2
  replace h7 := h7.symm
  replace h8 := h8.symm
  subst h7
  subst h8
  obtain ⟨h7, h8⟩ := h3
  replace h7 := h7.symm
  replace h8 := h8.symm
  subst h7
  subst h8
  obtain ⟨h7, h8⟩ := h4
  replace h7 := h7.symm
  replace h8 := h8.symm
  subst h7
  subst h8
  clear EQA
  obtain ⟨⟨h1, h2, h3, h4⟩, h5, h6⟩ := EQB.out hb2
  replace h1 := h1.symm
  subst h1
  subst h5
  subst h6
  simp only [Value.slice.injEq, true_and, Nat.add_left_cancel_iff] at h2 h3 h4
  obtain ⟨h7, h8⟩ := h2
  replace h7 := h7.symm
  replace h8 := h8.symm
  subst h7
  subst h8
  obtain ⟨h7, h8⟩ := h3
  replace h7 := h7.symm
  replace h8 := h8.symm
  subst h7
  subst h8
  obtain ⟨h7, h8⟩ := h4
  replace h7 := h7.symm
  replace h8 := h8.symm
  subst h7
  subst h8
  clear EQB
  clear MM OM ML OL f1 f2
  have q0 := (RA.out.below ((Below.refl w2.heap.size w2).alloc (Nat.le_refl _) (.cells #[.slice a1o o.ways.length (o.ways.length + c1o), .slice a2o o.home.length (o.home.length + c2o), .int .i64 o.start, .slice a3o o.rocks.length (o.rocks.length + c3o), .int .i64 o.speed, .int .i64 o.part, .int .i64 o.flow, .int .i64 o.idle, .int .i64 o.drive, .int .i64 o.battery, .int .i64 o.deadline, .slice aaB (rdAU o lo).length ((rdAU o lo).length + caB), .slice atB (usedT o lo).length ((usedT o lo).length + ctB)] 72)) RA.out.lt)
  have q1 := (TB.out.below ((Below.refl w2.heap.size w2).alloc (Nat.le_refl _) (.cells #[.slice a1o o.ways.length (o.ways.length + c1o), .slice a2o o.home.length (o.home.length + c2o), .int .i64 o.start, .slice a3o o.rocks.length (o.rocks.length + c3o), .int .i64 o.speed, .int .i64 o.part, .int .i64 o.flow, .int .i64 o.idle, .int .i64 o.drive, .int .i64 o.battery, .int .i64 o.deadline, .slice aaB (rdAU o lo).length ((rdAU o lo).length + caB), .slice atB (usedT o lo).length ((usedT o lo).length + ctB)] 72)) TB.out.lt)
  have rA0 := q0.cell (i := 0) rfl
  have rA1 := q0.cell (i := 1) rfl
  have rA2 := q0.cell (i := 2) rfl
  have rA3 := q0.cell (i := 3) rfl
  have rA4 := q0.cell (i := 4) rfl
  have rA5 := q0.cell (i := 5) rfl
  have rA6 := q0.cell (i := 6) rfl
  have rA7 := q0.cell (i := 7) rfl
  have rA8 := q0.cell (i := 8) rfl
  have rA9 := q0.cell (i := 9) rfl
  have rA10 := q0.cell (i := 10) rfl
  have rA11 := q0.cell (i := 11) rfl
  have rA12 := q0.cell (i := 12) rfl
  have t0 := q1.cell (i := 0) rfl
  have t1 := q1.cell (i := 1) rfl
  have t2 := q1.cell (i := 2) rfl
  have t3 := q1.cell (i := 3) rfl
  go_wp2_with fail
  replace MB := Lib.hid (MB.out.below ((Below.refl w2.heap.size w2).alloc (Nat.le_refl _) (.cells #[.slice a1o o.ways.length (o.ways.length + c1o), .slice a2o o.home.length (o.home.length + c2o), .int .i64 o.start, .slice a3o o.rocks.length (o.rocks.length + c3o), .int .i64 o.speed, .int .i64 o.part, .int .i64 o.flow, .int .i64 o.idle, .int .i64 o.drive, .int .i64 o.battery, .int .i64 o.deadline, .slice aaB (rdAU o lo).length ((rdAU o lo).length + caB), .slice atB (usedT o lo).length ((usedT o lo).length + ctB)] 72)) MB.out.lt)
  replace OB := Lib.hid (OB.out.below ((Below.refl w2.heap.size w2).alloc (Nat.le_refl _) (.cells #[.slice a1o o.ways.length (o.ways.length + c1o), .slice a2o o.home.length (o.home.length + c2o), .int .i64 o.start, .slice a3o o.rocks.length (o.rocks.length + c3o), .int .i64 o.speed, .int .i64 o.part, .int .i64 o.flow, .int .i64 o.idle, .int .i64 o.drive, .int .i64 o.battery, .int .i64 o.deadline, .slice aaB (rdAU o lo).length ((rdAU o lo).length + caB), .slice atB (usedT o lo).length ((usedT o lo).length + ctB)] 72)) OB.out.lt)
  replace TB := Lib.hid (TB.out.below ((Below.refl w2.heap.size w2).alloc (Nat.le_refl _) (.cells #[.slice a1o o.ways.length (o.ways.length + c1o), .slice a2o o.home.length (o.home.length + c2o), .int .i64 o.start, .slice a3o o.rocks.length (o.rocks.length + c3o), .int .i64 o.speed, .int .i64 o.part, .int .i64 o.flow, .int .i64 o.idle, .int .i64 o.drive, .int .i64 o.battery, .int .i64 o.deadline, .slice aaB (rdAU o lo).length ((rdAU o lo).length + caB), .slice atB (usedT o lo).length ((usedT o lo).length + ctB)] 72)) TB.out.lt)
  replace VA := Lib.hid ((VA.out.below ((Below.refl w2.heap.size w2).alloc (Nat.le_refl _) (.cells #[.slice a1o o.ways.length (o.ways.length + c1o), .slice a2o o.home.length (o.home.length + c2o), .int .i64 o.start, .slice a3o o.rocks.length (o.rocks.length + c3o), .int .i64 o.speed, .int .i64 o.part, .int .i64 o.flow, .int .i64 o.idle, .int .i64 o.drive, .int .i64 o.battery, .int .i64 o.deadline, .slice aaB (rdAU o lo).length ((rdAU o lo).length + caB), .slice atB (usedT o lo).length ((usedT o lo).length + ctB)] 72))).mono ((Below.refl w2.heap.size w2).alloc (Nat.le_refl _) (.cells #[.slice a1o o.ways.length (o.ways.length + c1o), .slice a2o o.home.length (o.home.length + c2o), .int .i64 o.start, .slice a3o o.rocks.length (o.rocks.length + c3o), .int .i64 o.speed, .int .i64 o.part, .int .i64 o.flow, .int .i64 o.idle, .int .i64 o.drive, .int .i64 o.battery, .int .i64 o.deadline, .slice aaB (rdAU o lo).length ((rdAU o lo).length + caB), .slice atB (usedT o lo).length ((usedT o lo).length + ctB)] 72)).size)
  replace AAA := Lib.hid ((AAA.out.below ((Below.refl w2.heap.size w2).alloc (Nat.le_refl _) (.cells #[.slice a1o o.ways.length (o.ways.length + c1o), .slice a2o o.home.length (o.home.length + c2o), .int .i64 o.start, .slice a3o o.rocks.length (o.rocks.length + c3o), .int .i64 o.speed, .int .i64 o.part, .int .i64 o.flow, .int .i64 o.idle, .int .i64 o.drive, .int .i64 o.battery, .int .i64 o.deadline, .slice aaB (rdAU o lo).length ((rdAU o lo).length + caB), .slice atB (usedT o lo).length ((usedT o lo).length + ctB)] 72))).mono ((Below.refl w2.heap.size w2).alloc (Nat.le_refl _) (.cells #[.slice a1o o.ways.length (o.ways.length + c1o), .slice a2o o.home.length (o.home.length + c2o), .int .i64 o.start, .slice a3o o.rocks.length (o.rocks.length + c3o), .int .i64 o.speed, .int .i64 o.part, .int .i64 o.flow, .int .i64 o.idle, .int .i64 o.drive, .int .i64 o.battery, .int .i64 o.deadline, .slice aaB (rdAU o lo).length ((rdAU o lo).length + caB), .slice atB (usedT o lo).length ((usedT o lo).length + ctB)] 72)).size)
  replace TAA := Lib.hid ((TAA.out.below ((Below.refl w2.heap.size w2).alloc (Nat.le_refl _) (.cells #[.slice a1o o.ways.length (o.ways.length + c1o), .slice a2o o.home.length (o.home.length + c2o), .int .i64 o.start, .slice a3o o.rocks.length (o.rocks.length + c3o), .int .i64 o.speed, .int .i64 o.part, .int .i64 o.flow, .int .i64 o.idle, .int .i64 o.drive, .int .i64 o.battery, .int .i64 o.deadline, .slice aaB (rdAU o lo).length ((rdAU o lo).length + caB), .slice atB (usedT o lo).length ((usedT o lo).length + ctB)] 72))).mono ((Below.refl w2.heap.size w2).alloc (Nat.le_refl _) (.cells #[.slice a1o o.ways.length (o.ways.length + c1o), .slice a2o o.home.length (o.home.length + c2o), .int .i64 o.start, .slice a3o o.rocks.length (o.rocks.length + c3o), .int .i64 o.speed, .int .i64 o.part, .int .i64 o.flow, .int .i64 o.idle, .int .i64 o.drive, .int .i64 o.battery, .int .i64 o.deadline, .slice aaB (rdAU o lo).length ((rdAU o lo).length + caB), .slice atB (usedT o lo).length ((usedT o lo).length + ctB)] 72)).size)
  replace RA := Lib.hid (RA.out.below ((Below.refl w2.heap.size w2).alloc (Nat.le_refl _) (.cells #[.slice a1o o.ways.length (o.ways.length + c1o), .slice a2o o.home.length (o.home.length + c2o), .int .i64 o.start, .slice a3o o.rocks.length (o.rocks.length + c3o), .int .i64 o.speed, .int .i64 o.part, .int .i64 o.flow, .int .i64 o.idle, .int .i64 o.drive, .int .i64 o.battery, .int .i64 o.deadline, .slice aaB (rdAU o lo).length ((rdAU o lo).length + caB), .slice atB (usedT o lo).length ((usedT o lo).length + ctB)] 72)) RA.out.lt)
  replace VB := Lib.hid ((VB.out.below ((Below.refl w2.heap.size w2).alloc (Nat.le_refl _) (.cells #[.slice a1o o.ways.length (o.ways.length + c1o), .slice a2o o.home.length (o.home.length + c2o), .int .i64 o.start, .slice a3o o.rocks.length (o.rocks.length + c3o), .int .i64 o.speed, .int .i64 o.part, .int .i64 o.flow, .int .i64 o.idle, .int .i64 o.drive, .int .i64 o.battery, .int .i64 o.deadline, .slice aaB (rdAU o lo).length ((rdAU o lo).length + caB), .slice atB (usedT o lo).length ((usedT o lo).length + ctB)] 72))).mono ((Below.refl w2.heap.size w2).alloc (Nat.le_refl _) (.cells #[.slice a1o o.ways.length (o.ways.length + c1o), .slice a2o o.home.length (o.home.length + c2o), .int .i64 o.start, .slice a3o o.rocks.length (o.rocks.length + c3o), .int .i64 o.speed, .int .i64 o.part, .int .i64 o.flow, .int .i64 o.idle, .int .i64 o.drive, .int .i64 o.battery, .int .i64 o.deadline, .slice aaB (rdAU o lo).length ((rdAU o lo).length + caB), .slice atB (usedT o lo).length ((usedT o lo).length + ctB)] 72)).size)
  replace AAB := Lib.hid ((AAB.out.below ((Below.refl w2.heap.size w2).alloc (Nat.le_refl _) (.cells #[.slice a1o o.ways.length (o.ways.length + c1o), .slice a2o o.home.length (o.home.length + c2o), .int .i64 o.start, .slice a3o o.rocks.length (o.rocks.length + c3o), .int .i64 o.speed, .int .i64 o.part, .int .i64 o.flow, .int .i64 o.idle, .int .i64 o.drive, .int .i64 o.battery, .int .i64 o.deadline, .slice aaB (rdAU o lo).length ((rdAU o lo).length + caB), .slice atB (usedT o lo).length ((usedT o lo).length + ctB)] 72))).mono ((Below.refl w2.heap.size w2).alloc (Nat.le_refl _) (.cells #[.slice a1o o.ways.length (o.ways.length + c1o), .slice a2o o.home.length (o.home.length + c2o), .int .i64 o.start, .slice a3o o.rocks.length (o.rocks.length + c3o), .int .i64 o.speed, .int .i64 o.part, .int .i64 o.flow, .int .i64 o.idle, .int .i64 o.drive, .int .i64 o.battery, .int .i64 o.deadline, .slice aaB (rdAU o lo).length ((rdAU o lo).length + caB), .slice atB (usedT o lo).length ((usedT o lo).length + ctB)] 72)).size)
  replace TAB := Lib.hid ((TAB.out.below ((Below.refl w2.heap.size w2).alloc (Nat.le_refl _) (.cells #[.slice a1o o.ways.length (o.ways.length + c1o), .slice a2o o.home.length (o.home.length + c2o), .int .i64 o.start, .slice a3o o.rocks.length (o.rocks.length + c3o), .int .i64 o.speed, .int .i64 o.part, .int .i64 o.flow, .int .i64 o.idle, .int .i64 o.drive, .int .i64 o.battery, .int .i64 o.deadline, .slice aaB (rdAU o lo).length ((rdAU o lo).length + caB), .slice atB (usedT o lo).length ((usedT o lo).length + ctB)] 72))).mono ((Below.refl w2.heap.size w2).alloc (Nat.le_refl _) (.cells #[.slice a1o o.ways.length (o.ways.length + c1o), .slice a2o o.home.length (o.home.length + c2o), .int .i64 o.start, .slice a3o o.rocks.length (o.rocks.length + c3o), .int .i64 o.speed, .int .i64 o.part, .int .i64 o.flow, .int .i64 o.idle, .int .i64 o.drive, .int .i64 o.battery, .int .i64 o.deadline, .slice aaB (rdAU o lo).length ((rdAU o lo).length + caB), .slice atB (usedT o lo).length ((usedT o lo).length + ctB)] 72)).size)
  have RB := Lib.hid (show Has (w2.alloc (.cells #[.slice a1o o.ways.length (o.ways.length + c1o), .slice a2o o.home.length (o.home.length + c2o), .int .i64 o.start, .slice a3o o.rocks.length (o.rocks.length + c3o), .int .i64 o.speed, .int .i64 o.part, .int .i64 o.flow, .int .i64 o.idle, .int .i64 o.drive, .int .i64 o.battery, .int .i64 o.deadline, .slice aaB (rdAU o lo).length ((rdAU o lo).length + caB), .slice atB (usedT o lo).length ((usedT o lo).length + ctB)] 72)) w2.heap.size #[.slice a1o o.ways.length (o.ways.length + c1o), .slice a2o o.home.length (o.home.length + c2o), .int .i64 o.start, .slice a3o o.rocks.length (o.rocks.length + c3o), .int .i64 o.speed, .int .i64 o.part, .int .i64 o.flow, .int .i64 o.idle, .int .i64 o.drive, .int .i64 o.battery, .int .i64 o.deadline, .slice aaB (rdAU o lo).length ((rdAU o lo).length + caB), .slice atB (usedT o lo).length ((usedT o lo).length + ctB)] 72 from Has.new w2 #[.slice a1o o.ways.length (o.ways.length + c1o), .slice a2o o.home.length (o.home.length + c2o), .int .i64 o.start, .slice a3o o.rocks.length (o.rocks.length + c3o), .int .i64 o.speed, .int .i64 o.part, .int .i64 o.flow, .int .i64 o.idle, .int .i64 o.drive, .int .i64 o.battery, .int .i64 o.deadline, .slice aaB (rdAU o lo).length ((rdAU o lo).length + caB), .slice atB (usedT o lo).length ((usedT o lo).length + ctB)] 72)
  have BX2 := Lib.hid (B2.out.trans ((((Below.refl w2.heap.size w2).alloc (Nat.le_refl _) (.cells #[.slice a1o o.ways.length (o.ways.length + c1o), .slice a2o o.home.length (o.home.length + c2o), .int .i64 o.start, .slice a3o o.rocks.length (o.rocks.length + c3o), .int .i64 o.speed, .int .i64 o.part, .int .i64 o.flow, .int .i64 o.idle, .int .i64 o.drive, .int .i64 o.battery, .int .i64 o.deadline, .slice aaB (rdAU o lo).length ((rdAU o lo).length + caB), .slice atB (usedT o lo).length ((usedT o lo).length + ctB)] 72))).mono B2.out.size))
  generalize hXX2 : (w2.alloc (.cells #[.slice a1o o.ways.length (o.ways.length + c1o), .slice a2o o.home.length (o.home.length + c2o), .int .i64 o.start, .slice a3o o.rocks.length (o.rocks.length + c3o), .int .i64 o.speed, .int .i64 o.part, .int .i64 o.flow, .int .i64 o.idle, .int .i64 o.drive, .int .i64 o.battery, .int .i64 o.deadline, .slice aaB (rdAU o lo).length ((rdAU o lo).length + caB), .slice atB (usedT o lo).length ((usedT o lo).length + ctB)] 72)) = X2 at *
  clear hXX2
  clear q0 q1
  clear rA0 rA1 rA2 rA3 rA4 rA5 rA6 rA7 rA8 rA9 rA10 rA11 rA12 t0 t1 t2 t3
  refine (fa.out _ _ _ _ _ VA.out AAA.out TAA.out).mono ?_
  rintro e w3 ⟨rfl, b3⟩
  have B3 := Lib.hid (BX2.out.trans (b3.mono BX2.out.size))
  replace MB := Lib.hid (MB.out.below b3 MB.out.lt)
  replace OB := Lib.hid (OB.out.below b3 OB.out.lt)
  replace TB := Lib.hid (TB.out.below b3 TB.out.lt)
  replace VA := Lib.hid ((VA.out.below b3).mono b3.size)
  replace AAA := Lib.hid ((AAA.out.below b3).mono b3.size)
  replace TAA := Lib.hid ((TAA.out.below b3).mono b3.size)
  replace RA := Lib.hid (RA.out.below b3 RA.out.lt)
  replace VB := Lib.hid ((VB.out.below b3).mono b3.size)
  replace AAB := Lib.hid ((AAB.out.below b3).mono b3.size)
  replace TAB := Lib.hid ((TAB.out.below b3).mono b3.size)
  replace RB := Lib.hid (RB.out.below b3 RB.out.lt)
  clear b3
  have rA0 := RA.out.cell (i := 0) rfl
  have rA1 := RA.out.cell (i := 1) rfl
  have rA2 := RA.out.cell (i := 2) rfl
  have rA3 := RA.out.cell (i := 3) rfl
  have rA4 := RA.out.cell (i := 4) rfl
  have rA5 := RA.out.cell (i := 5) rfl
  have rA6 := RA.out.cell (i := 6) rfl
  have rA7 := RA.out.cell (i := 7) rfl
  have rA8 := RA.out.cell (i := 8) rfl
  have rA9 := RA.out.cell (i := 9) rfl
  have rA10 := RA.out.cell (i := 10) rfl
  have rA11 := RA.out.cell (i := 11) rfl
  have rA12 := RA.out.cell (i := 12) rfl
  have rB0 := RB.out.cell (i := 0) rfl
  have rB1 := RB.out.cell (i := 1) rfl
  have rB2 := RB.out.cell (i := 2) rfl
  have rB3 := RB.out.cell (i := 3) rfl
  have rB4 := RB.out.cell (i := 4) rfl
  have rB5 := RB.out.cell (i := 5) rfl
  have rB6 := RB.out.cell (i := 6) rfl
  have rB7 := RB.out.cell (i := 7) rfl
  have rB8 := RB.out.cell (i := 8) rfl
  have rB9 := RB.out.cell (i := 9) rfl
  have rB10 := RB.out.cell (i := 10) rfl
  have rB11 := RB.out.cell (i := 11) rfl
  have rB12 := RB.out.cell (i := 12) rfl
  have t0 := TB.out.cell (i := 0) rfl
  have t1 := TB.out.cell (i := 1) rfl
  have t2 := TB.out.cell (i := 2) rfl
  have t3 := TB.out.cell (i := 3) rfl
  cases b3
  · go_wp2
    go_ret2
    exact ⟨by simp [errB], B3.out⟩
  go_wp2_with fail
  refine (fb.out _ _ _ _ _ VB.out AAB.out TAB.out).mono ?_
  rintro e w4 ⟨rfl, b4⟩
  have B4 := Lib.hid (B3.out.trans (b4.mono B3.out.size))
  replace MB := Lib.hid (MB.out.below b4 MB.out.lt)
  replace OB := Lib.hid (OB.out.below b4 OB.out.lt)
  replace TB := Lib.hid (TB.out.below b4 TB.out.lt)
  replace VA := Lib.hid ((VA.out.below b4).mono b4.size)
  replace AAA := Lib.hid ((AAA.out.below b4).mono b4.size)
  replace TAA := Lib.hid ((TAA.out.below b4).mono b4.size)
  replace RA := Lib.hid (RA.out.below b4 RA.out.lt)
  replace VB := Lib.hid ((VB.out.below b4).mono b4.size)
  replace AAB := Lib.hid ((AAB.out.below b4).mono b4.size)
  replace TAB := Lib.hid ((TAB.out.below b4).mono b4.size)
  replace RB := Lib.hid (RB.out.below b4 RB.out.lt)
  clear b4
  clear rA0 rA1 rA2 rA3 rA4 rA5 rA6 rA7 rA8 rA9 rA10 rA11 rA12 rB0 rB1 rB2 rB3 rB4 rB5 rB6 rB7 rB8 rB9 rB10 rB11 rB12 t0 t1 t2 t3
  have rA0 := RA.out.cell (i := 0) rfl
  have rA1 := RA.out.cell (i := 1) rfl
  have rA2 := RA.out.cell (i := 2) rfl
  have rA3 := RA.out.cell (i := 3) rfl
  have rA4 := RA.out.cell (i := 4) rfl
  have rA5 := RA.out.cell (i := 5) rfl
  have rA6 := RA.out.cell (i := 6) rfl
  have rA7 := RA.out.cell (i := 7) rfl
  have rA8 := RA.out.cell (i := 8) rfl
  have rA9 := RA.out.cell (i := 9) rfl
  have rA10 := RA.out.cell (i := 10) rfl
  have rA11 := RA.out.cell (i := 11) rfl
  have rA12 := RA.out.cell (i := 12) rfl
  have rB0 := RB.out.cell (i := 0) rfl
  have rB1 := RB.out.cell (i := 1) rfl
  have rB2 := RB.out.cell (i := 2) rfl
  have rB3 := RB.out.cell (i := 3) rfl
  have rB4 := RB.out.cell (i := 4) rfl
  have rB5 := RB.out.cell (i := 5) rfl
  have rB6 := RB.out.cell (i := 6) rfl
  have rB7 := RB.out.cell (i := 7) rfl
  have rB8 := RB.out.cell (i := 8) rfl
  have rB9 := RB.out.cell (i := 9) rfl
  have rB10 := RB.out.cell (i := 10) rfl
  have rB11 := RB.out.cell (i := 11) rfl
  have rB12 := RB.out.cell (i := 12) rfl
  have t0 := TB.out.cell (i := 0) rfl
  have t1 := TB.out.cell (i := 1) rfl
  have t2 := TB.out.cell (i := 2) rfl
  have t3 := TB.out.cell (i := 3) rfl
  cases b4
  · go_wp2
    go_ret2
    exact ⟨by simp [errB], B4.out⟩
  go_wp2_with fail
  refine (fr.out _).mono ?_
  rintro e w5 ⟨rfl, b5⟩
  have B5 := Lib.hid (B4.out.trans (b5.mono B4.out.size))
  replace MB := Lib.hid (MB.out.below b5 MB.out.lt)
  replace OB := Lib.hid (OB.out.below b5 OB.out.lt)
  replace TB := Lib.hid (TB.out.below b5 TB.out.lt)
  replace VA := Lib.hid ((VA.out.below b5).mono b5.size)
  replace AAA := Lib.hid ((AAA.out.below b5).mono b5.size)
  replace TAA := Lib.hid ((TAA.out.below b5).mono b5.size)
  replace RA := Lib.hid (RA.out.below b5 RA.out.lt)
  replace VB := Lib.hid ((VB.out.below b5).mono b5.size)
  replace AAB := Lib.hid ((AAB.out.below b5).mono b5.size)
  replace TAB := Lib.hid ((TAB.out.below b5).mono b5.size)
  replace RB := Lib.hid (RB.out.below b5 RB.out.lt)
  clear b5
  clear rA0 rA1 rA2 rA3 rA4 rA5 rA6 rA7 rA8 rA9 rA10 rA11 rA12 rB0 rB1 rB2 rB3 rB4 rB5 rB6 rB7 rB8 rB9 rB10 rB11 rB12 t0 t1 t2 t3
  have rA0 := RA.out.cell (i := 0) rfl
  have rA1 := RA.out.cell (i := 1) rfl
  have rA2 := RA.out.cell (i := 2) rfl
  have rA3 := RA.out.cell (i := 3) rfl
  have rA4 := RA.out.cell (i := 4) rfl
  have rA5 := RA.out.cell (i := 5) rfl
  have rA6 := RA.out.cell (i := 6) rfl
  have rA7 := RA.out.cell (i := 7) rfl
  have rA8 := RA.out.cell (i := 8) rfl
  have rA9 := RA.out.cell (i := 9) rfl
  have rA10 := RA.out.cell (i := 10) rfl
  have rA11 := RA.out.cell (i := 11) rfl
  have rA12 := RA.out.cell (i := 12) rfl
  have rB0 := RB.out.cell (i := 0) rfl
  have rB1 := RB.out.cell (i := 1) rfl
  have rB2 := RB.out.cell (i := 2) rfl
  have rB3 := RB.out.cell (i := 3) rfl
  have rB4 := RB.out.cell (i := 4) rfl
  have rB5 := RB.out.cell (i := 5) rfl
  have rB6 := RB.out.cell (i := 6) rfl
  have rB7 := RB.out.cell (i := 7) rfl
  have rB8 := RB.out.cell (i := 8) rfl
  have rB9 := RB.out.cell (i := 9) rfl
  have rB10 := RB.out.cell (i := 10) rfl
  have rB11 := RB.out.cell (i := 11) rfl
  have rB12 := RB.out.cell (i := 12) rfl
  have t0 := TB.out.cell (i := 0) rfl
  have t1 := TB.out.cell (i := 1) rfl
  have t2 := TB.out.cell (i := 2) rfl
  have t3 := TB.out.cell (i := 3) rfl
  cases b5
  · go_wp2
    go_ret2
    exact ⟨by simp [errB], B5.out⟩
  go_wp2_with fail
  refine (fw.out _).mono ?_
  rintro e w6 ⟨rfl, b6⟩
  have B6 := Lib.hid (B5.out.trans (b6.mono B5.out.size))
  replace MB := Lib.hid (MB.out.below b6 MB.out.lt)
  replace OB := Lib.hid (OB.out.below b6 OB.out.lt)
  replace TB := Lib.hid (TB.out.below b6 TB.out.lt)
  replace VA := Lib.hid ((VA.out.below b6).mono b6.size)
  replace AAA := Lib.hid ((AAA.out.below b6).mono b6.size)
  replace TAA := Lib.hid ((TAA.out.below b6).mono b6.size)
  replace RA := Lib.hid (RA.out.below b6 RA.out.lt)
  replace VB := Lib.hid ((VB.out.below b6).mono b6.size)
  replace AAB := Lib.hid ((AAB.out.below b6).mono b6.size)
  replace TAB := Lib.hid ((TAB.out.below b6).mono b6.size)
  replace RB := Lib.hid (RB.out.below b6 RB.out.lt)
  clear b6
  clear rA0 rA1 rA2 rA3 rA4 rA5 rA6 rA7 rA8 rA9 rA10 rA11 rA12 rB0 rB1 rB2 rB3 rB4 rB5 rB6 rB7 rB8 rB9 rB10 rB11 rB12 t0 t1 t2 t3
  have rA0 := RA.out.cell (i := 0) rfl
  have rA1 := RA.out.cell (i := 1) rfl
  have rA2 := RA.out.cell (i := 2) rfl
  have rA3 := RA.out.cell (i := 3) rfl
  have rA4 := RA.out.cell (i := 4) rfl
  have rA5 := RA.out.cell (i := 5) rfl
  have rA6 := RA.out.cell (i := 6) rfl
  have rA7 := RA.out.cell (i := 7) rfl
  have rA8 := RA.out.cell (i := 8) rfl
  have rA9 := RA.out.cell (i := 9) rfl
  have rA10 := RA.out.cell (i := 10) rfl
  have rA11 := RA.out.cell (i := 11) rfl
  have rA12 := RA.out.cell (i := 12) rfl
  have rB0 := RB.out.cell (i := 0) rfl
  have rB1 := RB.out.cell (i := 1) rfl
  have rB2 := RB.out.cell (i := 2) rfl
  have rB3 := RB.out.cell (i := 3) rfl
  have rB4 := RB.out.cell (i := 4) rfl
  have rB5 := RB.out.cell (i := 5) rfl
  have rB6 := RB.out.cell (i := 6) rfl
  have rB7 := RB.out.cell (i := 7) rfl
  have rB8 := RB.out.cell (i := 8) rfl
  have rB9 := RB.out.cell (i := 9) rfl
  have rB10 := RB.out.cell (i := 10) rfl
  have rB11 := RB.out.cell (i := 11) rfl
  have rB12 := RB.out.cell (i := 12) rfl
  have t0 := TB.out.cell (i := 0) rfl
  have t1 := TB.out.cell (i := 1) rfl
  have t2 := TB.out.cell (i := 2) rfl
  have t3 := TB.out.cell (i := 3) rfl
  cases b6
  · go_wp2
    go_ret2
    exact ⟨by simp [errB], B6.out⟩
  have g3 := hb3.out
  have g4 := hb4.out
  simp only [Bool.and_eq_true, decide_eq_true_eq] at g3 g4
  obtain ⟨p, hp⟩ := Int.eq_ofNat_of_zero_le g3.1
  obtain ⟨q, hq⟩ := Int.eq_ofNat_of_zero_le g4.1
  subst hp
  subst hq
  have hp : p < m.ways.length := by omega
  have hq : q < o.ways.length := by omega
  clear hb3 hb4 g3 g4
  go_wp2_with fail
  refine (FM.out hb1 hb2 _ _ _ _ p q hp hq _ VA.out AAA.out TAA.out VB.out AAB.out TAB.out).mono ?_
  rintro e w7 ⟨rfl, b7⟩
  have B7 := Lib.hid (B6.out.trans (b7.mono B6.out.size))
  replace MB := Lib.hid (MB.out.below b7 MB.out.lt)
  replace OB := Lib.hid (OB.out.below b7 OB.out.lt)
  replace TB := Lib.hid (TB.out.below b7 TB.out.lt)
  replace VA := Lib.hid ((VA.out.below b7).mono b7.size)
  replace AAA := Lib.hid ((AAA.out.below b7).mono b7.size)
  replace TAA := Lib.hid ((TAA.out.below b7).mono b7.size)
  replace RA := Lib.hid (RA.out.below b7 RA.out.lt)
  replace VB := Lib.hid ((VB.out.below b7).mono b7.size)
  replace AAB := Lib.hid ((AAB.out.below b7).mono b7.size)
  replace TAB := Lib.hid ((TAB.out.below b7).mono b7.size)
  replace RB := Lib.hid (RB.out.below b7 RB.out.lt)
  clear b7
  clear rA0 rA1 rA2 rA3 rA4 rA5 rA6 rA7 rA8 rA9 rA10 rA11 rA12 rB0 rB1 rB2 rB3 rB4 rB5 rB6 rB7 rB8 rB9 rB10 rB11 rB12 t0 t1 t2 t3
  have rA0 := RA.out.cell (i := 0) rfl
  have rA1 := RA.out.cell (i := 1) rfl
  have rA2 := RA.out.cell (i := 2) rfl
  have rA3 := RA.out.cell (i := 3) rfl
  have rA4 := RA.out.cell (i := 4) rfl
  have rA5 := RA.out.cell (i := 5) rfl
  have rA6 := RA.out.cell (i := 6) rfl
  have rA7 := RA.out.cell (i := 7) rfl
  have rA8 := RA.out.cell (i := 8) rfl
  have rA9 := RA.out.cell (i := 9) rfl
  have rA10 := RA.out.cell (i := 10) rfl
  have rA11 := RA.out.cell (i := 11) rfl
  have rA12 := RA.out.cell (i := 12) rfl
  have rB0 := RB.out.cell (i := 0) rfl
  have rB1 := RB.out.cell (i := 1) rfl
  have rB2 := RB.out.cell (i := 2) rfl
  have rB3 := RB.out.cell (i := 3) rfl
  have rB4 := RB.out.cell (i := 4) rfl
  have rB5 := RB.out.cell (i := 5) rfl
  have rB6 := RB.out.cell (i := 6) rfl
  have rB7 := RB.out.cell (i := 7) rfl
  have rB8 := RB.out.cell (i := 8) rfl
  have rB9 := RB.out.cell (i := 9) rfl
  have rB10 := RB.out.cell (i := 10) rfl
  have rB11 := RB.out.cell (i := 11) rfl
  have rB12 := RB.out.cell (i := 12) rfl
  have t0 := TB.out.cell (i := 0) rfl
  have t1 := TB.out.cell (i := 1) rfl
  have t2 := TB.out.cell (i := 2) rfl
  have t3 := TB.out.cell (i := 3) rfl
  go_wp2
  go_ret2
  exact ⟨by simp [errB, hb1, hb2], B7.out⟩
end Go.Proofs.YtfbdidfaeplllaaGreat

namespace Go.Proofs.YtfbdidfaeplllaaGreat
open Go.RowKit Go.Shelf
attribute [local go_sem] Oper.semAt_some

/-- a tryst's cells -/
def tryC (i j : Nat) (R Wt : Int) : Array Value := #[.int .i64 i, .int .i64 j, .int .i64 R, .int .i64 Wt]

set_option maxRecDepth 100000 in
set_option maxHeartbeats 2000000 in
theorem trysts1_in {α : Type} (encA : α → Array Value) (f : Nat → α) (n : Nat) (hn : 1 ≤ n) (p : Nat → Prop) (W : World) (l B1 B2 B3 B4 n1 n2 c1 c2 : Nat) (s1 s2 : Option Addr) (R Wt : Int) (l1 : n1 ≤ 1000) (l2 : n2 ≤ 1000) (p2 : p B2) (p3 : p B3) (p4 : p B4)
    (hf : ∀ i j, i < n1 → j < n2 → encA (f (i * n2 + j)) = #[.agg (tryC i j R Wt)]) (J Jx : List α → World → Prop)
    (hY : ∀ pre x W1, J pre W1 → pre.length < n1 * n2 → YieldAt Fence.wide (n - 1) Tryz.prog l (encA x) W1 fun e W' =>
      (e = .returned (.bool true) ∧ J (pre ++ [x]) W' ∧ KeepsP p W1 W') ∨ (e = .returned (.bool false) ∧ Jx (pre ++ [x]) W')) 
    (h1 : W.cell? ⟨B1, 0, none⟩ = some (.slice s1 n1 c1)) (h2 : W.cell? ⟨B2, 0, none⟩ = some (.slice s2 n2 c2)) (h3 : W.cell? ⟨B3, 0, none⟩ = some (.int .i64 R)) (h4 : W.cell? ⟨B4, 0, none⟩ = some (.int .i64 Wt)) (h0 : J [] W) :
    CallsIn Fence.wide n Tryz.prog 132 #[.func (.yield l) #[] #[], .pointer (some ⟨B1, 0, none⟩), .pointer (some ⟨B2, 0, none⟩), .pointer (some ⟨B3, 0, none⟩), .pointer (some ⟨B4, 0, none⟩)] W fun e W' => (∃ v, e = .returned v) ∧
      ((∃ ys, ys = upto f (n1 * n2) ∧ J ys W') ∨ (∃ pre, (∃ k, k ≤ n1 * n2 ∧ pre = upto f k) ∧ Jx pre W')) := by
  refine callsIn_of_wp Tryz.func132 rfl trivial ?_ rfl
  simp only [Tryz.ntmps132, List.size_toArray, List.length_cons, List.length_nil, Nat.reduceAdd, Nat.reduceSub, Array.replicate_succ, Array.replicate_zero, List.push_toArray, List.append_toArray, List.nil_append, List.cons_append]
  have HF := Lib.hid hf
  have HY := Lib.hid hY
  clear hf hY
  gi_wp2
  gi_loopw [12] (fun i wr => ∃ k : Nat, k ≤ n1 ∧ i = .int .i64 k ∧ J (upto f (k * n2)) wr ∧ KeepsP p W wr)
    (fun i _ => n1 - (intOf i).toNat)
  case atStart => exact ⟨0, Nat.zero_le _, rfl, by rw [Nat.zero_mul]; exact h0, KeepsP.refl _ _⟩
  case round =>
    obtain ⟨k, hk, rfl, hJs, hnx⟩ := hrel
    by_cases hlt : k < n1
    · have e2 : wr.cell? ⟨B2, 0, none⟩ = some (.slice s2 n2 c2) := (hnx.cell (i := 0) p2).trans h2
      have hJ := Lib.hid hJs
      have hN := Lib.hid hnx
      obtain ⟨wo, hwo⟩ : ∃ x, x = wr := ⟨_, rfl⟩
      subst hwo
      clear hJs hnx
      gi_wp2
      gi_loopw [19] (fun i wr => ∃ j : Nat, j ≤ n2 ∧ i = .int .i64 j ∧ J (upto f (k * n2 + j)) wr ∧ KeepsP p W wr)
        (fun i _ => n2 - (intOf i).toNat)
      case atStart => exact ⟨0, Nat.zero_le _, rfl, hJ.out, hN.out⟩
      case round =>
        obtain ⟨j, hj, rfl, hJs, hnx⟩ := hrel
        by_cases hlj : j < n2
        · have e3 : wr.cell? ⟨B3, 0, none⟩ = some (.int .i64 R) := (hnx.cell (i := 0) p3).trans h3
          have e4 : wr.cell? ⟨B4, 0, none⟩ = some (.int .i64 Wt) := (hnx.cell (i := 0) p4).trans h4
          have hkj : k * n2 + j < n1 * n2 := by
            have : (k + 1) * n2 ≤ n1 * n2 := Nat.mul_le_mul_right _ (by omega)
            rw [Nat.succ_mul] at this; omega
          obtain ⟨fn, tmps, assign, body, hy, hR⟩ := HY.out _ (f (k * n2 + j)) _ hJs (by rw [upto_length]; exact hkj)
          rw [HF.out k j hlt hlj] at hy
          unfold tryC at hy
          have hN2 := Lib.hid hnx
          have hKJ := Lib.hid hkj
          clear hJs hnx hkj
          gi_wp2
          refine hR.mono ?_
          rintro e W3 (⟨rfl, hJ3, hk3⟩ | ⟨rfl, hJx3⟩)
          · gi_wp2
            go_roundw
            case rel => exact ⟨j + 1, by omega, by simp, by rw [show k * n2 + (j + 1) = (k * n2 + j) + 1 by omega, upto_succ]; exact hJ3, hN2.out.trans hk3⟩
            case measure => simp [intOf]; omega
          · gi_wp2
            refine bodyPost_ret (results_none rfl _ _ _) rfl ?_
            exact ⟨⟨_, rfl⟩, .inr ⟨_, ⟨k * n2 + j + 1, by have := hKJ.out; omega, (upto_succ _ _).symm⟩, hJx3⟩⟩
        · obtain rfl : j = n2 := by omega
          gi_wp2
          go_roundw
          case rel => exact ⟨k + 1, by omega, by simp, by rw [Nat.succ_mul]; exact hJs, hnx⟩
          case measure => simp [intOf]; omega
    · obtain rfl : k = n1 := by omega
      gi_wp2
      go_end0
      exact ⟨⟨_, rfl⟩, .inl ⟨_, rfl, hJs⟩⟩

theorem ttrysts_any (c1 c2 : Array Value) (R Wt : Int) (w : World) :
    Calls Tryz.prog 76 #[.agg c1, .agg c2, .int .i64 R, .int .i64 Wt] w fun e w' => e = .returned (.func (.func 132) #[] #[.pointer (some ⟨w.heap.size, 0, none⟩), .pointer (some ⟨w.heap.size + 1, 0, none⟩), .pointer (some ⟨w.heap.size + 1 + 1, 0, none⟩), .pointer (some ⟨w.heap.size + 1 + 1 + 1, 0, none⟩)]) ∧
      w' = (((w.alloc (.cells c1 72)).alloc (.cells c2 72)).alloc (.cells #[.int .i64 R] 3)).alloc (.cells #[.int .i64 Wt] 3) := by
  go_enter Tryz.func76, Tryz.ntmps76
  go_wp2
  go_ret
  exact ⟨rfl, rfl⟩

/-- all trysts, by rising A, and those with the same A by rising B: all, or the first ones -/
theorem trysts_stops {α : Type} (encA : α → Array Value) (f : Nat → α) (n : Nat) (hn : 1 ≤ n) (p : Nat → Prop) (B1 B2 B3 B4 n1 n2 c1 c2 : Nat) (s1 s2 : Option Addr) (R Wt : Int) (l1 : n1 ≤ 1000) (l2 : n2 ≤ 1000) (w : World) (p1 : p B1) (p2 : p B2) (p3 : p B3) (p4 : p B4) (hpp : ∀ b, p b → b < w.heap.size)
    (h1 : w.cell? ⟨B1, 0, none⟩ = some (.slice s1 n1 c1)) (h2 : w.cell? ⟨B2, 0, none⟩ = some (.slice s2 n2 c2)) (h3 : w.cell? ⟨B3, 0, none⟩ = some (.int .i64 R)) (h4 : w.cell? ⟨B4, 0, none⟩ = some (.int .i64 Wt))
    (hf : ∀ i j, i < n1 → j < n2 → encA (f (i * n2 + j)) = #[.agg (tryC i j R Wt)]) :
    SeqStopsK Fence.wide n Tryz.prog 132 #[.pointer (some ⟨B1, 0, none⟩), .pointer (some ⟨B2, 0, none⟩), .pointer (some ⟨B3, 0, none⟩), .pointer (some ⟨B4, 0, none⟩)] encA (KeepsP p) (fun ys => ys = upto f (n1 * n2))
      (fun pre => ∃ k, k ≤ n1 * n2 ∧ pre = upto f k) (n1 * n2) w := fun l J Jx W hW _ _ hY h0 =>
  trysts1_in encA f n hn p W l B1 B2 B3 B4 n1 n2 c1 c2 s1 s2 R Wt l1 l2 p2 p3 p4 hf J Jx hY ((hW.cell (p := ⟨B1, 0, none⟩) (hpp _ p1)).trans h1) ((hW.cell (p := ⟨B2, 0, none⟩) (hpp _ p2)).trans h2) ((hW.cell (p := ⟨B3, 0, none⟩) (hpp _ p3)).trans h3) ((hW.cell (p := ⟨B4, 0, none⟩) (hpp _ p4)).trans h4) h0
end Go.Proofs.YtfbdidfaeplllaaGreat

namespace Go.Proofs.YtfbdidfaeplllaaGreat
open Go.RowKit
attribute [local irreducible] wpQuiet

instance (l : List Pt) (s t : Pt) : Decidable (Nx l s t) := by unfold Nx; infer_instance
def hullB (l h : List Pt) : Bool := decide (l ≠ [] ∧ 1 ≤ h.length ∧ (nth h 0 ∈ l ∧ ∀ x, x ∈ l → ¬ LexLt x (nth h 0)) ∧ (∀ i, i < h.length → Nx l (nth h i) (nth h ((i + 1) % h.length))) ∧ (∀ i, i < h.length → 0 < i → nth h i ≠ nth h 0))
theorem hullB_of {l h : List Pt} (k : hullB l h = true) : hullP l = h := by
  simp only [hullB, decide_eq_true_eq] at k
  obtain ⟨h1, h2, h3, h4, h5⟩ := k
  exact (hullP_eq ⟨fun e => absurd e h1, fun _ => h2, fun _ => h3, h4, fun i h0 hi => h5 i hi h0⟩).symm
theorem disk_0 : diskP 0 = [⟨0, 0⟩] := hullB_of (by decide +kernel)
theorem rdist_of {ax ay bx by' n : Int} (h0 : 0 ≤ n) (h : (ax - bx) * (ax - bx) + (ay - by') * (ay - by') ≤ n * n) (h2 : (n - 1) * (n - 1) < (ax - bx) * (ax - bx) + (ay - by') * (ay - by')) : distV ax ay bx by' = n := by
  unfold distV
  generalize (ax - bx) * (ax - bx) + (ay - by') * (ay - by') = s at *
  have hs := rootUp_spec (s := s) (by
    have : 0 ≤ (n - 1) * (n - 1) := by
      rcases Int.le_total 0 (n - 1) with h | h
      · exact Int.mul_nonneg h h
      · have := Int.mul_nonneg (show 0 ≤ -(n - 1) by omega) (show 0 ≤ -(n - 1) by omega)
        rwa [Int.neg_mul_neg] at this
    omega)
  have h1 := hs.2.2 n h0 h
  rcases Int.lt_or_le (rootUp s) n with h3 | h3
  · have h4 := Int.mul_le_mul (show rootUp s ≤ n - 1 by omega) (show rootUp s ≤ n - 1 by omega) hs.1 (by omega)
    have := hs.2.1
    omega
  · omega
theorem rints_new (w : World) (l : List Int) (T : TypeId) (hl : l.length ≤ 1000) : IntsAt (w.alloc (.cells (l.map (Value.int .i64)).toArray T)).heap.size (w.alloc (.cells (l.map (Value.int .i64)).toArray T)) (.slice (some ⟨w.heap.size, 0, none⟩) l.length l.length) l := by
  refine ⟨by omega, some ⟨w.heap.size, 0, none⟩, 0, rfl, .inr ⟨w.heap.size, 0, rfl, by simp, fun j hj => ?_⟩⟩
  refine (Has.new w _ T).cell ?_
  simp [List.getD, List.getElem?_eq_getElem hj]
end Go.Proofs.YtfbdidfaeplllaaGreat
