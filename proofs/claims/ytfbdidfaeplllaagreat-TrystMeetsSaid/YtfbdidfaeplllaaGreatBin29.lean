/- package tryst: Ways. -/
import Derived.Test.YtfbdidfaeplllaaGreatBin28
import Derived.Test.YtfbdidfaeplllaaGreatBin19
import Derived.Test.YtfbdidfaeplllaaGreatBin14
namespace Go.Proofs.YtfbdidfaeplllaaGreat
open Go.RowKit Go.Shelf
attribute [local irreducible] wpQuiet

theorem trInfo : (Tryz.prog.info? 29).map (fun i => (i.zero, i.size, i.bytes)) = some (some (.agg #[.int .i64 0, .int .i64 0, .int .i64 0, .int .i64 0]), 4, 32) := by kernel_rfl
/-- whether trysts can be asked for -/
noncomputable def waskB (m : Msn) (l : List Int) (o : Msn) (lo : List Int) (R W : Int) : Bool := radOkB m l && (radOkB o lo && (numB R 100000 && numB W 100000))
/-- the ways of a tryst, by its number -/
def wayOf (n2 k : Nat) : Nat × Nat := (k / n2, k % n2)
/-- two ways that there are -/
abbrev TwoW (m o : Msn) := {t : Nat × Nat // t.1 < m.ways.length ∧ t.2 < o.ways.length}
/-- the first k trysts at which both meet -/
noncomputable def trK (m : Msn) (l : List Int) (o : Msn) (lo : List Int) (R W : Int) (k : Nat) : List (Nat × Nat) := (upto (wayOf o.ways.length) k).filter fun t => meetB m l o lo t.1 t.2 R W
noncomputable def trL (m : Msn) (l : List Int) (o : Msn) (lo : List Int) (R W : Int) : List (Nat × Nat) := if waskB m l o lo R W = true then trK m l o lo R W (m.ways.length * o.ways.length) else []
/-- the rows of trysts -/
def trRows (R W : Int) (l : List (Nat × Nat)) : List (List Value) := l.map fun t => (tryC t.1 t.2 R W).toList
theorem trRows_size (R W : Int) (l : List (Nat × Nat)) : ∀ r ∈ trRows R W l, r.length = 4 := by
  intro r hr
  simp only [trRows, List.mem_map] at hr
  obtain ⟨t, -, rfl⟩ := hr
  rfl
theorem trK_len (m : Msn) (l : List Int) (o : Msn) (lo : List Int) (R W : Int) (k : Nat) : (trK m l o lo R W k).length ≤ k := by
  have := List.length_filter_le (fun t : Nat × Nat => meetB m l o lo t.1 t.2 R W) (upto (wayOf o.ways.length) k)
  rw [upto_length] at this
  exact this

set_option linter.unusedSimpArgs false in
set_option linter.unusedVariables false in
set_option maxRecDepth 8000 in
set_option maxHeartbeats 3200000 in
theorem tways_no (m o : Msn) (vw vh vr vl vwo vho vro vlo : Value) (l lo : List Int) (R Wt : Int) (w : World) (hm : MsnAt w.heap.size w m vw vh vr) (hl : IntsAt w.heap.size w vl l) (hmo : MsnAt w.heap.size w o vwo vho vro) (hlo : IntsAt w.heap.size w vlo lo) (hE : waskB m l o lo R Wt = false) :
    Calls Tryz.prog 38 #[.agg (msnCells m vw vh vr), .agg (msnCells o vwo vho vro), vl, vlo, .int .i64 R, .int .i64 Wt] w fun e w' => e = .returned (.tuple #[.slice none 0 0, .int .i64 1]) ∧ Below w.heap.size w w' := by
  have f1 := fun w1 h1 h2 => ton_any m vw vh vr vl l w1 h1 h2
  have f2 := fun w1 h1 h2 => ton_any o vwo vho vro vlo lo w1 h1 h2
  have fr := fun w1 => tnum_any R 100000 w1
  have fw := fun w1 => tnum_any Wt 100000 w1
  have MM := Lib.hid hm
  have ML := Lib.hid hl
  have OM := Lib.hid hmo
  have OL := Lib.hid hlo
  unfold waskB at hE
  generalize numB R 100000 = b5 at *
  generalize numB Wt 100000 = b6 at *
  obtain ⟨⟨-, a1, c1, rfl, -⟩, ⟨-, a2, c2, rfl, -⟩, ⟨-, a3, c3, rfl, -⟩⟩ := hm
  obtain ⟨⟨-, a1o, c1o, rfl, -⟩, ⟨-, a2o, c2o, rfl, -⟩, ⟨-, a3o, c3o, rfl, -⟩⟩ := hmo
  obtain ⟨-, al, cl, rfl, -⟩ := hl
  obtain ⟨-, alo, clo, rfl, -⟩ := hlo
  unfold msnCells at *
  replace f1 := Lib.hid f1
  replace f2 := Lib.hid f2
  replace fr := Lib.hid fr
  replace fw := Lib.hid fw
  have B0 := Lib.hid (Below.refl w.heap.size w)
  replace hE := Lib.hid hE
  go_enter Tryz.func38, Tryz.ntmps38
  have q0 := Has.new w #[.slice a1 m.ways.length (m.ways.length + c1), .slice a2 m.home.length (m.home.length + c2), .int .i64 m.start, .slice a3 m.rocks.length (m.rocks.length + c3), .int .i64 m.speed, .int .i64 m.part, .int .i64 m.flow, .int .i64 m.idle, .int .i64 m.drive, .int .i64 m.battery, .int .i64 m.deadline] 26
  have q0 := q0.below ((Below.refl (w.heap.size + 1) _).alloc (by simp) (.cells #[.slice a1o o.ways.length (o.ways.length + c1o), .slice a2o o.home.length (o.home.length + c2o), .int .i64 o.start, .slice a3o o.rocks.length (o.rocks.length + c3o), .int .i64 o.speed, .int .i64 o.part, .int .i64 o.flow, .int .i64 o.idle, .int .i64 o.drive, .int .i64 o.battery, .int .i64 o.deadline] 26)) (by omega)
  have q1 := Has.new (w.alloc (.cells #[.slice a1 m.ways.length (m.ways.length + c1), .slice a2 m.home.length (m.home.length + c2), .int .i64 m.start, .slice a3 m.rocks.length (m.rocks.length + c3), .int .i64 m.speed, .int .i64 m.part, .int .i64 m.flow, .int .i64 m.idle, .int .i64 m.drive, .int .i64 m.battery, .int .i64 m.deadline] 26)) #[.slice a1o o.ways.length (o.ways.length + c1o), .slice a2o o.home.length (o.home.length + c2o), .int .i64 o.start, .slice a3o o.rocks.length (o.rocks.length + c3o), .int .i64 o.speed, .int .i64 o.part, .int .i64 o.flow, .int .i64 o.idle, .int .i64 o.drive, .int .i64 o.battery, .int .i64 o.deadline] 26
  rw [World.size_alloc] at q1
  go_wp2_with fail
  replace MM := Lib.hid ((MM.out.below (((Below.refl w.heap.size w).alloc (Nat.le_refl _) (.cells #[.slice a1 m.ways.length (m.ways.length + c1), .slice a2 m.home.length (m.home.length + c2), .int .i64 m.start, .slice a3 m.rocks.length (m.rocks.length + c3), .int .i64 m.speed, .int .i64 m.part, .int .i64 m.flow, .int .i64 m.idle, .int .i64 m.drive, .int .i64 m.battery, .int .i64 m.deadline] 26)).alloc (by simp) (.cells #[.slice a1o o.ways.length (o.ways.length + c1o), .slice a2o o.home.length (o.home.length + c2o), .int .i64 o.start, .slice a3o o.rocks.length (o.rocks.length + c3o), .int .i64 o.speed, .int .i64 o.part, .int .i64 o.flow, .int .i64 o.idle, .int .i64 o.drive, .int .i64 o.battery, .int .i64 o.deadline] 26))).mono (((Below.refl w.heap.size w).alloc (Nat.le_refl _) (.cells #[.slice a1 m.ways.length (m.ways.length + c1), .slice a2 m.home.length (m.home.length + c2), .int .i64 m.start, .slice a3 m.rocks.length (m.rocks.length + c3), .int .i64 m.speed, .int .i64 m.part, .int .i64 m.flow, .int .i64 m.idle, .int .i64 m.drive, .int .i64 m.battery, .int .i64 m.deadline] 26)).alloc (by simp) (.cells #[.slice a1o o.ways.length (o.ways.length + c1o), .slice a2o o.home.length (o.home.length + c2o), .int .i64 o.start, .slice a3o o.rocks.length (o.rocks.length + c3o), .int .i64 o.speed, .int .i64 o.part, .int .i64 o.flow, .int .i64 o.idle, .int .i64 o.drive, .int .i64 o.battery, .int .i64 o.deadline] 26)).size)
  replace ML := Lib.hid ((ML.out.below (((Below.refl w.heap.size w).alloc (Nat.le_refl _) (.cells #[.slice a1 m.ways.length (m.ways.length + c1), .slice a2 m.home.length (m.home.length + c2), .int .i64 m.start, .slice a3 m.rocks.length (m.rocks.length + c3), .int .i64 m.speed, .int .i64 m.part, .int .i64 m.flow, .int .i64 m.idle, .int .i64 m.drive, .int .i64 m.battery, .int .i64 m.deadline] 26)).alloc (by simp) (.cells #[.slice a1o o.ways.length (o.ways.length + c1o), .slice a2o o.home.length (o.home.length + c2o), .int .i64 o.start, .slice a3o o.rocks.length (o.rocks.length + c3o), .int .i64 o.speed, .int .i64 o.part, .int .i64 o.flow, .int .i64 o.idle, .int .i64 o.drive, .int .i64 o.battery, .int .i64 o.deadline] 26))).mono (((Below.refl w.heap.size w).alloc (Nat.le_refl _) (.cells #[.slice a1 m.ways.length (m.ways.length + c1), .slice a2 m.home.length (m.home.length + c2), .int .i64 m.start, .slice a3 m.rocks.length (m.rocks.length + c3), .int .i64 m.speed, .int .i64 m.part, .int .i64 m.flow, .int .i64 m.idle, .int .i64 m.drive, .int .i64 m.battery, .int .i64 m.deadline] 26)).alloc (by simp) (.cells #[.slice a1o o.ways.length (o.ways.length + c1o), .slice a2o o.home.length (o.home.length + c2o), .int .i64 o.start, .slice a3o o.rocks.length (o.rocks.length + c3o), .int .i64 o.speed, .int .i64 o.part, .int .i64 o.flow, .int .i64 o.idle, .int .i64 o.drive, .int .i64 o.battery, .int .i64 o.deadline] 26)).size)
  replace OM := Lib.hid ((OM.out.below (((Below.refl w.heap.size w).alloc (Nat.le_refl _) (.cells #[.slice a1 m.ways.length (m.ways.length + c1), .slice a2 m.home.length (m.home.length + c2), .int .i64 m.start, .slice a3 m.rocks.length (m.rocks.length + c3), .int .i64 m.speed, .int .i64 m.part, .int .i64 m.flow, .int .i64 m.idle, .int .i64 m.drive, .int .i64 m.battery, .int .i64 m.deadline] 26)).alloc (by simp) (.cells #[.slice a1o o.ways.length (o.ways.length + c1o), .slice a2o o.home.length (o.home.length + c2o), .int .i64 o.start, .slice a3o o.rocks.length (o.rocks.length + c3o), .int .i64 o.speed, .int .i64 o.part, .int .i64 o.flow, .int .i64 o.idle, .int .i64 o.drive, .int .i64 o.battery, .int .i64 o.deadline] 26))).mono (((Below.refl w.heap.size w).alloc (Nat.le_refl _) (.cells #[.slice a1 m.ways.length (m.ways.length + c1), .slice a2 m.home.length (m.home.length + c2), .int .i64 m.start, .slice a3 m.rocks.length (m.rocks.length + c3), .int .i64 m.speed, .int .i64 m.part, .int .i64 m.flow, .int .i64 m.idle, .int .i64 m.drive, .int .i64 m.battery, .int .i64 m.deadline] 26)).alloc (by simp) (.cells #[.slice a1o o.ways.length (o.ways.length + c1o), .slice a2o o.home.length (o.home.length + c2o), .int .i64 o.start, .slice a3o o.rocks.length (o.rocks.length + c3o), .int .i64 o.speed, .int .i64 o.part, .int .i64 o.flow, .int .i64 o.idle, .int .i64 o.drive, .int .i64 o.battery, .int .i64 o.deadline] 26)).size)
  replace OL := Lib.hid ((OL.out.below (((Below.refl w.heap.size w).alloc (Nat.le_refl _) (.cells #[.slice a1 m.ways.length (m.ways.length + c1), .slice a2 m.home.length (m.home.length + c2), .int .i64 m.start, .slice a3 m.rocks.length (m.rocks.length + c3), .int .i64 m.speed, .int .i64 m.part, .int .i64 m.flow, .int .i64 m.idle, .int .i64 m.drive, .int .i64 m.battery, .int .i64 m.deadline] 26)).alloc (by simp) (.cells #[.slice a1o o.ways.length (o.ways.length + c1o), .slice a2o o.home.length (o.home.length + c2o), .int .i64 o.start, .slice a3o o.rocks.length (o.rocks.length + c3o), .int .i64 o.speed, .int .i64 o.part, .int .i64 o.flow, .int .i64 o.idle, .int .i64 o.drive, .int .i64 o.battery, .int .i64 o.deadline] 26))).mono (((Below.refl w.heap.size w).alloc (Nat.le_refl _) (.cells #[.slice a1 m.ways.length (m.ways.length + c1), .slice a2 m.home.length (m.home.length + c2), .int .i64 m.start, .slice a3 m.rocks.length (m.rocks.length + c3), .int .i64 m.speed, .int .i64 m.part, .int .i64 m.flow, .int .i64 m.idle, .int .i64 m.drive, .int .i64 m.battery, .int .i64 m.deadline] 26)).alloc (by simp) (.cells #[.slice a1o o.ways.length (o.ways.length + c1o), .slice a2o o.home.length (o.home.length + c2o), .int .i64 o.start, .slice a3o o.rocks.length (o.rocks.length + c3o), .int .i64 o.speed, .int .i64 o.part, .int .i64 o.flow, .int .i64 o.idle, .int .i64 o.drive, .int .i64 o.battery, .int .i64 o.deadline] 26)).size)
  have MB := Lib.hid (show Has ((w.alloc (.cells #[.slice a1 m.ways.length (m.ways.length + c1), .slice a2 m.home.length (m.home.length + c2), .int .i64 m.start, .slice a3 m.rocks.length (m.rocks.length + c3), .int .i64 m.speed, .int .i64 m.part, .int .i64 m.flow, .int .i64 m.idle, .int .i64 m.drive, .int .i64 m.battery, .int .i64 m.deadline] 26)).alloc (.cells #[.slice a1o o.ways.length (o.ways.length + c1o), .slice a2o o.home.length (o.home.length + c2o), .int .i64 o.start, .slice a3o o.rocks.length (o.rocks.length + c3o), .int .i64 o.speed, .int .i64 o.part, .int .i64 o.flow, .int .i64 o.idle, .int .i64 o.drive, .int .i64 o.battery, .int .i64 o.deadline] 26)) (w.heap.size) #[.slice a1 m.ways.length (m.ways.length + c1), .slice a2 m.home.length (m.home.length + c2), .int .i64 m.start, .slice a3 m.rocks.length (m.rocks.length + c3), .int .i64 m.speed, .int .i64 m.part, .int .i64 m.flow, .int .i64 m.idle, .int .i64 m.drive, .int .i64 m.battery, .int .i64 m.deadline] 26 from q0)
  have OB := Lib.hid (show Has ((w.alloc (.cells #[.slice a1 m.ways.length (m.ways.length + c1), .slice a2 m.home.length (m.home.length + c2), .int .i64 m.start, .slice a3 m.rocks.length (m.rocks.length + c3), .int .i64 m.speed, .int .i64 m.part, .int .i64 m.flow, .int .i64 m.idle, .int .i64 m.drive, .int .i64 m.battery, .int .i64 m.deadline] 26)).alloc (.cells #[.slice a1o o.ways.length (o.ways.length + c1o), .slice a2o o.home.length (o.home.length + c2o), .int .i64 o.start, .slice a3o o.rocks.length (o.rocks.length + c3o), .int .i64 o.speed, .int .i64 o.part, .int .i64 o.flow, .int .i64 o.idle, .int .i64 o.drive, .int .i64 o.battery, .int .i64 o.deadline] 26)) (w.heap.size + 1) #[.slice a1o o.ways.length (o.ways.length + c1o), .slice a2o o.home.length (o.home.length + c2o), .int .i64 o.start, .slice a3o o.rocks.length (o.rocks.length + c3o), .int .i64 o.speed, .int .i64 o.part, .int .i64 o.flow, .int .i64 o.idle, .int .i64 o.drive, .int .i64 o.battery, .int .i64 o.deadline] 26 from q1)
  have BX0 := Lib.hid (B0.out.trans (((((Below.refl w.heap.size w).alloc (Nat.le_refl _) (.cells #[.slice a1 m.ways.length (m.ways.length + c1), .slice a2 m.home.length (m.home.length + c2), .int .i64 m.start, .slice a3 m.rocks.length (m.rocks.length + c3), .int .i64 m.speed, .int .i64 m.part, .int .i64 m.flow, .int .i64 m.idle, .int .i64 m.drive, .int .i64 m.battery, .int .i64 m.deadline] 26)).alloc (by simp) (.cells #[.slice a1o o.ways.length (o.ways.length + c1o), .slice a2o o.home.length (o.home.length + c2o), .int .i64 o.start, .slice a3o o.rocks.length (o.rocks.length + c3o), .int .i64 o.speed, .int .i64 o.part, .int .i64 o.flow, .int .i64 o.idle, .int .i64 o.drive, .int .i64 o.battery, .int .i64 o.deadline] 26))).mono B0.out.size))
  generalize hXX0 : ((w.alloc (.cells #[.slice a1 m.ways.length (m.ways.length + c1), .slice a2 m.home.length (m.home.length + c2), .int .i64 m.start, .slice a3 m.rocks.length (m.rocks.length + c3), .int .i64 m.speed, .int .i64 m.part, .int .i64 m.flow, .int .i64 m.idle, .int .i64 m.drive, .int .i64 m.battery, .int .i64 m.deadline] 26)).alloc (.cells #[.slice a1o o.ways.length (o.ways.length + c1o), .slice a2o o.home.length (o.home.length + c2o), .int .i64 o.start, .slice a3o o.rocks.length (o.rocks.length + c3o), .int .i64 o.speed, .int .i64 o.part, .int .i64 o.flow, .int .i64 o.idle, .int .i64 o.drive, .int .i64 o.battery, .int .i64 o.deadline] 26)) = X0 at *
  clear hXX0
  clear q0 q1
  have hz0 := BX0.out.size
  refine (f1.out _ MM.out ML.out).mono ?_
  rintro e w1 ⟨mA, vwA, vhA, vrA, vaA, vtA, laA, ltA, rfl, p1, q1, r1, s1, b1⟩
  have B1 := Lib.hid (BX0.out.trans (b1.mono BX0.out.size))
  replace MM := Lib.hid ((MM.out.below b1).mono b1.size)
  replace ML := Lib.hid ((ML.out.below b1).mono b1.size)
  replace OM := Lib.hid ((OM.out.below b1).mono b1.size)
  replace OL := Lib.hid ((OL.out.below b1).mono b1.size)
  replace MB := Lib.hid (MB.out.below b1 MB.out.lt)
  replace OB := Lib.hid (OB.out.below b1 OB.out.lt)
  have VA := Lib.hid p1
  have AAA := Lib.hid q1
  have TAA := Lib.hid r1
  have EQA := Lib.hid s1
  obtain ⟨⟨-, a1A, c1A, h1, -⟩, ⟨-, a2A, c2A, h2, -⟩, ⟨-, a3A, c3A, h3, -⟩⟩ := p1
  subst h1 h2 h3
  obtain ⟨-, aaA, caA, h1, -⟩ := q1
  subst h1
  obtain ⟨-, atA, ctA, h1, -⟩ := r1
  subst h1
  clear s1
  unfold vehCells
  clear b1
  have om := msn_cells (m := o) (OB.out.below ((Below.refl w1.heap.size w1).alloc (Nat.le_refl _) (.cells #[.slice a1A mA.ways.length (mA.ways.length + c1A), .slice a2A mA.home.length (mA.home.length + c2A), .int .i64 mA.start, .slice a3A mA.rocks.length (mA.rocks.length + c3A), .int .i64 mA.speed, .int .i64 mA.part, .int .i64 mA.flow, .int .i64 mA.idle, .int .i64 mA.drive, .int .i64 mA.battery, .int .i64 mA.deadline, .slice aaA laA.length (laA.length + caA), .slice atA ltA.length (ltA.length + ctA)] 72)) OB.out.lt)
  obtain ⟨d0, d1, d2, d3, d4, d5, d6, d7, d8, d9, d10⟩ := om
  go_wp2_with fail
  replace MM := Lib.hid ((MM.out.below ((Below.refl w1.heap.size w1).alloc (Nat.le_refl _) (.cells #[.slice a1A mA.ways.length (mA.ways.length + c1A), .slice a2A mA.home.length (mA.home.length + c2A), .int .i64 mA.start, .slice a3A mA.rocks.length (mA.rocks.length + c3A), .int .i64 mA.speed, .int .i64 mA.part, .int .i64 mA.flow, .int .i64 mA.idle, .int .i64 mA.drive, .int .i64 mA.battery, .int .i64 mA.deadline, .slice aaA laA.length (laA.length + caA), .slice atA ltA.length (ltA.length + ctA)] 72))).mono ((Below.refl w1.heap.size w1).alloc (Nat.le_refl _) (.cells #[.slice a1A mA.ways.length (mA.ways.length + c1A), .slice a2A mA.home.length (mA.home.length + c2A), .int .i64 mA.start, .slice a3A mA.rocks.length (mA.rocks.length + c3A), .int .i64 mA.speed, .int .i64 mA.part, .int .i64 mA.flow, .int .i64 mA.idle, .int .i64 mA.drive, .int .i64 mA.battery, .int .i64 mA.deadline, .slice aaA laA.length (laA.length + caA), .slice atA ltA.length (ltA.length + ctA)] 72)).size)
  replace ML := Lib.hid ((ML.out.below ((Below.refl w1.heap.size w1).alloc (Nat.le_refl _) (.cells #[.slice a1A mA.ways.length (mA.ways.length + c1A), .slice a2A mA.home.length (mA.home.length + c2A), .int .i64 mA.start, .slice a3A mA.rocks.length (mA.rocks.length + c3A), .int .i64 mA.speed, .int .i64 mA.part, .int .i64 mA.flow, .int .i64 mA.idle, .int .i64 mA.drive, .int .i64 mA.battery, .int .i64 mA.deadline, .slice aaA laA.length (laA.length + caA), .slice atA ltA.length (ltA.length + ctA)] 72))).mono ((Below.refl w1.heap.size w1).alloc (Nat.le_refl _) (.cells #[.slice a1A mA.ways.length (mA.ways.length + c1A), .slice a2A mA.home.length (mA.home.length + c2A), .int .i64 mA.start, .slice a3A mA.rocks.length (mA.rocks.length + c3A), .int .i64 mA.speed, .int .i64 mA.part, .int .i64 mA.flow, .int .i64 mA.idle, .int .i64 mA.drive, .int .i64 mA.battery, .int .i64 mA.deadline, .slice aaA laA.length (laA.length + caA), .slice atA ltA.length (ltA.length + ctA)] 72)).size)
  replace OM := Lib.hid ((OM.out.below ((Below.refl w1.heap.size w1).alloc (Nat.le_refl _) (.cells #[.slice a1A mA.ways.length (mA.ways.length + c1A), .slice a2A mA.home.length (mA.home.length + c2A), .int .i64 mA.start, .slice a3A mA.rocks.length (mA.rocks.length + c3A), .int .i64 mA.speed, .int .i64 mA.part, .int .i64 mA.flow, .int .i64 mA.idle, .int .i64 mA.drive, .int .i64 mA.battery, .int .i64 mA.deadline, .slice aaA laA.length (laA.length + caA), .slice atA ltA.length (ltA.length + ctA)] 72))).mono ((Below.refl w1.heap.size w1).alloc (Nat.le_refl _) (.cells #[.slice a1A mA.ways.length (mA.ways.length + c1A), .slice a2A mA.home.length (mA.home.length + c2A), .int .i64 mA.start, .slice a3A mA.rocks.length (mA.rocks.length + c3A), .int .i64 mA.speed, .int .i64 mA.part, .int .i64 mA.flow, .int .i64 mA.idle, .int .i64 mA.drive, .int .i64 mA.battery, .int .i64 mA.deadline, .slice aaA laA.length (laA.length + caA), .slice atA ltA.length (ltA.length + ctA)] 72)).size)
  replace OL := Lib.hid ((OL.out.below ((Below.refl w1.heap.size w1).alloc (Nat.le_refl _) (.cells #[.slice a1A mA.ways.length (mA.ways.length + c1A), .slice a2A mA.home.length (mA.home.length + c2A), .int .i64 mA.start, .slice a3A mA.rocks.length (mA.rocks.length + c3A), .int .i64 mA.speed, .int .i64 mA.part, .int .i64 mA.flow, .int .i64 mA.idle, .int .i64 mA.drive, .int .i64 mA.battery, .int .i64 mA.deadline, .slice aaA laA.length (laA.length + caA), .slice atA ltA.length (ltA.length + ctA)] 72))).mono ((Below.refl w1.heap.size w1).alloc (Nat.le_refl _) (.cells #[.slice a1A mA.ways.length (mA.ways.length + c1A), .slice a2A mA.home.length (mA.home.length + c2A), .int .i64 mA.start, .slice a3A mA.rocks.length (mA.rocks.length + c3A), .int .i64 mA.speed, .int .i64 mA.part, .int .i64 mA.flow, .int .i64 mA.idle, .int .i64 mA.drive, .int .i64 mA.battery, .int .i64 mA.deadline, .slice aaA laA.length (laA.length + caA), .slice atA ltA.length (ltA.length + ctA)] 72)).size)
  replace MB := Lib.hid (MB.out.below ((Below.refl w1.heap.size w1).alloc (Nat.le_refl _) (.cells #[.slice a1A mA.ways.length (mA.ways.length + c1A), .slice a2A mA.home.length (mA.home.length + c2A), .int .i64 mA.start, .slice a3A mA.rocks.length (mA.rocks.length + c3A), .int .i64 mA.speed, .int .i64 mA.part, .int .i64 mA.flow, .int .i64 mA.idle, .int .i64 mA.drive, .int .i64 mA.battery, .int .i64 mA.deadline, .slice aaA laA.length (laA.length + caA), .slice atA ltA.length (ltA.length + ctA)] 72)) MB.out.lt)
  replace OB := Lib.hid (OB.out.below ((Below.refl w1.heap.size w1).alloc (Nat.le_refl _) (.cells #[.slice a1A mA.ways.length (mA.ways.length + c1A), .slice a2A mA.home.length (mA.home.length + c2A), .int .i64 mA.start, .slice a3A mA.rocks.length (mA.rocks.length + c3A), .int .i64 mA.speed, .int .i64 mA.part, .int .i64 mA.flow, .int .i64 mA.idle, .int .i64 mA.drive, .int .i64 mA.battery, .int .i64 mA.deadline, .slice aaA laA.length (laA.length + caA), .slice atA ltA.length (ltA.length + ctA)] 72)) OB.out.lt)
  replace VA := Lib.hid ((VA.out.below ((Below.refl w1.heap.size w1).alloc (Nat.le_refl _) (.cells #[.slice a1A mA.ways.length (mA.ways.length + c1A), .slice a2A mA.home.length (mA.home.length + c2A), .int .i64 mA.start, .slice a3A mA.rocks.length (mA.rocks.length + c3A), .int .i64 mA.speed, .int .i64 mA.part, .int .i64 mA.flow, .int .i64 mA.idle, .int .i64 mA.drive, .int .i64 mA.battery, .int .i64 mA.deadline, .slice aaA laA.length (laA.length + caA), .slice atA ltA.length (ltA.length + ctA)] 72))).mono ((Below.refl w1.heap.size w1).alloc (Nat.le_refl _) (.cells #[.slice a1A mA.ways.length (mA.ways.length + c1A), .slice a2A mA.home.length (mA.home.length + c2A), .int .i64 mA.start, .slice a3A mA.rocks.length (mA.rocks.length + c3A), .int .i64 mA.speed, .int .i64 mA.part, .int .i64 mA.flow, .int .i64 mA.idle, .int .i64 mA.drive, .int .i64 mA.battery, .int .i64 mA.deadline, .slice aaA laA.length (laA.length + caA), .slice atA ltA.length (ltA.length + ctA)] 72)).size)
  replace AAA := Lib.hid ((AAA.out.below ((Below.refl w1.heap.size w1).alloc (Nat.le_refl _) (.cells #[.slice a1A mA.ways.length (mA.ways.length + c1A), .slice a2A mA.home.length (mA.home.length + c2A), .int .i64 mA.start, .slice a3A mA.rocks.length (mA.rocks.length + c3A), .int .i64 mA.speed, .int .i64 mA.part, .int .i64 mA.flow, .int .i64 mA.idle, .int .i64 mA.drive, .int .i64 mA.battery, .int .i64 mA.deadline, .slice aaA laA.length (laA.length + caA), .slice atA ltA.length (ltA.length + ctA)] 72))).mono ((Below.refl w1.heap.size w1).alloc (Nat.le_refl _) (.cells #[.slice a1A mA.ways.length (mA.ways.length + c1A), .slice a2A mA.home.length (mA.home.length + c2A), .int .i64 mA.start, .slice a3A mA.rocks.length (mA.rocks.length + c3A), .int .i64 mA.speed, .int .i64 mA.part, .int .i64 mA.flow, .int .i64 mA.idle, .int .i64 mA.drive, .int .i64 mA.battery, .int .i64 mA.deadline, .slice aaA laA.length (laA.length + caA), .slice atA ltA.length (ltA.length + ctA)] 72)).size)
  replace TAA := Lib.hid ((TAA.out.below ((Below.refl w1.heap.size w1).alloc (Nat.le_refl _) (.cells #[.slice a1A mA.ways.length (mA.ways.length + c1A), .slice a2A mA.home.length (mA.home.length + c2A), .int .i64 mA.start, .slice a3A mA.rocks.length (mA.rocks.length + c3A), .int .i64 mA.speed, .int .i64 mA.part, .int .i64 mA.flow, .int .i64 mA.idle, .int .i64 mA.drive, .int .i64 mA.battery, .int .i64 mA.deadline, .slice aaA laA.length (laA.length + caA), .slice atA ltA.length (ltA.length + ctA)] 72))).mono ((Below.refl w1.heap.size w1).alloc (Nat.le_refl _) (.cells #[.slice a1A mA.ways.length (mA.ways.length + c1A), .slice a2A mA.home.length (mA.home.length + c2A), .int .i64 mA.start, .slice a3A mA.rocks.length (mA.rocks.length + c3A), .int .i64 mA.speed, .int .i64 mA.part, .int .i64 mA.flow, .int .i64 mA.idle, .int .i64 mA.drive, .int .i64 mA.battery, .int .i64 mA.deadline, .slice aaA laA.length (laA.length + caA), .slice atA ltA.length (ltA.length + ctA)] 72)).size)
  have RA := Lib.hid (show Has (w1.alloc (.cells #[.slice a1A mA.ways.length (mA.ways.length + c1A), .slice a2A mA.home.length (mA.home.length + c2A), .int .i64 mA.start, .slice a3A mA.rocks.length (mA.rocks.length + c3A), .int .i64 mA.speed, .int .i64 mA.part, .int .i64 mA.flow, .int .i64 mA.idle, .int .i64 mA.drive, .int .i64 mA.battery, .int .i64 mA.deadline, .slice aaA laA.length (laA.length + caA), .slice atA ltA.length (ltA.length + ctA)] 72)) w1.heap.size #[.slice a1A mA.ways.length (mA.ways.length + c1A), .slice a2A mA.home.length (mA.home.length + c2A), .int .i64 mA.start, .slice a3A mA.rocks.length (mA.rocks.length + c3A), .int .i64 mA.speed, .int .i64 mA.part, .int .i64 mA.flow, .int .i64 mA.idle, .int .i64 mA.drive, .int .i64 mA.battery, .int .i64 mA.deadline, .slice aaA laA.length (laA.length + caA), .slice atA ltA.length (ltA.length + ctA)] 72 from Has.new w1 #[.slice a1A mA.ways.length (mA.ways.length + c1A), .slice a2A mA.home.length (mA.home.length + c2A), .int .i64 mA.start, .slice a3A mA.rocks.length (mA.rocks.length + c3A), .int .i64 mA.speed, .int .i64 mA.part, .int .i64 mA.flow, .int .i64 mA.idle, .int .i64 mA.drive, .int .i64 mA.battery, .int .i64 mA.deadline, .slice aaA laA.length (laA.length + caA), .slice atA ltA.length (ltA.length + ctA)] 72)
  have BX1 := Lib.hid (B1.out.trans ((((Below.refl w1.heap.size w1).alloc (Nat.le_refl _) (.cells #[.slice a1A mA.ways.length (mA.ways.length + c1A), .slice a2A mA.home.length (mA.home.length + c2A), .int .i64 mA.start, .slice a3A mA.rocks.length (mA.rocks.length + c3A), .int .i64 mA.speed, .int .i64 mA.part, .int .i64 mA.flow, .int .i64 mA.idle, .int .i64 mA.drive, .int .i64 mA.battery, .int .i64 mA.deadline, .slice aaA laA.length (laA.length + caA), .slice atA ltA.length (ltA.length + ctA)] 72))).mono B1.out.size))
  generalize hXX1 : (w1.alloc (.cells #[.slice a1A mA.ways.length (mA.ways.length + c1A), .slice a2A mA.home.length (mA.home.length + c2A), .int .i64 mA.start, .slice a3A mA.rocks.length (mA.rocks.length + c3A), .int .i64 mA.speed, .int .i64 mA.part, .int .i64 mA.flow, .int .i64 mA.idle, .int .i64 mA.drive, .int .i64 mA.battery, .int .i64 mA.deadline, .slice aaA laA.length (laA.length + caA), .slice atA ltA.length (ltA.length + ctA)] 72)) = X1 at *
  clear hXX1
  clear d0 d1 d2 d3 d4 d5 d6 d7 d8 d9 d10
  refine (f2.out _ OM.out OL.out).mono ?_
  rintro e w2 ⟨mB, vwB, vhB, vrB, vaB, vtB, laB, ltB, rfl, p2, q2, r2, s2, b2⟩
  have B2 := Lib.hid (BX1.out.trans (b2.mono BX1.out.size))
  replace MM := Lib.hid ((MM.out.below b2).mono b2.size)
  replace ML := Lib.hid ((ML.out.below b2).mono b2.size)
  replace OM := Lib.hid ((OM.out.below b2).mono b2.size)
  replace OL := Lib.hid ((OL.out.below b2).mono b2.size)
  replace MB := Lib.hid (MB.out.below b2 MB.out.lt)
  replace OB := Lib.hid (OB.out.below b2 OB.out.lt)
  replace VA := Lib.hid ((VA.out.below b2).mono b2.size)
  replace AAA := Lib.hid ((AAA.out.below b2).mono b2.size)
  replace TAA := Lib.hid ((TAA.out.below b2).mono b2.size)
  replace RA := Lib.hid (RA.out.below b2 RA.out.lt)
  have VB := Lib.hid p2
  have AAB := Lib.hid q2
  have TAB := Lib.hid r2
  have EQB := Lib.hid s2
  obtain ⟨⟨-, a1B, c1B, h1, -⟩, ⟨-, a2B, c2B, h2, -⟩, ⟨-, a3B, c3B, h3, -⟩⟩ := p2
  subst h1 h2 h3
  obtain ⟨-, aaB, caB, h1, -⟩ := q2
  subst h1
  obtain ⟨-, atB, ctB, h1, -⟩ := r2
  subst h1
  clear s2
  unfold vehCells
  clear b2
  have BZ := Lib.hid (B2.out.trans ((show Below w2.heap.size w2 (w2.alloc (.cells #[.slice a1B mB.ways.length (mB.ways.length + c1B), .slice a2B mB.home.length (mB.home.length + c2B), .int .i64 mB.start, .slice a3B mB.rocks.length (mB.rocks.length + c3B), .int .i64 mB.speed, .int .i64 mB.part, .int .i64 mB.flow, .int .i64 mB.idle, .int .i64 mB.drive, .int .i64 mB.battery, .int .i64 mB.deadline, .slice aaB laB.length (laB.length + caB), .slice atB ltB.length (ltB.length + ctB)] 72)) from (Below.refl _ _).alloc (Nat.le_refl _) _).mono B2.out.size))
  cases hb1 : radOkB m l
  · go_wp2
    go_ret2
    exact ⟨rfl, BZ.out⟩
  cases hb2 : radOkB o lo
  · go_wp2
    go_ret2
    exact ⟨rfl, BZ.out⟩
  clear BZ
  clear MM
  clear ML
  clear OM
  clear OL
  clear MB
  clear OB
  clear VA
  clear AAA
  clear TAA
  clear RA
  clear VB
  clear AAB
  clear TAB
  go_wp2_with fail
  refine (fr.out _).mono ?_
  rintro e w3 ⟨rfl, b3⟩
  have b3' := ((Below.refl w2.heap.size w2).alloc (Nat.le_refl _) (.cells #[.slice a1B mB.ways.length (mB.ways.length + c1B), .slice a2B mB.home.length (mB.home.length + c2B), .int .i64 mB.start, .slice a3B mB.rocks.length (mB.rocks.length + c3B), .int .i64 mB.speed, .int .i64 mB.part, .int .i64 mB.flow, .int .i64 mB.idle, .int .i64 mB.drive, .int .i64 mB.battery, .int .i64 mB.deadline, .slice aaB laB.length (laB.length + caB), .slice atB ltB.length (ltB.length + ctB)] 72)).trans (b3.mono ((Below.refl w2.heap.size w2).alloc (Nat.le_refl _) (.cells #[.slice a1B mB.ways.length (mB.ways.length + c1B), .slice a2B mB.home.length (mB.home.length + c2B), .int .i64 mB.start, .slice a3B mB.rocks.length (mB.rocks.length + c3B), .int .i64 mB.speed, .int .i64 mB.part, .int .i64 mB.flow, .int .i64 mB.idle, .int .i64 mB.drive, .int .i64 mB.battery, .int .i64 mB.deadline, .slice aaB laB.length (laB.length + caB), .slice atB ltB.length (ltB.length + ctB)] 72)).size)
  have B3 := Lib.hid (B2.out.trans (b3'.mono B2.out.size))
  clear b3 b3'
  cases b5
  · go_wp2
    go_ret2
    exact ⟨rfl, B3.out⟩
  go_wp2_with fail
  refine (fw.out _).mono ?_
  rintro e w4 ⟨rfl, b4⟩
  have B4 := Lib.hid (B3.out.trans (b4.mono B3.out.size))
  clear b4
  cases b6
  · go_wp2
    go_ret2
    exact ⟨rfl, B4.out⟩
  have h := hE.out
  rw [hb1, hb2] at h
  exact absurd h (by simp)
attribute [local go_sem] Oper.semAt_some
set_option linter.unusedSimpArgs false in
set_option linter.unusedVariables false in
set_option maxRecDepth 8000 in
set_option maxHeartbeats 8000000 in
theorem tways_yes (m o : Msn) (vw vh vr vl vwo vho vro vlo : Value) (l lo : List Int) (R Wt : Int) (w : World) (hm : MsnAt w.heap.size w m vw vh vr) (hl : IntsAt w.heap.size w vl l) (hmo : MsnAt w.heap.size w o vwo vho vro) (hlo : IntsAt w.heap.size w vlo lo) (hE : waskB m l o lo R Wt = true) :
    Calls Tryz.prog 38 #[.agg (msnCells m vw vh vr), .agg (msnCells o vwo vho vro), vl, vlo, .int .i64 R, .int .i64 Wt] w fun e w' => ∃ v, e = .returned (.tuple #[v, .int .i64 0]) ∧ RowAt 4 w'.heap.size w' v (trRows R Wt (trL m l o lo R Wt)) ∧ Below w.heap.size w w' := by
  have hL : trL m l o lo R Wt = trK m l o lo R Wt (m.ways.length * o.ways.length) := if_pos hE
  rw [hL]
  simp only [waskB, Bool.and_eq_true] at hE
  obtain ⟨hb1, hb2, hb5, hb6⟩ := hE
  have FM := Lib.hid (fun va vt vao vto (p q : Nat) hp hq w1 g1 g2 g3 g4 g5 g6 => tmeet_any m o vw vh vr va vt vwo vho vro vao vto l lo hb1 hb2 p q R Wt hp hq w1 g1 g2 g3 g4 g5 g6)
  have n41 := ((validB_iff m).1 (by simpa [radOkB] using hb1 : validB m = true ∧ stopsB m l = true).1).n41
  have n2 := ((validB_iff m).1 (by simpa [radOkB] using hb1 : validB m = true ∧ stopsB m l = true).1).n2
  have n41o := ((validB_iff o).1 (by simpa [radOkB] using hb2 : validB o = true ∧ stopsB o lo = true).1).n41
  have n2o := ((validB_iff o).1 (by simpa [radOkB] using hb2 : validB o = true ∧ stopsB o lo = true).1).n2
  have f1 := fun w1 h1 h2 => ton_any m vw vh vr vl l w1 h1 h2
  have f2 := fun w1 h1 h2 => ton_any o vwo vho vro vlo lo w1 h1 h2
  have fr := fun w1 => tnum_any R 100000 w1
  have fw := fun w1 => tnum_any Wt 100000 w1
  have MM := Lib.hid hm
  have ML := Lib.hid hl
  have OM := Lib.hid hmo
  have OL := Lib.hid hlo
  rw [hb5] at fr
  rw [hb6] at fw
  rw [hb1] at f1
  rw [hb2] at f2
  obtain ⟨⟨-, a1, c1, rfl, -⟩, ⟨-, a2, c2, rfl, -⟩, ⟨-, a3, c3, rfl, -⟩⟩ := hm
  obtain ⟨⟨-, a1o, c1o, rfl, -⟩, ⟨-, a2o, c2o, rfl, -⟩, ⟨-, a3o, c3o, rfl, -⟩⟩ := hmo
  obtain ⟨-, al, cl, rfl, -⟩ := hl
  obtain ⟨-, alo, clo, rfl, -⟩ := hlo
  unfold msnCells at *
  replace f1 := Lib.hid f1
  replace f2 := Lib.hid f2
  replace fr := Lib.hid fr
  replace fw := Lib.hid fw
  have B0 := Lib.hid (Below.refl w.heap.size w)
  clear hb1 hb2 hb5 hb6 hL
  refine (callsIn_wide (n := 9)).1 ?_; refine callsIn_of_wp_marks Tryz.func38 rfl trivial ?_ rfl; simp only [Tryz.ntmps38, List.size_toArray, List.length_cons, List.length_nil, Nat.reduceAdd, Nat.reduceSub, Array.replicate_succ, Array.replicate_zero, List.push_toArray, List.append_toArray, List.nil_append, List.cons_append]; refine wpIn_wide.2 ?_
  have q0 := Has.new w #[.slice a1 m.ways.length (m.ways.length + c1), .slice a2 m.home.length (m.home.length + c2), .int .i64 m.start, .slice a3 m.rocks.length (m.rocks.length + c3), .int .i64 m.speed, .int .i64 m.part, .int .i64 m.flow, .int .i64 m.idle, .int .i64 m.drive, .int .i64 m.battery, .int .i64 m.deadline] 26
  have q0 := q0.below ((Below.refl (w.heap.size + 1) _).alloc (by simp) (.cells #[.slice a1o o.ways.length (o.ways.length + c1o), .slice a2o o.home.length (o.home.length + c2o), .int .i64 o.start, .slice a3o o.rocks.length (o.rocks.length + c3o), .int .i64 o.speed, .int .i64 o.part, .int .i64 o.flow, .int .i64 o.idle, .int .i64 o.drive, .int .i64 o.battery, .int .i64 o.deadline] 26)) (by omega)
  have q1 := Has.new (w.alloc (.cells #[.slice a1 m.ways.length (m.ways.length + c1), .slice a2 m.home.length (m.home.length + c2), .int .i64 m.start, .slice a3 m.rocks.length (m.rocks.length + c3), .int .i64 m.speed, .int .i64 m.part, .int .i64 m.flow, .int .i64 m.idle, .int .i64 m.drive, .int .i64 m.battery, .int .i64 m.deadline] 26)) #[.slice a1o o.ways.length (o.ways.length + c1o), .slice a2o o.home.length (o.home.length + c2o), .int .i64 o.start, .slice a3o o.rocks.length (o.rocks.length + c3o), .int .i64 o.speed, .int .i64 o.part, .int .i64 o.flow, .int .i64 o.idle, .int .i64 o.drive, .int .i64 o.battery, .int .i64 o.deadline] 26
  rw [World.size_alloc] at q1
  go_wp2_with fail
  replace MM := Lib.hid ((MM.out.below (((Below.refl w.heap.size w).alloc (Nat.le_refl _) (.cells #[.slice a1 m.ways.length (m.ways.length + c1), .slice a2 m.home.length (m.home.length + c2), .int .i64 m.start, .slice a3 m.rocks.length (m.rocks.length + c3), .int .i64 m.speed, .int .i64 m.part, .int .i64 m.flow, .int .i64 m.idle, .int .i64 m.drive, .int .i64 m.battery, .int .i64 m.deadline] 26)).alloc (by simp) (.cells #[.slice a1o o.ways.length (o.ways.length + c1o), .slice a2o o.home.length (o.home.length + c2o), .int .i64 o.start, .slice a3o o.rocks.length (o.rocks.length + c3o), .int .i64 o.speed, .int .i64 o.part, .int .i64 o.flow, .int .i64 o.idle, .int .i64 o.drive, .int .i64 o.battery, .int .i64 o.deadline] 26))).mono (((Below.refl w.heap.size w).alloc (Nat.le_refl _) (.cells #[.slice a1 m.ways.length (m.ways.length + c1), .slice a2 m.home.length (m.home.length + c2), .int .i64 m.start, .slice a3 m.rocks.length (m.rocks.length + c3), .int .i64 m.speed, .int .i64 m.part, .int .i64 m.flow, .int .i64 m.idle, .int .i64 m.drive, .int .i64 m.battery, .int .i64 m.deadline] 26)).alloc (by simp) (.cells #[.slice a1o o.ways.length (o.ways.length + c1o), .slice a2o o.home.length (o.home.length + c2o), .int .i64 o.start, .slice a3o o.rocks.length (o.rocks.length + c3o), .int .i64 o.speed, .int .i64 o.part, .int .i64 o.flow, .int .i64 o.idle, .int .i64 o.drive, .int .i64 o.battery, .int .i64 o.deadline] 26)).size)
  replace ML := Lib.hid ((ML.out.below (((Below.refl w.heap.size w).alloc (Nat.le_refl _) (.cells #[.slice a1 m.ways.length (m.ways.length + c1), .slice a2 m.home.length (m.home.length + c2), .int .i64 m.start, .slice a3 m.rocks.length (m.rocks.length + c3), .int .i64 m.speed, .int .i64 m.part, .int .i64 m.flow, .int .i64 m.idle, .int .i64 m.drive, .int .i64 m.battery, .int .i64 m.deadline] 26)).alloc (by simp) (.cells #[.slice a1o o.ways.length (o.ways.length + c1o), .slice a2o o.home.length (o.home.length + c2o), .int .i64 o.start, .slice a3o o.rocks.length (o.rocks.length + c3o), .int .i64 o.speed, .int .i64 o.part, .int .i64 o.flow, .int .i64 o.idle, .int .i64 o.drive, .int .i64 o.battery, .int .i64 o.deadline] 26))).mono (((Below.refl w.heap.size w).alloc (Nat.le_refl _) (.cells #[.slice a1 m.ways.length (m.ways.length + c1), .slice a2 m.home.length (m.home.length + c2), .int .i64 m.start, .slice a3 m.rocks.length (m.rocks.length + c3), .int .i64 m.speed, .int .i64 m.part, .int .i64 m.flow, .int .i64 m.idle, .int .i64 m.drive, .int .i64 m.battery, .int .i64 m.deadline] 26)).alloc (by simp) (.cells #[.slice a1o o.ways.length (o.ways.length + c1o), .slice a2o o.home.length (o.home.length + c2o), .int .i64 o.start, .slice a3o o.rocks.length (o.rocks.length + c3o), .int .i64 o.speed, .int .i64 o.part, .int .i64 o.flow, .int .i64 o.idle, .int .i64 o.drive, .int .i64 o.battery, .int .i64 o.deadline] 26)).size)
  replace OM := Lib.hid ((OM.out.below (((Below.refl w.heap.size w).alloc (Nat.le_refl _) (.cells #[.slice a1 m.ways.length (m.ways.length + c1), .slice a2 m.home.length (m.home.length + c2), .int .i64 m.start, .slice a3 m.rocks.length (m.rocks.length + c3), .int .i64 m.speed, .int .i64 m.part, .int .i64 m.flow, .int .i64 m.idle, .int .i64 m.drive, .int .i64 m.battery, .int .i64 m.deadline] 26)).alloc (by simp) (.cells #[.slice a1o o.ways.length (o.ways.length + c1o), .slice a2o o.home.length (o.home.length + c2o), .int .i64 o.start, .slice a3o o.rocks.length (o.rocks.length + c3o), .int .i64 o.speed, .int .i64 o.part, .int .i64 o.flow, .int .i64 o.idle, .int .i64 o.drive, .int .i64 o.battery, .int .i64 o.deadline] 26))).mono (((Below.refl w.heap.size w).alloc (Nat.le_refl _) (.cells #[.slice a1 m.ways.length (m.ways.length + c1), .slice a2 m.home.length (m.home.length + c2), .int .i64 m.start, .slice a3 m.rocks.length (m.rocks.length + c3), .int .i64 m.speed, .int .i64 m.part, .int .i64 m.flow, .int .i64 m.idle, .int .i64 m.drive, .int .i64 m.battery, .int .i64 m.deadline] 26)).alloc (by simp) (.cells #[.slice a1o o.ways.length (o.ways.length + c1o), .slice a2o o.home.length (o.home.length + c2o), .int .i64 o.start, .slice a3o o.rocks.length (o.rocks.length + c3o), .int .i64 o.speed, .int .i64 o.part, .int .i64 o.flow, .int .i64 o.idle, .int .i64 o.drive, .int .i64 o.battery, .int .i64 o.deadline] 26)).size)
  replace OL := Lib.hid ((OL.out.below (((Below.refl w.heap.size w).alloc (Nat.le_refl _) (.cells #[.slice a1 m.ways.length (m.ways.length + c1), .slice a2 m.home.length (m.home.length + c2), .int .i64 m.start, .slice a3 m.rocks.length (m.rocks.length + c3), .int .i64 m.speed, .int .i64 m.part, .int .i64 m.flow, .int .i64 m.idle, .int .i64 m.drive, .int .i64 m.battery, .int .i64 m.deadline] 26)).alloc (by simp) (.cells #[.slice a1o o.ways.length (o.ways.length + c1o), .slice a2o o.home.length (o.home.length + c2o), .int .i64 o.start, .slice a3o o.rocks.length (o.rocks.length + c3o), .int .i64 o.speed, .int .i64 o.part, .int .i64 o.flow, .int .i64 o.idle, .int .i64 o.drive, .int .i64 o.battery, .int .i64 o.deadline] 26))).mono (((Below.refl w.heap.size w).alloc (Nat.le_refl _) (.cells #[.slice a1 m.ways.length (m.ways.length + c1), .slice a2 m.home.length (m.home.length + c2), .int .i64 m.start, .slice a3 m.rocks.length (m.rocks.length + c3), .int .i64 m.speed, .int .i64 m.part, .int .i64 m.flow, .int .i64 m.idle, .int .i64 m.drive, .int .i64 m.battery, .int .i64 m.deadline] 26)).alloc (by simp) (.cells #[.slice a1o o.ways.length (o.ways.length + c1o), .slice a2o o.home.length (o.home.length + c2o), .int .i64 o.start, .slice a3o o.rocks.length (o.rocks.length + c3o), .int .i64 o.speed, .int .i64 o.part, .int .i64 o.flow, .int .i64 o.idle, .int .i64 o.drive, .int .i64 o.battery, .int .i64 o.deadline] 26)).size)
  have MB := Lib.hid (show Has ((w.alloc (.cells #[.slice a1 m.ways.length (m.ways.length + c1), .slice a2 m.home.length (m.home.length + c2), .int .i64 m.start, .slice a3 m.rocks.length (m.rocks.length + c3), .int .i64 m.speed, .int .i64 m.part, .int .i64 m.flow, .int .i64 m.idle, .int .i64 m.drive, .int .i64 m.battery, .int .i64 m.deadline] 26)).alloc (.cells #[.slice a1o o.ways.length (o.ways.length + c1o), .slice a2o o.home.length (o.home.length + c2o), .int .i64 o.start, .slice a3o o.rocks.length (o.rocks.length + c3o), .int .i64 o.speed, .int .i64 o.part, .int .i64 o.flow, .int .i64 o.idle, .int .i64 o.drive, .int .i64 o.battery, .int .i64 o.deadline] 26)) (w.heap.size) #[.slice a1 m.ways.length (m.ways.length + c1), .slice a2 m.home.length (m.home.length + c2), .int .i64 m.start, .slice a3 m.rocks.length (m.rocks.length + c3), .int .i64 m.speed, .int .i64 m.part, .int .i64 m.flow, .int .i64 m.idle, .int .i64 m.drive, .int .i64 m.battery, .int .i64 m.deadline] 26 from q0)
  have OB := Lib.hid (show Has ((w.alloc (.cells #[.slice a1 m.ways.length (m.ways.length + c1), .slice a2 m.home.length (m.home.length + c2), .int .i64 m.start, .slice a3 m.rocks.length (m.rocks.length + c3), .int .i64 m.speed, .int .i64 m.part, .int .i64 m.flow, .int .i64 m.idle, .int .i64 m.drive, .int .i64 m.battery, .int .i64 m.deadline] 26)).alloc (.cells #[.slice a1o o.ways.length (o.ways.length + c1o), .slice a2o o.home.length (o.home.length + c2o), .int .i64 o.start, .slice a3o o.rocks.length (o.rocks.length + c3o), .int .i64 o.speed, .int .i64 o.part, .int .i64 o.flow, .int .i64 o.idle, .int .i64 o.drive, .int .i64 o.battery, .int .i64 o.deadline] 26)) (w.heap.size + 1) #[.slice a1o o.ways.length (o.ways.length + c1o), .slice a2o o.home.length (o.home.length + c2o), .int .i64 o.start, .slice a3o o.rocks.length (o.rocks.length + c3o), .int .i64 o.speed, .int .i64 o.part, .int .i64 o.flow, .int .i64 o.idle, .int .i64 o.drive, .int .i64 o.battery, .int .i64 o.deadline] 26 from q1)
  have BX0 := Lib.hid (B0.out.trans (((((Below.refl w.heap.size w).alloc (Nat.le_refl _) (.cells #[.slice a1 m.ways.length (m.ways.length + c1), .slice a2 m.home.length (m.home.length + c2), .int .i64 m.start, .slice a3 m.rocks.length (m.rocks.length + c3), .int .i64 m.speed, .int .i64 m.part, .int .i64 m.flow, .int .i64 m.idle, .int .i64 m.drive, .int .i64 m.battery, .int .i64 m.deadline] 26)).alloc (by simp) (.cells #[.slice a1o o.ways.length (o.ways.length + c1o), .slice a2o o.home.length (o.home.length + c2o), .int .i64 o.start, .slice a3o o.rocks.length (o.rocks.length + c3o), .int .i64 o.speed, .int .i64 o.part, .int .i64 o.flow, .int .i64 o.idle, .int .i64 o.drive, .int .i64 o.battery, .int .i64 o.deadline] 26))).mono B0.out.size))
  generalize hXX0 : ((w.alloc (.cells #[.slice a1 m.ways.length (m.ways.length + c1), .slice a2 m.home.length (m.home.length + c2), .int .i64 m.start, .slice a3 m.rocks.length (m.rocks.length + c3), .int .i64 m.speed, .int .i64 m.part, .int .i64 m.flow, .int .i64 m.idle, .int .i64 m.drive, .int .i64 m.battery, .int .i64 m.deadline] 26)).alloc (.cells #[.slice a1o o.ways.length (o.ways.length + c1o), .slice a2o o.home.length (o.home.length + c2o), .int .i64 o.start, .slice a3o o.rocks.length (o.rocks.length + c3o), .int .i64 o.speed, .int .i64 o.part, .int .i64 o.flow, .int .i64 o.idle, .int .i64 o.drive, .int .i64 o.battery, .int .i64 o.deadline] 26)) = X0 at *
  clear hXX0
  clear q0 q1
  have hz0 := BX0.out.size
  refine (f1.out _ MM.out ML.out).mono ?_
  rintro e w1 ⟨mA, vwA, vhA, vrA, vaA, vtA, laA, ltA, rfl, p1, q1, r1, s1, b1⟩
  have B1 := Lib.hid (BX0.out.trans (b1.mono BX0.out.size))
  replace MM := Lib.hid ((MM.out.below b1).mono b1.size)
  replace ML := Lib.hid ((ML.out.below b1).mono b1.size)
  replace OM := Lib.hid ((OM.out.below b1).mono b1.size)
  replace OL := Lib.hid ((OL.out.below b1).mono b1.size)
  replace MB := Lib.hid (MB.out.below b1 MB.out.lt)
  replace OB := Lib.hid (OB.out.below b1 OB.out.lt)
  have VA := Lib.hid p1
  have AAA := Lib.hid q1
  have TAA := Lib.hid r1
  have EQA := Lib.hid s1
  obtain ⟨⟨-, a1A, c1A, h1, -⟩, ⟨-, a2A, c2A, h2, -⟩, ⟨-, a3A, c3A, h3, -⟩⟩ := p1
  subst h1 h2 h3
  obtain ⟨-, aaA, caA, h1, -⟩ := q1
  subst h1
  obtain ⟨-, atA, ctA, h1, -⟩ := r1
  subst h1
  clear s1
  unfold vehCells
  clear b1
  have om := msn_cells (m := o) (OB.out.below ((Below.refl w1.heap.size w1).alloc (Nat.le_refl _) (.cells #[.slice a1A mA.ways.length (mA.ways.length + c1A), .slice a2A mA.home.length (mA.home.length + c2A), .int .i64 mA.start, .slice a3A mA.rocks.length (mA.rocks.length + c3A), .int .i64 mA.speed, .int .i64 mA.part, .int .i64 mA.flow, .int .i64 mA.idle, .int .i64 mA.drive, .int .i64 mA.battery, .int .i64 mA.deadline, .slice aaA laA.length (laA.length + caA), .slice atA ltA.length (ltA.length + ctA)] 72)) OB.out.lt)
  obtain ⟨d0, d1, d2, d3, d4, d5, d6, d7, d8, d9, d10⟩ := om
  go_wp2_with fail
  replace MM := Lib.hid ((MM.out.below ((Below.refl w1.heap.size w1).alloc (Nat.le_refl _) (.cells #[.slice a1A mA.ways.length (mA.ways.length + c1A), .slice a2A mA.home.length (mA.home.length + c2A), .int .i64 mA.start, .slice a3A mA.rocks.length (mA.rocks.length + c3A), .int .i64 mA.speed, .int .i64 mA.part, .int .i64 mA.flow, .int .i64 mA.idle, .int .i64 mA.drive, .int .i64 mA.battery, .int .i64 mA.deadline, .slice aaA laA.length (laA.length + caA), .slice atA ltA.length (ltA.length + ctA)] 72))).mono ((Below.refl w1.heap.size w1).alloc (Nat.le_refl _) (.cells #[.slice a1A mA.ways.length (mA.ways.length + c1A), .slice a2A mA.home.length (mA.home.length + c2A), .int .i64 mA.start, .slice a3A mA.rocks.length (mA.rocks.length + c3A), .int .i64 mA.speed, .int .i64 mA.part, .int .i64 mA.flow, .int .i64 mA.idle, .int .i64 mA.drive, .int .i64 mA.battery, .int .i64 mA.deadline, .slice aaA laA.length (laA.length + caA), .slice atA ltA.length (ltA.length + ctA)] 72)).size)
  replace ML := Lib.hid ((ML.out.below ((Below.refl w1.heap.size w1).alloc (Nat.le_refl _) (.cells #[.slice a1A mA.ways.length (mA.ways.length + c1A), .slice a2A mA.home.length (mA.home.length + c2A), .int .i64 mA.start, .slice a3A mA.rocks.length (mA.rocks.length + c3A), .int .i64 mA.speed, .int .i64 mA.part, .int .i64 mA.flow, .int .i64 mA.idle, .int .i64 mA.drive, .int .i64 mA.battery, .int .i64 mA.deadline, .slice aaA laA.length (laA.length + caA), .slice atA ltA.length (ltA.length + ctA)] 72))).mono ((Below.refl w1.heap.size w1).alloc (Nat.le_refl _) (.cells #[.slice a1A mA.ways.length (mA.ways.length + c1A), .slice a2A mA.home.length (mA.home.length + c2A), .int .i64 mA.start, .slice a3A mA.rocks.length (mA.rocks.length + c3A), .int .i64 mA.speed, .int .i64 mA.part, .int .i64 mA.flow, .int .i64 mA.idle, .int .i64 mA.drive, .int .i64 mA.battery, .int .i64 mA.deadline, .slice aaA laA.length (laA.length + caA), .slice atA ltA.length (ltA.length + ctA)] 72)).size)
  replace OM := Lib.hid ((OM.out.below ((Below.refl w1.heap.size w1).alloc (Nat.le_refl _) (.cells #[.slice a1A mA.ways.length (mA.ways.length + c1A), .slice a2A mA.home.length (mA.home.length + c2A), .int .i64 mA.start, .slice a3A mA.rocks.length (mA.rocks.length + c3A), .int .i64 mA.speed, .int .i64 mA.part, .int .i64 mA.flow, .int .i64 mA.idle, .int .i64 mA.drive, .int .i64 mA.battery, .int .i64 mA.deadline, .slice aaA laA.length (laA.length + caA), .slice atA ltA.length (ltA.length + ctA)] 72))).mono ((Below.refl w1.heap.size w1).alloc (Nat.le_refl _) (.cells #[.slice a1A mA.ways.length (mA.ways.length + c1A), .slice a2A mA.home.length (mA.home.length + c2A), .int .i64 mA.start, .slice a3A mA.rocks.length (mA.rocks.length + c3A), .int .i64 mA.speed, .int .i64 mA.part, .int .i64 mA.flow, .int .i64 mA.idle, .int .i64 mA.drive, .int .i64 mA.battery, .int .i64 mA.deadline, .slice aaA laA.length (laA.length + caA), .slice atA ltA.length (ltA.length + ctA)] 72)).size)
  replace OL := Lib.hid ((OL.out.below ((Below.refl w1.heap.size w1).alloc (Nat.le_refl _) (.cells #[.slice a1A mA.ways.length (mA.ways.length + c1A), .slice a2A mA.home.length (mA.home.length + c2A), .int .i64 mA.start, .slice a3A mA.rocks.length (mA.rocks.length + c3A), .int .i64 mA.speed, .int .i64 mA.part, .int .i64 mA.flow, .int .i64 mA.idle, .int .i64 mA.drive, .int .i64 mA.battery, .int .i64 mA.deadline, .slice aaA laA.length (laA.length + caA), .slice atA ltA.length (ltA.length + ctA)] 72))).mono ((Below.refl w1.heap.size w1).alloc (Nat.le_refl _) (.cells #[.slice a1A mA.ways.length (mA.ways.length + c1A), .slice a2A mA.home.length (mA.home.length + c2A), .int .i64 mA.start, .slice a3A mA.rocks.length (mA.rocks.length + c3A), .int .i64 mA.speed, .int .i64 mA.part, .int .i64 mA.flow, .int .i64 mA.idle, .int .i64 mA.drive, .int .i64 mA.battery, .int .i64 mA.deadline, .slice aaA laA.length (laA.length + caA), .slice atA ltA.length (ltA.length + ctA)] 72)).size)
  replace MB := Lib.hid (MB.out.below ((Below.refl w1.heap.size w1).alloc (Nat.le_refl _) (.cells #[.slice a1A mA.ways.length (mA.ways.length + c1A), .slice a2A mA.home.length (mA.home.length + c2A), .int .i64 mA.start, .slice a3A mA.rocks.length (mA.rocks.length + c3A), .int .i64 mA.speed, .int .i64 mA.part, .int .i64 mA.flow, .int .i64 mA.idle, .int .i64 mA.drive, .int .i64 mA.battery, .int .i64 mA.deadline, .slice aaA laA.length (laA.length + caA), .slice atA ltA.length (ltA.length + ctA)] 72)) MB.out.lt)
  replace OB := Lib.hid (OB.out.below ((Below.refl w1.heap.size w1).alloc (Nat.le_refl _) (.cells #[.slice a1A mA.ways.length (mA.ways.length + c1A), .slice a2A mA.home.length (mA.home.length + c2A), .int .i64 mA.start, .slice a3A mA.rocks.length (mA.rocks.length + c3A), .int .i64 mA.speed, .int .i64 mA.part, .int .i64 mA.flow, .int .i64 mA.idle, .int .i64 mA.drive, .int .i64 mA.battery, .int .i64 mA.deadline, .slice aaA laA.length (laA.length + caA), .slice atA ltA.length (ltA.length + ctA)] 72)) OB.out.lt)
  replace VA := Lib.hid ((VA.out.below ((Below.refl w1.heap.size w1).alloc (Nat.le_refl _) (.cells #[.slice a1A mA.ways.length (mA.ways.length + c1A), .slice a2A mA.home.length (mA.home.length + c2A), .int .i64 mA.start, .slice a3A mA.rocks.length (mA.rocks.length + c3A), .int .i64 mA.speed, .int .i64 mA.part, .int .i64 mA.flow, .int .i64 mA.idle, .int .i64 mA.drive, .int .i64 mA.battery, .int .i64 mA.deadline, .slice aaA laA.length (laA.length + caA), .slice atA ltA.length (ltA.length + ctA)] 72))).mono ((Below.refl w1.heap.size w1).alloc (Nat.le_refl _) (.cells #[.slice a1A mA.ways.length (mA.ways.length + c1A), .slice a2A mA.home.length (mA.home.length + c2A), .int .i64 mA.start, .slice a3A mA.rocks.length (mA.rocks.length + c3A), .int .i64 mA.speed, .int .i64 mA.part, .int .i64 mA.flow, .int .i64 mA.idle, .int .i64 mA.drive, .int .i64 mA.battery, .int .i64 mA.deadline, .slice aaA laA.length (laA.length + caA), .slice atA ltA.length (ltA.length + ctA)] 72)).size)
  replace AAA := Lib.hid ((AAA.out.below ((Below.refl w1.heap.size w1).alloc (Nat.le_refl _) (.cells #[.slice a1A mA.ways.length (mA.ways.length + c1A), .slice a2A mA.home.length (mA.home.length + c2A), .int .i64 mA.start, .slice a3A mA.rocks.length (mA.rocks.length + c3A), .int .i64 mA.speed, .int .i64 mA.part, .int .i64 mA.flow, .int .i64 mA.idle, .int .i64 mA.drive, .int .i64 mA.battery, .int .i64 mA.deadline, .slice aaA laA.length (laA.length + caA), .slice atA ltA.length (ltA.length + ctA)] 72))).mono ((Below.refl w1.heap.size w1).alloc (Nat.le_refl _) (.cells #[.slice a1A mA.ways.length (mA.ways.length + c1A), .slice a2A mA.home.length (mA.home.length + c2A), .int .i64 mA.start, .slice a3A mA.rocks.length (mA.rocks.length + c3A), .int .i64 mA.speed, .int .i64 mA.part, .int .i64 mA.flow, .int .i64 mA.idle, .int .i64 mA.drive, .int .i64 mA.battery, .int .i64 mA.deadline, .slice aaA laA.length (laA.length + caA), .slice atA ltA.length (ltA.length + ctA)] 72)).size)
  replace TAA := Lib.hid ((TAA.out.below ((Below.refl w1.heap.size w1).alloc (Nat.le_refl _) (.cells #[.slice a1A mA.ways.length (mA.ways.length + c1A), .slice a2A mA.home.length (mA.home.length + c2A), .int .i64 mA.start, .slice a3A mA.rocks.length (mA.rocks.length + c3A), .int .i64 mA.speed, .int .i64 mA.part, .int .i64 mA.flow, .int .i64 mA.idle, .int .i64 mA.drive, .int .i64 mA.battery, .int .i64 mA.deadline, .slice aaA laA.length (laA.length + caA), .slice atA ltA.length (ltA.length + ctA)] 72))).mono ((Below.refl w1.heap.size w1).alloc (Nat.le_refl _) (.cells #[.slice a1A mA.ways.length (mA.ways.length + c1A), .slice a2A mA.home.length (mA.home.length + c2A), .int .i64 mA.start, .slice a3A mA.rocks.length (mA.rocks.length + c3A), .int .i64 mA.speed, .int .i64 mA.part, .int .i64 mA.flow, .int .i64 mA.idle, .int .i64 mA.drive, .int .i64 mA.battery, .int .i64 mA.deadline, .slice aaA laA.length (laA.length + caA), .slice atA ltA.length (ltA.length + ctA)] 72)).size)
  have RA := Lib.hid (show Has (w1.alloc (.cells #[.slice a1A mA.ways.length (mA.ways.length + c1A), .slice a2A mA.home.length (mA.home.length + c2A), .int .i64 mA.start, .slice a3A mA.rocks.length (mA.rocks.length + c3A), .int .i64 mA.speed, .int .i64 mA.part, .int .i64 mA.flow, .int .i64 mA.idle, .int .i64 mA.drive, .int .i64 mA.battery, .int .i64 mA.deadline, .slice aaA laA.length (laA.length + caA), .slice atA ltA.length (ltA.length + ctA)] 72)) w1.heap.size #[.slice a1A mA.ways.length (mA.ways.length + c1A), .slice a2A mA.home.length (mA.home.length + c2A), .int .i64 mA.start, .slice a3A mA.rocks.length (mA.rocks.length + c3A), .int .i64 mA.speed, .int .i64 mA.part, .int .i64 mA.flow, .int .i64 mA.idle, .int .i64 mA.drive, .int .i64 mA.battery, .int .i64 mA.deadline, .slice aaA laA.length (laA.length + caA), .slice atA ltA.length (ltA.length + ctA)] 72 from Has.new w1 #[.slice a1A mA.ways.length (mA.ways.length + c1A), .slice a2A mA.home.length (mA.home.length + c2A), .int .i64 mA.start, .slice a3A mA.rocks.length (mA.rocks.length + c3A), .int .i64 mA.speed, .int .i64 mA.part, .int .i64 mA.flow, .int .i64 mA.idle, .int .i64 mA.drive, .int .i64 mA.battery, .int .i64 mA.deadline, .slice aaA laA.length (laA.length + caA), .slice atA ltA.length (ltA.length + ctA)] 72)
  have BX1 := Lib.hid (B1.out.trans ((((Below.refl w1.heap.size w1).alloc (Nat.le_refl _) (.cells #[.slice a1A mA.ways.length (mA.ways.length + c1A), .slice a2A mA.home.length (mA.home.length + c2A), .int .i64 mA.start, .slice a3A mA.rocks.length (mA.rocks.length + c3A), .int .i64 mA.speed, .int .i64 mA.part, .int .i64 mA.flow, .int .i64 mA.idle, .int .i64 mA.drive, .int .i64 mA.battery, .int .i64 mA.deadline, .slice aaA laA.length (laA.length + caA), .slice atA ltA.length (ltA.length + ctA)] 72))).mono B1.out.size))
  generalize hXX1 : (w1.alloc (.cells #[.slice a1A mA.ways.length (mA.ways.length + c1A), .slice a2A mA.home.length (mA.home.length + c2A), .int .i64 mA.start, .slice a3A mA.rocks.length (mA.rocks.length + c3A), .int .i64 mA.speed, .int .i64 mA.part, .int .i64 mA.flow, .int .i64 mA.idle, .int .i64 mA.drive, .int .i64 mA.battery, .int .i64 mA.deadline, .slice aaA laA.length (laA.length + caA), .slice atA ltA.length (ltA.length + ctA)] 72)) = X1 at *
  clear hXX1
  clear d0 d1 d2 d3 d4 d5 d6 d7 d8 d9 d10
  refine (f2.out _ OM.out OL.out).mono ?_
  rintro e w2 ⟨mB, vwB, vhB, vrB, vaB, vtB, laB, ltB, rfl, p2, q2, r2, s2, b2⟩
  have B2 := Lib.hid (BX1.out.trans (b2.mono BX1.out.size))
  replace MM := Lib.hid ((MM.out.below b2).mono b2.size)
  replace ML := Lib.hid ((ML.out.below b2).mono b2.size)
  replace OM := Lib.hid ((OM.out.below b2).mono b2.size)
  replace OL := Lib.hid ((OL.out.below b2).mono b2.size)
  replace MB := Lib.hid (MB.out.below b2 MB.out.lt)
  replace OB := Lib.hid (OB.out.below b2 OB.out.lt)
  replace VA := Lib.hid ((VA.out.below b2).mono b2.size)
  replace AAA := Lib.hid ((AAA.out.below b2).mono b2.size)
  replace TAA := Lib.hid ((TAA.out.below b2).mono b2.size)
  replace RA := Lib.hid (RA.out.below b2 RA.out.lt)
  have VB := Lib.hid p2
  have AAB := Lib.hid q2
  have TAB := Lib.hid r2
  have EQB := Lib.hid s2
  obtain ⟨⟨-, a1B, c1B, h1, -⟩, ⟨-, a2B, c2B, h2, -⟩, ⟨-, a3B, c3B, h3, -⟩⟩ := p2
  subst h1 h2 h3
  obtain ⟨-, aaB, caB, h1, -⟩ := q2
  subst h1
  obtain ⟨-, atB, ctB, h1, -⟩ := r2
  subst h1
  clear s2
  unfold vehCells
  clear b2
  obtain ⟨⟨h1, h2, h3, h4⟩, h5, h6⟩ := EQA.out trivial
  replace h1 := h1.symm
  subst h1
  subst h5
  subst h6
  simp only [Value.slice.injEq, true_and, Nat.add_left_cancel_iff] at h2 h3 h4
  obtain ⟨h7, h8⟩ := h2
  replace h7 := h7.symm
  replace h8 := h8.symm
  subst h7
  subst h8
  obtain ⟨h7, h8⟩ := h3
  replace h7 := h7.symm
  replace h8 := h8.symm
  subst h7
  subst h8
  obtain ⟨h7, h8⟩ := h4
  replace h7 := h7.symm
  replace h8 := h8.symm
  subst h7
  subst h8
  clear EQA
  obtain ⟨⟨h1, h2, h3, h4⟩, h5, h6⟩ := EQB.out trivial
  replace h1 := h1.symm
  subst h1
  subst h5
  subst h6
  simp only [Value.slice.injEq, true_and, Nat.add_left_cancel_iff] at h2 h3 h4
  obtain ⟨h7, h8⟩ := h2
  replace h7 := h7.symm
  replace h8 := h8.symm
  subst h7
  subst h8
  obtain ⟨h7, h8⟩ := h3
  replace h7 := h7.symm
  replace h8 := h8.symm
  subst h7
  subst h8
  obtain ⟨h7, h8⟩ := h4
  replace h7 := h7.symm
  replace h8 := h8.symm
  subst h7
  subst h8
  clear EQB
  clear MM OM ML OL f1 f2 MB OB
  go_wp2_with fail
  replace VA := Lib.hid ((VA.out.below ((Below.refl w2.heap.size w2).alloc (Nat.le_refl _) (.cells #[.slice a1o o.ways.length (o.ways.length + c1o), .slice a2o o.home.length (o.home.length + c2o), .int .i64 o.start, .slice a3o o.rocks.length (o.rocks.length + c3o), .int .i64 o.speed, .int .i64 o.part, .int .i64 o.flow, .int .i64 o.idle, .int .i64 o.drive, .int .i64 o.battery, .int .i64 o.deadline, .slice aaB (rdAU o lo).length ((rdAU o lo).length + caB), .slice atB (usedT o lo).length ((usedT o lo).length + ctB)] 72))).mono ((Below.refl w2.heap.size w2).alloc (Nat.le_refl _) (.cells #[.slice a1o o.ways.length (o.ways.length + c1o), .slice a2o o.home.length (o.home.length + c2o), .int .i64 o.start, .slice a3o o.rocks.length (o.rocks.length + c3o), .int .i64 o.speed, .int .i64 o.part, .int .i64 o.flow, .int .i64 o.idle, .int .i64 o.drive, .int .i64 o.battery, .int .i64 o.deadline, .slice aaB (rdAU o lo).length ((rdAU o lo).length + caB), .slice atB (usedT o lo).length ((usedT o lo).length + ctB)] 72)).size)
  replace AAA := Lib.hid ((AAA.out.below ((Below.refl w2.heap.size w2).alloc (Nat.le_refl _) (.cells #[.slice a1o o.ways.length (o.ways.length + c1o), .slice a2o o.home.length (o.home.length + c2o), .int .i64 o.start, .slice a3o o.rocks.length (o.rocks.length + c3o), .int .i64 o.speed, .int .i64 o.part, .int .i64 o.flow, .int .i64 o.idle, .int .i64 o.drive, .int .i64 o.battery, .int .i64 o.deadline, .slice aaB (rdAU o lo).length ((rdAU o lo).length + caB), .slice atB (usedT o lo).length ((usedT o lo).length + ctB)] 72))).mono ((Below.refl w2.heap.size w2).alloc (Nat.le_refl _) (.cells #[.slice a1o o.ways.length (o.ways.length + c1o), .slice a2o o.home.length (o.home.length + c2o), .int .i64 o.start, .slice a3o o.rocks.length (o.rocks.length + c3o), .int .i64 o.speed, .int .i64 o.part, .int .i64 o.flow, .int .i64 o.idle, .int .i64 o.drive, .int .i64 o.battery, .int .i64 o.deadline, .slice aaB (rdAU o lo).length ((rdAU o lo).length + caB), .slice atB (usedT o lo).length ((usedT o lo).length + ctB)] 72)).size)
  replace TAA := Lib.hid ((TAA.out.below ((Below.refl w2.heap.size w2).alloc (Nat.le_refl _) (.cells #[.slice a1o o.ways.length (o.ways.length + c1o), .slice a2o o.home.length (o.home.length + c2o), .int .i64 o.start, .slice a3o o.rocks.length (o.rocks.length + c3o), .int .i64 o.speed, .int .i64 o.part, .int .i64 o.flow, .int .i64 o.idle, .int .i64 o.drive, .int .i64 o.battery, .int .i64 o.deadline, .slice aaB (rdAU o lo).length ((rdAU o lo).length + caB), .slice atB (usedT o lo).length ((usedT o lo).length + ctB)] 72))).mono ((Below.refl w2.heap.size w2).alloc (Nat.le_refl _) (.cells #[.slice a1o o.ways.length (o.ways.length + c1o), .slice a2o o.home.length (o.home.length + c2o), .int .i64 o.start, .slice a3o o.rocks.length (o.rocks.length + c3o), .int .i64 o.speed, .int .i64 o.part, .int .i64 o.flow, .int .i64 o.idle, .int .i64 o.drive, .int .i64 o.battery, .int .i64 o.deadline, .slice aaB (rdAU o lo).length ((rdAU o lo).length + caB), .slice atB (usedT o lo).length ((usedT o lo).length + ctB)] 72)).size)
  replace RA := Lib.hid (RA.out.below ((Below.refl w2.heap.size w2).alloc (Nat.le_refl _) (.cells #[.slice a1o o.ways.length (o.ways.length + c1o), .slice a2o o.home.length (o.home.length + c2o), .int .i64 o.start, .slice a3o o.rocks.length (o.rocks.length + c3o), .int .i64 o.speed, .int .i64 o.part, .int .i64 o.flow, .int .i64 o.idle, .int .i64 o.drive, .int .i64 o.battery, .int .i64 o.deadline, .slice aaB (rdAU o lo).length ((rdAU o lo).length + caB), .slice atB (usedT o lo).length ((usedT o lo).length + ctB)] 72)) RA.out.lt)
  replace VB := Lib.hid ((VB.out.below ((Below.refl w2.heap.size w2).alloc (Nat.le_refl _) (.cells #[.slice a1o o.ways.length (o.ways.length + c1o), .slice a2o o.home.length (o.home.length + c2o), .int .i64 o.start, .slice a3o o.rocks.length (o.rocks.length + c3o), .int .i64 o.speed, .int .i64 o.part, .int .i64 o.flow, .int .i64 o.idle, .int .i64 o.drive, .int .i64 o.battery, .int .i64 o.deadline, .slice aaB (rdAU o lo).length ((rdAU o lo).length + caB), .slice atB (usedT o lo).length ((usedT o lo).length + ctB)] 72))).mono ((Below.refl w2.heap.size w2).alloc (Nat.le_refl _) (.cells #[.slice a1o o.ways.length (o.ways.length + c1o), .slice a2o o.home.length (o.home.length + c2o), .int .i64 o.start, .slice a3o o.rocks.length (o.rocks.length + c3o), .int .i64 o.speed, .int .i64 o.part, .int .i64 o.flow, .int .i64 o.idle, .int .i64 o.drive, .int .i64 o.battery, .int .i64 o.deadline, .slice aaB (rdAU o lo).length ((rdAU o lo).length + caB), .slice atB (usedT o lo).length ((usedT o lo).length + ctB)] 72)).size)
  replace AAB := Lib.hid ((AAB.out.below ((Below.refl w2.heap.size w2).alloc (Nat.le_refl _) (.cells #[.slice a1o o.ways.length (o.ways.length + c1o), .slice a2o o.home.length (o.home.length + c2o), .int .i64 o.start, .slice a3o o.rocks.length (o.rocks.length + c3o), .int .i64 o.speed, .int .i64 o.part, .int .i64 o.flow, .int .i64 o.idle, .int .i64 o.drive, .int .i64 o.battery, .int .i64 o.deadline, .slice aaB (rdAU o lo).length ((rdAU o lo).length + caB), .slice atB (usedT o lo).length ((usedT o lo).length + ctB)] 72))).mono ((Below.refl w2.heap.size w2).alloc (Nat.le_refl _) (.cells #[.slice a1o o.ways.length (o.ways.length + c1o), .slice a2o o.home.length (o.home.length + c2o), .int .i64 o.start, .slice a3o o.rocks.length (o.rocks.length + c3o), .int .i64 o.speed, .int .i64 o.part, .int .i64 o.flow, .int .i64 o.idle, .int .i64 o.drive, .int .i64 o.battery, .int .i64 o.deadline, .slice aaB (rdAU o lo).length ((rdAU o lo).length + caB), .slice atB (usedT o lo).length ((usedT o lo).length + ctB)] 72)).size)
  replace TAB := Lib.hid ((TAB.out.below ((Below.refl w2.heap.size w2).alloc (Nat.le_refl _) (.cells #[.slice a1o o.ways.length (o.ways.length + c1o), .slice a2o o.home.length (o.home.length + c2o), .int .i64 o.start, .slice a3o o.rocks.length (o.rocks.length + c3o), .int .i64 o.speed, .int .i64 o.part, .int .i64 o.flow, .int .i64 o.idle, .int .i64 o.drive, .int .i64 o.battery, .int .i64 o.deadline, .slice aaB (rdAU o lo).length ((rdAU o lo).length + caB), .slice atB (usedT o lo).length ((usedT o lo).length + ctB)] 72))).mono ((Below.refl w2.heap.size w2).alloc (Nat.le_refl _) (.cells #[.slice a1o o.ways.length (o.ways.length + c1o), .slice a2o o.home.length (o.home.length + c2o), .int .i64 o.start, .slice a3o o.rocks.length (o.rocks.length + c3o), .int .i64 o.speed, .int .i64 o.part, .int .i64 o.flow, .int .i64 o.idle, .int .i64 o.drive, .int .i64 o.battery, .int .i64 o.deadline, .slice aaB (rdAU o lo).length ((rdAU o lo).length + caB), .slice atB (usedT o lo).length ((usedT o lo).length + ctB)] 72)).size)
  have RB := Lib.hid (show Has (w2.alloc (.cells #[.slice a1o o.ways.length (o.ways.length + c1o), .slice a2o o.home.length (o.home.length + c2o), .int .i64 o.start, .slice a3o o.rocks.length (o.rocks.length + c3o), .int .i64 o.speed, .int .i64 o.part, .int .i64 o.flow, .int .i64 o.idle, .int .i64 o.drive, .int .i64 o.battery, .int .i64 o.deadline, .slice aaB (rdAU o lo).length ((rdAU o lo).length + caB), .slice atB (usedT o lo).length ((usedT o lo).length + ctB)] 72)) w2.heap.size #[.slice a1o o.ways.length (o.ways.length + c1o), .slice a2o o.home.length (o.home.length + c2o), .int .i64 o.start, .slice a3o o.rocks.length (o.rocks.length + c3o), .int .i64 o.speed, .int .i64 o.part, .int .i64 o.flow, .int .i64 o.idle, .int .i64 o.drive, .int .i64 o.battery, .int .i64 o.deadline, .slice aaB (rdAU o lo).length ((rdAU o lo).length + caB), .slice atB (usedT o lo).length ((usedT o lo).length + ctB)] 72 from Has.new w2 #[.slice a1o o.ways.length (o.ways.length + c1o), .slice a2o o.home.length (o.home.length + c2o), .int .i64 o.start, .slice a3o o.rocks.length (o.rocks.length + c3o), .int .i64 o.speed, .int .i64 o.part, .int .i64 o.flow, .int .i64 o.idle, .int .i64 o.drive, .int .i64 o.battery, .int .i64 o.deadline, .slice aaB (rdAU o lo).length ((rdAU o lo).length + caB), .slice atB (usedT o lo).length ((usedT o lo).length + ctB)] 72)
  have BX2 := Lib.hid (B2.out.trans ((((Below.refl w2.heap.size w2).alloc (Nat.le_refl _) (.cells #[.slice a1o o.ways.length (o.ways.length + c1o), .slice a2o o.home.length (o.home.length + c2o), .int .i64 o.start, .slice a3o o.rocks.length (o.rocks.length + c3o), .int .i64 o.speed, .int .i64 o.part, .int .i64 o.flow, .int .i64 o.idle, .int .i64 o.drive, .int .i64 o.battery, .int .i64 o.deadline, .slice aaB (rdAU o lo).length ((rdAU o lo).length + caB), .slice atB (usedT o lo).length ((usedT o lo).length + ctB)] 72))).mono B2.out.size))
  generalize hXX2 : (w2.alloc (.cells #[.slice a1o o.ways.length (o.ways.length + c1o), .slice a2o o.home.length (o.home.length + c2o), .int .i64 o.start, .slice a3o o.rocks.length (o.rocks.length + c3o), .int .i64 o.speed, .int .i64 o.part, .int .i64 o.flow, .int .i64 o.idle, .int .i64 o.drive, .int .i64 o.battery, .int .i64 o.deadline, .slice aaB (rdAU o lo).length ((rdAU o lo).length + caB), .slice atB (usedT o lo).length ((usedT o lo).length + ctB)] 72)) = X2 at *
  clear hXX2
  refine (fr.out _).mono ?_
  rintro e w3 ⟨rfl, b3⟩
  have B3 := Lib.hid (BX2.out.trans (b3.mono BX2.out.size))
  replace VA := Lib.hid ((VA.out.below b3).mono b3.size)
  replace AAA := Lib.hid ((AAA.out.below b3).mono b3.size)
  replace TAA := Lib.hid ((TAA.out.below b3).mono b3.size)
  replace RA := Lib.hid (RA.out.below b3 RA.out.lt)
  replace VB := Lib.hid ((VB.out.below b3).mono b3.size)
  replace AAB := Lib.hid ((AAB.out.below b3).mono b3.size)
  replace TAB := Lib.hid ((TAB.out.below b3).mono b3.size)
  replace RB := Lib.hid (RB.out.below b3 RB.out.lt)
  clear b3
  go_wp2_with fail
  refine (fw.out _).mono ?_
  rintro e w4 ⟨rfl, b4⟩
  have B4 := Lib.hid (B3.out.trans (b4.mono B3.out.size))
  replace VA := Lib.hid ((VA.out.below b4).mono b4.size)
  replace AAA := Lib.hid ((AAA.out.below b4).mono b4.size)
  replace TAA := Lib.hid ((TAA.out.below b4).mono b4.size)
  replace RA := Lib.hid (RA.out.below b4 RA.out.lt)
  replace VB := Lib.hid ((VB.out.below b4).mono b4.size)
  replace AAB := Lib.hid ((AAB.out.below b4).mono b4.size)
  replace TAB := Lib.hid ((TAB.out.below b4).mono b4.size)
  replace RB := Lib.hid (RB.out.below b4 RB.out.lt)
  clear b4
  have hzo := B4.out.size
  have q0 := (RA.out.below ((Below.refl w4.heap.size w4).alloc (Nat.le_refl _) (.cells #[.slice none 0 0] 67)) RA.out.lt)
  have q1 := (RB.out.below ((Below.refl w4.heap.size w4).alloc (Nat.le_refl _) (.cells #[.slice none 0 0] 67)) RB.out.lt)
  have rA0 := q0.cell (i := 0) rfl
  have rB0 := q1.cell (i := 0) rfl
  have rA1 := q0.cell (i := 1) rfl
  have rB1 := q1.cell (i := 1) rfl
  have rA2 := q0.cell (i := 2) rfl
  have rB2 := q1.cell (i := 2) rfl
  have rA3 := q0.cell (i := 3) rfl
  have rB3 := q1.cell (i := 3) rfl
  have rA4 := q0.cell (i := 4) rfl
  have rB4 := q1.cell (i := 4) rfl
  have rA5 := q0.cell (i := 5) rfl
  have rB5 := q1.cell (i := 5) rfl
  have rA6 := q0.cell (i := 6) rfl
  have rB6 := q1.cell (i := 6) rfl
  have rA7 := q0.cell (i := 7) rfl
  have rB7 := q1.cell (i := 7) rfl
  have rA8 := q0.cell (i := 8) rfl
  have rB8 := q1.cell (i := 8) rfl
  have rA9 := q0.cell (i := 9) rfl
  have rB9 := q1.cell (i := 9) rfl
  have rA10 := q0.cell (i := 10) rfl
  have rB10 := q1.cell (i := 10) rfl
  have rA11 := q0.cell (i := 11) rfl
  have rB11 := q1.cell (i := 11) rfl
  have rA12 := q0.cell (i := 12) rfl
  have rB12 := q1.cell (i := 12) rfl
  have VAo := Lib.hid (VA.out.below ((Below.refl w4.heap.size w4).alloc (Nat.le_refl _) (.cells #[.slice none 0 0] 67)))
  have AAAo := Lib.hid (AAA.out.below ((Below.refl w4.heap.size w4).alloc (Nat.le_refl _) (.cells #[.slice none 0 0] 67)))
  have TAAo := Lib.hid (TAA.out.below ((Below.refl w4.heap.size w4).alloc (Nat.le_refl _) (.cells #[.slice none 0 0] 67)))
  have VBo := Lib.hid (VB.out.below ((Below.refl w4.heap.size w4).alloc (Nat.le_refl _) (.cells #[.slice none 0 0] 67)))
  have AABo := Lib.hid (AAB.out.below ((Below.refl w4.heap.size w4).alloc (Nat.le_refl _) (.cells #[.slice none 0 0] 67)))
  have TABo := Lib.hid (TAB.out.below ((Below.refl w4.heap.size w4).alloc (Nat.le_refl _) (.cells #[.slice none 0 0] 67)))
  have RAo := Lib.hid q0
  have RBo := Lib.hid q1
  clear q0 q1
  have BO := Lib.hid (show Boxed (w4.alloc (.cells #[.slice none 0 0] 67)) w4.heap.size 67 (.slice none 0 0) from Boxed.new w4 67 (.slice none 0 0))
  have hAo := ((Below.refl w4.heap.size w4).alloc (Nat.le_refl _) (.cells #[.slice none 0 0] 67))
  have RL := Lib.hid (And.intro RA.out.lt RB.out.lt)
  clear RA RB VA AAA TAA VB AAB TAB
  have BX3 := Lib.hid (B4.out.trans (hAo.mono B4.out.size))
  go_wp2_with fail
  have hz3 : ((w4.alloc (.cells #[.slice none 0 0] 67))).heap.size = w4.heap.size + 1 := by simp
  generalize hX3 : (w4.alloc (.cells #[.slice none 0 0] 67)) = X3 at *
  clear hX3
  generalize hnb : w4.heap.size = nb at *
  refine (ttrysts_any _ _ _ _ _).mono ?_
  rintro e W0 ⟨rfl, hW0⟩
  have hzz : W0.heap.size = X3.heap.size + 4 := by rw [hW0]; simp
  have hB0 : Below X3.heap.size X3 W0 := by rw [hW0]; exact ((((Below.refl X3.heap.size X3).alloc (Nat.le_refl _) _).alloc (by simp) _).alloc (by simp; omega) _).alloc (by simp; omega) _
  have K1 : Has W0 (X3.heap.size) #[.slice a1 m.ways.length (m.ways.length + c1), .slice a2 m.home.length (m.home.length + c2), .int .i64 m.start, .slice a3 m.rocks.length (m.rocks.length + c3), .int .i64 m.speed, .int .i64 m.part, .int .i64 m.flow, .int .i64 m.idle, .int .i64 m.drive, .int .i64 m.battery, .int .i64 m.deadline, .slice aaA (rdAU m l).length ((rdAU m l).length + caA), .slice atA (usedT m l).length ((usedT m l).length + ctA)] 72 := by
    have q := Has.new X3 #[.slice a1 m.ways.length (m.ways.length + c1), .slice a2 m.home.length (m.home.length + c2), .int .i64 m.start, .slice a3 m.rocks.length (m.rocks.length + c3), .int .i64 m.speed, .int .i64 m.part, .int .i64 m.flow, .int .i64 m.idle, .int .i64 m.drive, .int .i64 m.battery, .int .i64 m.deadline, .slice aaA (rdAU m l).length ((rdAU m l).length + caA), .slice atA (usedT m l).length ((usedT m l).length + ctA)] 72
    have q := q.below ((Below.refl (X3.heap.size + 1) _).alloc (by simp) (.cells #[.slice a1o o.ways.length (o.ways.length + c1o), .slice a2o o.home.length (o.home.length + c2o), .int .i64 o.start, .slice a3o o.rocks.length (o.rocks.length + c3o), .int .i64 o.speed, .int .i64 o.part, .int .i64 o.flow, .int .i64 o.idle, .int .i64 o.drive, .int .i64 o.battery, .int .i64 o.deadline, .slice aaB (rdAU o lo).length ((rdAU o lo).length + caB), .slice atB (usedT o lo).length ((usedT o lo).length + ctB)] 72)) (by omega)
    have q := q.below ((Below.refl (X3.heap.size + 2) _).alloc (by simp) (.cells #[.int .i64 R] 3)) (by omega)
    have q := q.below ((Below.refl (X3.heap.size + 3) _).alloc (by simp) (.cells #[.int .i64 Wt] 3)) (by omega)
    rw [hW0]
    exact q
  have K2 : Has W0 (X3.heap.size + 1) #[.slice a1o o.ways.length (o.ways.length + c1o), .slice a2o o.home.length (o.home.length + c2o), .int .i64 o.start, .slice a3o o.rocks.length (o.rocks.length + c3o), .int .i64 o.speed, .int .i64 o.part, .int .i64 o.flow, .int .i64 o.idle, .int .i64 o.drive, .int .i64 o.battery, .int .i64 o.deadline, .slice aaB (rdAU o lo).length ((rdAU o lo).length + caB), .slice atB (usedT o lo).length ((usedT o lo).length + ctB)] 72 := by
    have q := Has.new (X3.alloc (.cells #[.slice a1 m.ways.length (m.ways.length + c1), .slice a2 m.home.length (m.home.length + c2), .int .i64 m.start, .slice a3 m.rocks.length (m.rocks.length + c3), .int .i64 m.speed, .int .i64 m.part, .int .i64 m.flow, .int .i64 m.idle, .int .i64 m.drive, .int .i64 m.battery, .int .i64 m.deadline, .slice aaA (rdAU m l).length ((rdAU m l).length + caA), .slice atA (usedT m l).length ((usedT m l).length + ctA)] 72)) #[.slice a1o o.ways.length (o.ways.length + c1o), .slice a2o o.home.length (o.home.length + c2o), .int .i64 o.start, .slice a3o o.rocks.length (o.rocks.length + c3o), .int .i64 o.speed, .int .i64 o.part, .int .i64 o.flow, .int .i64 o.idle, .int .i64 o.drive, .int .i64 o.battery, .int .i64 o.deadline, .slice aaB (rdAU o lo).length ((rdAU o lo).length + caB), .slice atB (usedT o lo).length ((usedT o lo).length + ctB)] 72
    rw [World.size_alloc] at q
    have q := q.below ((Below.refl (X3.heap.size + 2) _).alloc (by simp) (.cells #[.int .i64 R] 3)) (by omega)
    have q := q.below ((Below.refl (X3.heap.size + 3) _).alloc (by simp) (.cells #[.int .i64 Wt] 3)) (by omega)
    rw [hW0]
    exact q
  have K3 : Has W0 (X3.heap.size + 1 + 1) #[.int .i64 R] 3 := by
    have q := Has.new ((X3.alloc (.cells #[.slice a1 m.ways.length (m.ways.length + c1), .slice a2 m.home.length (m.home.length + c2), .int .i64 m.start, .slice a3 m.rocks.length (m.rocks.length + c3), .int .i64 m.speed, .int .i64 m.part, .int .i64 m.flow, .int .i64 m.idle, .int .i64 m.drive, .int .i64 m.battery, .int .i64 m.deadline, .slice aaA (rdAU m l).length ((rdAU m l).length + caA), .slice atA (usedT m l).length ((usedT m l).length + ctA)] 72)).alloc (.cells #[.slice a1o o.ways.length (o.ways.length + c1o), .slice a2o o.home.length (o.home.length + c2o), .int .i64 o.start, .slice a3o o.rocks.length (o.rocks.length + c3o), .int .i64 o.speed, .int .i64 o.part, .int .i64 o.flow, .int .i64 o.idle, .int .i64 o.drive, .int .i64 o.battery, .int .i64 o.deadline, .slice aaB (rdAU o lo).length ((rdAU o lo).length + caB), .slice atB (usedT o lo).length ((usedT o lo).length + ctB)] 72)) #[.int .i64 R] 3
    rw [World.size_alloc, World.size_alloc] at q
    have q := q.below ((Below.refl (X3.heap.size + 3) _).alloc (by simp) (.cells #[.int .i64 Wt] 3)) (by omega)
    rw [hW0]
    exact q
  have K4 : Has W0 (X3.heap.size + 1 + 1 + 1) #[.int .i64 Wt] 3 := by
    have q := Has.new (((X3.alloc (.cells #[.slice a1 m.ways.length (m.ways.length + c1), .slice a2 m.home.length (m.home.length + c2), .int .i64 m.start, .slice a3 m.rocks.length (m.rocks.length + c3), .int .i64 m.speed, .int .i64 m.part, .int .i64 m.flow, .int .i64 m.idle, .int .i64 m.drive, .int .i64 m.battery, .int .i64 m.deadline, .slice aaA (rdAU m l).length ((rdAU m l).length + caA), .slice atA (usedT m l).length ((usedT m l).length + ctA)] 72)).alloc (.cells #[.slice a1o o.ways.length (o.ways.length + c1o), .slice a2o o.home.length (o.home.length + c2o), .int .i64 o.start, .slice a3o o.rocks.length (o.rocks.length + c3o), .int .i64 o.speed, .int .i64 o.part, .int .i64 o.flow, .int .i64 o.idle, .int .i64 o.drive, .int .i64 o.battery, .int .i64 o.deadline, .slice aaB (rdAU o lo).length ((rdAU o lo).length + caB), .slice atB (usedT o lo).length ((usedT o lo).length + ctB)] 72)).alloc (.cells #[.int .i64 R] 3)) #[.int .i64 Wt] 3
    rw [World.size_alloc, World.size_alloc, World.size_alloc] at q
    rw [hW0]
    exact q
  have k1 := K1.cell (i := 0) rfl
  have k2 := K2.cell (i := 0) rfl
  have k3 := K3.cell (i := 0) rfl
  have k4 := K4.cell (i := 0) rfl
  clear hW0 K1 K2 K3 K4
  have BO0 := Boxed.below BO.out hB0 (by omega)
  have BW := Lib.hid (BX3.out.trans (hB0.mono BX3.out.size))
  have VAp := Lib.hid (VAo.out.below (hB0.mono (by omega)))
  clear VAo
  have AAAp := Lib.hid (AAAo.out.below (hB0.mono (by omega)))
  clear AAAo
  have TAAp := Lib.hid (TAAo.out.below (hB0.mono (by omega)))
  clear TAAo
  have VBp := Lib.hid (VBo.out.below (hB0.mono (by omega)))
  clear VBo
  have AABp := Lib.hid (AABo.out.below (hB0.mono (by omega)))
  clear AABo
  have TABp := Lib.hid (TABo.out.below (hB0.mono (by omega)))
  clear TABo
  have RAp := Lib.hid (RAo.out.below hB0 (by have := RL.out; omega))
  have RBp := Lib.hid (RBo.out.below hB0 (by have := RL.out; omega))
  clear RAo RBo BO
  clear rA0 rB0 rA1 rB1 rA2 rB2 rA3 rB3 rA4 rB4 rA5 rB5 rA6 rB6 rA7 rB7 rA8 rB8 rA9 rB9 rA10 rB10 rA11 rB11 rA12 rB12
  go_wp2
  obtain ⟨i0, hi, hz0', hz1', hz2'⟩ := info_parts trInfo
  have hn1 : 0 < m.ways.length := by omega
  have hn2 : 0 < o.ways.length := by omega
  refine (wpIn_wide (n := 9)).1 ?_
  refine wpIn_rangeK rfl (by omega) (gf := 132) (lb := #[.pointer (some ⟨X3.heap.size, 0, none⟩), .pointer (some ⟨X3.heap.size + 1, 0, none⟩), .pointer (some ⟨X3.heap.size + 1 + 1, 0, none⟩), .pointer (some ⟨X3.heap.size + 1 + 1 + 1, 0, none⟩)]) (by go_simp) trivial (enters_of Tryz.func132 (by kernel_rfl) rfl)
    (trysts_stops (fun t : TwoW m o => #[.agg (tryC t.1.1 t.1.2 R Wt)]) (fun k => ⟨((k / o.ways.length) % m.ways.length, k % o.ways.length), ⟨Nat.mod_lt _ hn1, Nat.mod_lt _ hn2⟩⟩) 8 (by omega) (fun b => b < W0.heap.size ∧ b ≠ nb) X3.heap.size (X3.heap.size + 1) (X3.heap.size + 1 + 1) (X3.heap.size + 1 + 1 + 1) m.ways.length o.ways.length _ _ _ _ R Wt (by omega) (by omega) W0 ⟨by omega, by omega⟩ ⟨by omega, by omega⟩ ⟨by omega, by omega⟩ ⟨by omega, by omega⟩ (fun b hb => hb.1) k1 k2 k3 k4 ?hf)
    (fun h k => h.trans k) (fun W l' o o' hl' _ _ _ => KeepsP.putObj o' (fun b hb => by omega)) (Below.refl _ _) (fun _ => rfl)
    (fun pre W => (∃ v, Boxed W nb 67 v ∧ W.ownsRow W0.heap.size 29 4 v ((pre.map (·.1)).filter (fun t : Nat × Nat => meetB m l o lo t.1 t.2 R Wt)).length (trRows R Wt ((pre.map (·.1)).filter (fun t : Nat × Nat => meetB m l o lo t.1 t.2 R Wt))).flatten ∧ True) ∧ Below nb W0 W)
    (fun _ _ _ => False)
    (OwnFrom.and (Own.from (holdsRow_own _ _ _ _ _ _ _ (fun _ _ => True)) _) (ownFrom_below (by omega) (by omega)))
    (fun c => ownFrom_pure _ (fun _ => False))
    ⟨⟨_, BO0, World.ownsRow_nil _ _ _ _, trivial⟩, Below.refl _ _⟩
    (fun T x B => (T.setIfInBounds 53 (.agg (tryC x.1.1 x.1.2 R Wt))).setIfInBounds 19 (.pointer (some ⟨B, 0, none⟩)))
    (fun x B W => Has W B (tryC x.1.1 x.1.2 R Wt) 29)
    (fun x B => ownFrom_has _ _ _ _)
    ?assign ?body ?done ?stop
  case hf =>
    intro i j h1 h2
    have e1 : (i * o.ways.length + j) / o.ways.length = i := by rw [Nat.mul_comm, Nat.mul_add_div hn2, Nat.div_eq_of_lt h2]; omega
    have e2 : (i * o.ways.length + j) % o.ways.length = j := by rw [Nat.mul_comm, Nat.mul_add_mod]; exact Nat.mod_eq_of_lt h2
    simp only [e1, e2, Nat.mod_eq_of_lt h1]
  case assign =>
    rintro ll pre x W K ⟨⟨v, hv1, hv2, -⟩, hB1⟩ hK
    have hzW := hB1.size
    simp only [List.setIfInBounds_toArray, List.set_cons_zero, List.set_cons_succ] at hK
    unfold tryC at hK ⊢
    have hKK := Lib.hid hK
    clear hK
    gi_wp2
    have HN := Has.new W #[.int .i64 x.1.1, .int .i64 x.1.2, .int .i64 R, .int .i64 Wt] 29
    exact hKK.out _ _ ((KeepsOthers.alloc _ _).from _) (KeepsP.of_below ((Below.refl W0.heap.size W).alloc (by omega) _) (fun b hb => hb.1)) ⟨⟨v, hv1.alloc _, hv2.alloc _, trivial⟩, hB1.alloc (by omega) _⟩ HN
  case body =>
    rintro ll pre ⟨⟨i, j⟩, hij⟩ B W hll ⟨r, hr⟩ ⟨⟨v, hv1, hv2, -⟩, hB1⟩ hH hlt
    simp only at hij hH ⊢
    have hll' := Lib.hid hll
    have hr' := Lib.hid hr
    have hzW := hB1.size
    have HH := Lib.hid hH
    have HB1 := Lib.hid hB1
    have HV := Lib.hid (And.intro hv1 hv2)
    have hBT := hH.lt
    have hNB := hv1.lt
    unfold tryC at hH
    have t0 := hH.cell (i := 0) rfl
    have t1 := hH.cell (i := 1) rfl
    have t2 := hH.cell (i := 2) rfl
    have t3 := hH.cell (i := 3) rfl
    have rA := RAp.out.below hB1 RL.out.1
    have rB := RBp.out.below hB1 RL.out.2
    have rA0 := rA.cell (i := 0) rfl
    have rB0 := rB.cell (i := 0) rfl
    have rA1 := rA.cell (i := 1) rfl
    have rB1 := rB.cell (i := 1) rfl
    have rA2 := rA.cell (i := 2) rfl
    have rB2 := rB.cell (i := 2) rfl
    have rA3 := rA.cell (i := 3) rfl
    have rB3 := rB.cell (i := 3) rfl
    have rA4 := rA.cell (i := 4) rfl
    have rB4 := rB.cell (i := 4) rfl
    have rA5 := rA.cell (i := 5) rfl
    have rB5 := rB.cell (i := 5) rfl
    have rA6 := rA.cell (i := 6) rfl
    have rB6 := rB.cell (i := 6) rfl
    have rA7 := rA.cell (i := 7) rfl
    have rB7 := rB.cell (i := 7) rfl
    have rA8 := rA.cell (i := 8) rfl
    have rB8 := rB.cell (i := 8) rfl
    have rA9 := rA.cell (i := 9) rfl
    have rB9 := rB.cell (i := 9) rfl
    have rA10 := rA.cell (i := 10) rfl
    have rB10 := rB.cell (i := 10) rfl
    have rA11 := rA.cell (i := 11) rfl
    have rB11 := rB.cell (i := 11) rfl
    have rA12 := rA.cell (i := 12) rfl
    have rB12 := rB.cell (i := 12) rfl
    have g1 := (VAp.out.below hB1).mono (show nb ≤ W.heap.size by omega)
    have g2 := (AAAp.out.below hB1).mono (show nb ≤ W.heap.size by omega)
    have g3 := (TAAp.out.below hB1).mono (show nb ≤ W.heap.size by omega)
    have g4 := (VBp.out.below hB1).mono (show nb ≤ W.heap.size by omega)
    have g5 := (AABp.out.below hB1).mono (show nb ≤ W.heap.size by omega)
    have g6 := (TABp.out.below hB1).mono (show nb ≤ W.heap.size by omega)
    have fm := Lib.hid (FM.out _ _ _ _ i j hij.1 hij.2 W g1 g2 g3 g4 g5 g6)
    have hsel : Hid (((pre ++ [(⟨(i, j), hij⟩ : TwoW m o)]).map (·.1)).filter (fun t : Nat × Nat => meetB m l o lo t.1 t.2 R Wt) = (pre.map (·.1)).filter (fun t : Nat × Nat => meetB m l o lo t.1 t.2 R Wt) ++ (if meetB m l o lo i j R Wt = true then [(i, j)] else [])) := by
      show _ = _
      rw [List.map_append, List.filter_append]
      congr 1
      simp only [List.map_cons, List.map_nil, List.filter_cons, List.filter_nil]
    have hlen : ((pre.map (·.1)).filter (fun t : Nat × Nat => meetB m l o lo t.1 t.2 R Wt)).length ≤ 1681 := by
      refine Nat.le_trans (List.length_filter_le _ _) ?_
      rw [List.length_map]
      have : m.ways.length * o.ways.length ≤ 41 * 41 := Nat.mul_le_mul n41 n41o
      omega
    clear g1 g2 g3 g4 g5 g6 rA rB hH hB1 hv1 hv2 hll hr
    generalize hmt : meetB m l o lo i j R Wt = mb at *
    have hmtH := Lib.hid hmt
    clear hmt
    unfold vehCells at fm
    cases mb
    · gi_wp2_with fail
      refine ⟨trivial, ?_⟩
      refine (CallsIn.inRound ll (callsIn_wide.2 fm.out)).mono ?_
      rintro e w4 ⟨rfl, hb4⟩
      have HB4 := Lib.hid hb4
      clear hb4
      gi_wp2
      have hb4 := HB4.out
      refine ⟨keeps_of_below hb4, KeepsP.of_below hb4 (fun b hb => Nat.lt_of_lt_of_le hb.1 hzW), ⟨v, Boxed.below HV.out.1 hb4 hNB, ?_, trivial⟩, HB1.out.trans (hb4.mono (by omega))⟩
      rw [hsel.out]
      simp only [if_neg Bool.false_ne_true, List.append_nil]
      exact prow_below HV.out.2 hb4
    · gi_wp2_with fail
      refine ⟨trivial, ?_⟩
      refine (CallsIn.inRound ll (callsIn_wide.2 fm.out)).mono ?_
      rintro e w4 ⟨rfl, hb4⟩
      have hz4 := hb4.size
      have hv4 := Boxed.below HV.out.1 hb4 hNB
      have hr4 := prow_below HV.out.2 hb4
      have hvc := hv4.cell
      have hH4 := HH.out.below hb4 hBT
      unfold tryC at hH4
      have t0' := hH4.cell (i := 0) rfl
      have t1' := hH4.cell (i := 1) rfl
      have t2' := hH4.cell (i := 2) rfl
      have t3' := hH4.cell (i := 3) rfl
      have HV4 := Lib.hid (And.intro hv4 hr4)
      have HB4 := Lib.hid hb4
      clear hb4 hv4 hr4 hH4
      clear t0 t1 t2 t3 rA0 rB0 rA1 rB1 rA2 rB2 rA3 rB3 rA4 rB4 rA5 rB5 rA6 rB6 rA7 rB7 rA8 rB8 rA9 rB9 rA10 rB10 rA11 rB11 rA12 rB12
      gi_wp2_with (gi_at_builtin; refine wpListIn_append_own _ rfl _ _ 67 rfl W0.heap.size 29 i0 (.agg #[.int .i64 0, .int .i64 0, .int .i64 0, .int .i64 0]) 4 32 Tryz.underlying67 hi hz0' hz1' hz2' rfl (by decide) _ _ _ rfl (HV4.out.2.alloc _) ⟨w4.heap.size, 0, none⟩ 1 1 [.int .i64 i, .int .i64 j, .int .i64 R, .int .i64 Wt] rfl rfl (two_new _ _ _ _ _ _) (by simp [Value.oneCell']) (by unfold maxLen; omega) (by omega) (by simp; omega) ?_; intro v' w3 hown' hgrow _; obtain ⟨g', cap', rfl⟩ := ownsRow_succ hown'; obtain ⟨hv1, hv2, hr2, hk2, hb2, hs2, hp2⟩ := own_appendS (m0 := nb) HV4.out.1 HV4.out.2 (by omega) (by omega) (Nat.le_refl _) hown' hgrow; have hc1 := hv1.cell; have hf1 := hv1.frozen)
      refine ⟨(keeps_of_below HB4.out).trans (hk2.from _), (KeepsP.of_below HB4.out (fun b hb => Nat.lt_of_lt_of_le hb.1 hzW)).trans ⟨hs2, fun b hb => hp2 b hb.1 hb.2⟩, ⟨_, hv2, ?_, trivial⟩, HB1.out.trans ((HB4.out.mono (by omega)).trans hb2)⟩
      rw [hsel.out]
      simp only [if_true, List.length_append, List.length_cons, List.length_nil, trRows, List.map_append, List.map_cons, List.map_nil, List.flatten_append, List.flatten_cons, List.flatten_nil, List.append_nil]
      exact hr2
  case done =>
    rintro D ys W hD rfl ⟨⟨v, hv, hrow, -⟩, hB⟩ hK
    have hrw : ((upto (fun k => (⟨((k / o.ways.length) % m.ways.length, k % o.ways.length), ⟨Nat.mod_lt _ hn1, Nat.mod_lt _ hn2⟩⟩ : TwoW m o)) (m.ways.length * o.ways.length)).map (·.1)).filter (fun t : Nat × Nat => meetB m l o lo t.1 t.2 R Wt) = trK m l o lo R Wt (m.ways.length * o.ways.length) := by
      unfold trK upto
      rw [List.map_map]
      congr 1
      refine List.map_congr_left fun k hk => ?_
      have hk' : k < m.ways.length * o.ways.length := List.mem_range.1 hk
      have : k / o.ways.length < m.ways.length := by rw [Nat.div_lt_iff_lt_mul hn2]; exact hk'
      simp only [Function.comp, wayOf, Nat.mod_eq_of_lt this]
    rw [hrw] at hrow
    have hzW := hB.size
    have hlen := trK_len m l o lo R Wt (m.ways.length * o.ways.length)
    have hl2 : m.ways.length * o.ways.length ≤ 41 * 41 := Nat.mul_le_mul n41 n41o
    have hv2 : Boxed (W.putObj D (.deferred none)) nb 67 v := hv.kept (grownBy_putObj' W D _) (fun e' => by cases e'; omega)
    have hr2 := ownsRow_putObj hrow (.deferred none) hK rfl
    have HK := Lib.hid hK
    have hI := RowAt.own hr2 (by omega) (trRows_size _ _ _) (by unfold trRows; rw [List.length_map]; omega)
    have hbf : Below w.heap.size w (W.putObj D (.deferred none)) := (BW.out.trans (hB.mono (by omega))).grown (grownBy_putObj' W D _) (by have := hB.size; have := BW.out.size; omega) (fun j e => by cases e; have := BW.out.size; omega)
    have hcv := hv.cell
    have HI := Lib.hid (And.intro hI (And.intro hbf (And.intro hv2 hr2)))
    clear hK hI hbf hv2 hr2 hlen hl2 hrw
    obtain ⟨_, av, capv, hvv, _⟩ := HI.out.1
    subst hvv
    go_wp2
    refine ⟨by simp, .inl ⟨_, _, rfl, run_takeDeferred HK.out, ?_⟩⟩
    exact ⟨.tuple #[_, .int .i64 0], by simp [results, Tryz.f38, go_sem], _, rfl, HI.out.1, HI.out.2.1⟩
  case stop => rintro D c pre W _ _ hf; exact hf.elim
/-- Ways, of any missions and stops -/
theorem tways_any (m o : Msn) (vw vh vr vl vwo vho vro vlo : Value) (l lo : List Int) (R Wt : Int) (w : World) (hm : MsnAt w.heap.size w m vw vh vr) (hl : IntsAt w.heap.size w vl l) (hmo : MsnAt w.heap.size w o vwo vho vro) (hlo : IntsAt w.heap.size w vlo lo) :
    Calls Tryz.prog 38 #[.agg (msnCells m vw vh vr), .agg (msnCells o vwo vho vro), vl, vlo, .int .i64 R, .int .i64 Wt] w fun e w' => ∃ v, e = .returned (.tuple #[v, .int .i64 (errB (waskB m l o lo R Wt))]) ∧ RowAt 4 w'.heap.size w' v (trRows R Wt (trL m l o lo R Wt)) ∧ Below w.heap.size w w' := by
  cases hE : waskB m l o lo R Wt
  · refine (tways_no m o vw vh vr vl vwo vho vro vlo l lo R Wt w hm hl hmo hlo hE).mono ?_
    rintro e w' ⟨rfl, hb⟩
    have : trL m l o lo R Wt = [] := by simp [trL, hE]
    rw [this]
    exact ⟨_, rfl, RowAt.nil _ _ _, hb⟩
  · exact tways_yes m o vw vh vr vl vwo vho vro vlo l lo R Wt w hm hl hmo hlo hE
end Go.Proofs.YtfbdidfaeplllaaGreat
