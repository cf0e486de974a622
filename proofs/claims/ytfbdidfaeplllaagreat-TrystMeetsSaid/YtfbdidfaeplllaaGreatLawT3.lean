/- Two vehicles that meet are, wherever they are within their radii, not farther from each other than Range, and neither waits longer than Wait for the other one. No condition. -/
import Derived.Test.YtfbdidfaeplllaaGreatBin30
import Derived.Test.YtfbdidfaeplllaaGreatBin27
import Derived.Test.YtfbdidfaeplllaaGreatBin26
import Derived.Test.YtfbdidfaeplllaaGreatBin14
namespace Go.Proofs.YtfbdidfaeplllaaGreat.trystMeets
open Go.ChangeShapes Go.WideShapes Go.ChangeAt Go.RowKit
set_option linter.unusedVariables false
theorem own : ownKnob Tryz.prog.godebug = none := by kernel_rfl
theorem laidOut : laidOutB Tryz.prog = true := by kernel_rfl
attribute [local irreducible] wpQuiet

def minI4 (x y z t : Int) : Int := min (min x y) (min z t)
@[go_sem] theorem run_min_int4 {P : Program} (w : World) (ts : Array TypeId) (T : TypeId) (k1 k2 k3 k4 : IntKind) (x y z t : Int) :
    (Builtin.min_ ts T #[.int k1 x, .int k2 y, .int k3 z, .int k4 t]).run P w = .ok (.int k1 (minI4 x y z t)) w := by
  have e : minI4 x y z t = (if t < (if z < (if y < x then y else x) then z else (if y < x then y else x)) then t else (if z < (if y < x then y else x) then z else (if y < x then y else x))) := by
    unfold minI4; omega
  rw [e]
  simp [Builtin.min_, Builtin.min2]
theorem ask_all {m : Msn} {l : List Int} {o : Msn} {lo : List Int} {a b R W : Int} (h : askB m l o lo a b R W = true) : radOkB m l = true ∧ radOkB o lo = true ∧ (∃ p : Nat, a = p ∧ p < m.ways.length) ∧ (∃ p : Nat, b = p ∧ p < o.ways.length) ∧ 0 ≤ R ∧ R ≤ 100000 := by
  simp only [askB, Bool.and_eq_true, numB, decide_eq_true_eq] at h
  exact ⟨h.1, h.2.1, ⟨a.toNat, by omega, by omega⟩, ⟨b.toNat, by omega, by omega⟩, by omega⟩
theorem meet_times {m : Msn} {l : List Int} {o : Msn} {lo : List Int} {a b : Nat} {R W : Int} (h : meetB m l o lo a b R W = true) : usT m l a - usT o lo b ≤ W ∧ usT o lo b - usT m l a ≤ W := by
  simp only [meetB, Bool.and_eq_true, decide_eq_true_eq] at h
  omega

set_option linter.unusedSimpArgs false in
set_option linter.unusedVariables false in
set_option maxRecDepth 8000 in
set_option maxHeartbeats 8000000 in
theorem walk (w : World) (m : Msn) (vw vh vr : Value) (o : Msn) (vwo vho vro : Value) (vl : Value) (l : List Int) (vlo : Value) (lo : List Int) (ta tb R Wt x y u v : Int) (hm : MsnAt w.heap.size w m vw vh vr) (hmo : MsnAt w.heap.size w o vwo vho vro) (hl : IntsAt w.heap.size w vl l) (hlo : IntsAt w.heap.size w vlo lo) :
    Calls Tryz.prog 3 #[.agg (msnCells m vw vh vr), .agg (msnCells o vwo vho vro), vl, vlo, .agg #[.int .i64 ta, .int .i64 tb, .int .i64 R, .int .i64 Wt], .agg #[.int .i64 x, .int .i64 y], .agg #[.int .i64 u, .int .i64 v]] w fun e w' => e = .returned (.bool true) ∧ Below w.heap.size w w' := by
  have f3 := fun w1 h1 h2 h3 h4 => tmeets_any m o vw vh vr vl vwo vho vro vlo l lo ta tb R Wt w1 h1 h2 h3 h4
  have f4 := fun w1 h1 h2 => radii_all m vw vh vr vl l w1 h1 h2
  have f5 := fun w1 h1 h2 => radii_all o vwo vho vro vlo lo w1 h1 h2
  have f6 := fun w1 h1 h2 => used_all m vw vh vr vl l w1 h1 h2
  have f7 := fun w1 h1 h2 => used_all o vwo vho vro vlo lo w1 h1 h2
  have MM := Lib.hid hm
  have ML := Lib.hid hl
  have OM := Lib.hid hmo
  have OL := Lib.hid hlo
  have ff := Lib.hid (fun w1 h1 h2 h3 h4 => few38_any m o vw vh vr vl vwo vho vro vlo l lo w1 h1 h2 h3 h4)
  have hd := Lib.hid (fun w1 => head38_any w1)
  have HMW := Lib.hid hm.1
  have HOW := Lib.hid hmo.1
  obtain ⟨⟨-, a1, c1, rfl, -⟩, ⟨-, a2, c2, rfl, -⟩, ⟨-, a3, c3, rfl, -⟩⟩ := hm
  obtain ⟨⟨-, a1o, c1o, rfl, -⟩, ⟨-, a2o, c2o, rfl, -⟩, ⟨-, a3o, c3o, rfl, -⟩⟩ := hmo
  obtain ⟨-, al, cl, rfl, -⟩ := hl
  obtain ⟨-, alo, clo, rfl, -⟩ := hlo
  unfold msnCells at *
  have B0 := Lib.hid (Below.refl w.heap.size w)
  cases hE : askB m l o lo ta tb R Wt
  · rw [hE, show errB false = 1 from rfl, Bool.false_and] at f3
    clear f4 f5 f6 f7 hE
    replace f3 := Lib.hid f3
    go_enter Tryz.func3, Tryz.ntmps3
    go_wp2_with fail
    generalize hXX0 : World.alloc (World.alloc (World.alloc (World.alloc (World.alloc w _) _) _) _) _ = X0
    obtain ⟨q0, q1, q2, q3, q4, hA, hzX0⟩ := box5 hXX0
    clear hXX0
    replace MM := Lib.hid ((MM.out.below hA).mono hA.size)
    replace ML := Lib.hid ((ML.out.below hA).mono hA.size)
    replace OM := Lib.hid ((OM.out.below hA).mono hA.size)
    replace OL := Lib.hid ((OL.out.below hA).mono hA.size)
    have MB := Lib.hid q0
    clear q0
    have OB := Lib.hid q1
    clear q1
    have TB := Lib.hid q2
    clear q2
    have VB := Lib.hid q3
    clear q3
    have WB := Lib.hid q4
    clear q4
    have BX0 := Lib.hid (B0.out.trans (hA.mono B0.out.size))
    clear hA
    obtain ⟨d0, d1, d2, d3, d4, d5, d6, d7, d8, d9, d10⟩ := msn_cells (m := m) MB.out
    obtain ⟨e0, e1, e2, e3, e4, e5, e6, e7, e8, e9, e10⟩ := msn_cells (m := o) OB.out
    have t0 := TB.out.cell (i := 0) rfl
    have t1 := TB.out.cell (i := 1) rfl
    have t2 := TB.out.cell (i := 2) rfl
    have t3 := TB.out.cell (i := 3) rfl
    refine (hd.out _).mono ?_
    rintro e w1 ⟨rfl, b1⟩
    have B1 := Lib.hid (BX0.out.trans (b1.mono BX0.out.size))
    replace MM := Lib.hid ((MM.out.below b1).mono b1.size)
    replace ML := Lib.hid ((ML.out.below b1).mono b1.size)
    replace OM := Lib.hid ((OM.out.below b1).mono b1.size)
    replace OL := Lib.hid ((OL.out.below b1).mono b1.size)
    replace MB := Lib.hid (MB.out.below b1 MB.out.lt)
    replace OB := Lib.hid (OB.out.below b1 OB.out.lt)
    replace TB := Lib.hid (TB.out.below b1 TB.out.lt)
    replace VB := Lib.hid (VB.out.below b1 VB.out.lt)
    replace WB := Lib.hid (WB.out.below b1 WB.out.lt)
    clear b1
    clear d0 d1 d2 d3 d4 d5 d6 d7 d8 d9 d10 e0 e1 e2 e3 e4 e5 e6 e7 e8 e9 e10 t0 t1 t2 t3
    obtain ⟨d0, d1, d2, d3, d4, d5, d6, d7, d8, d9, d10⟩ := msn_cells (m := m) MB.out
    obtain ⟨e0, e1, e2, e3, e4, e5, e6, e7, e8, e9, e10⟩ := msn_cells (m := o) OB.out
    have t0 := TB.out.cell (i := 0) rfl
    have t1 := TB.out.cell (i := 1) rfl
    have t2 := TB.out.cell (i := 2) rfl
    have t3 := TB.out.cell (i := 3) rfl
    go_wp2_with fail
    refine (ff.out _ MM.out ML.out OM.out OL.out).mono ?_
    rintro e w2 ⟨rfl, b2⟩
    have B2 := Lib.hid (B1.out.trans (b2.mono B1.out.size))
    replace MM := Lib.hid ((MM.out.below b2).mono b2.size)
    replace ML := Lib.hid ((ML.out.below b2).mono b2.size)
    replace OM := Lib.hid ((OM.out.below b2).mono b2.size)
    replace OL := Lib.hid ((OL.out.below b2).mono b2.size)
    replace MB := Lib.hid (MB.out.below b2 MB.out.lt)
    replace OB := Lib.hid (OB.out.below b2 OB.out.lt)
    replace TB := Lib.hid (TB.out.below b2 TB.out.lt)
    replace VB := Lib.hid (VB.out.below b2 VB.out.lt)
    replace WB := Lib.hid (WB.out.below b2 WB.out.lt)
    clear b2
    clear d0 d1 d2 d3 d4 d5 d6 d7 d8 d9 d10 e0 e1 e2 e3 e4 e5 e6 e7 e8 e9 e10 t0 t1 t2 t3
    obtain ⟨d0, d1, d2, d3, d4, d5, d6, d7, d8, d9, d10⟩ := msn_cells (m := m) MB.out
    obtain ⟨e0, e1, e2, e3, e4, e5, e6, e7, e8, e9, e10⟩ := msn_cells (m := o) OB.out
    have t0 := TB.out.cell (i := 0) rfl
    have t1 := TB.out.cell (i := 1) rfl
    have t2 := TB.out.cell (i := 2) rfl
    have t3 := TB.out.cell (i := 3) rfl
    cases hfew : few38B m l o lo
    · go_wp2
      go_ret
      exact ⟨rfl, B2.out⟩
    clear hfew
    go_wp2_with fail
    refine (f3.out _ MM.out ML.out OM.out OL.out).mono ?_
    rintro e w3 ⟨rfl, b3⟩
    have B3 := Lib.hid (B2.out.trans (b3.mono B2.out.size))
    replace MM := Lib.hid ((MM.out.below b3).mono b3.size)
    replace ML := Lib.hid ((ML.out.below b3).mono b3.size)
    replace OM := Lib.hid ((OM.out.below b3).mono b3.size)
    replace OL := Lib.hid ((OL.out.below b3).mono b3.size)
    replace MB := Lib.hid (MB.out.below b3 MB.out.lt)
    replace OB := Lib.hid (OB.out.below b3 OB.out.lt)
    replace TB := Lib.hid (TB.out.below b3 TB.out.lt)
    replace VB := Lib.hid (VB.out.below b3 VB.out.lt)
    replace WB := Lib.hid (WB.out.below b3 WB.out.lt)
    clear b3
    clear d0 d1 d2 d3 d4 d5 d6 d7 d8 d9 d10 e0 e1 e2 e3 e4 e5 e6 e7 e8 e9 e10 t0 t1 t2 t3
    obtain ⟨d0, d1, d2, d3, d4, d5, d6, d7, d8, d9, d10⟩ := msn_cells (m := m) MB.out
    obtain ⟨e0, e1, e2, e3, e4, e5, e6, e7, e8, e9, e10⟩ := msn_cells (m := o) OB.out
    have t0 := TB.out.cell (i := 0) rfl
    have t1 := TB.out.cell (i := 1) rfl
    have t2 := TB.out.cell (i := 2) rfl
    have t3 := TB.out.cell (i := 3) rfl
    go_wp2
    go_ret
    exact ⟨by simp, B3.out⟩
  rw [hE, show errB true = 0 from rfl, Bool.true_and] at f3
  obtain ⟨k1, k2, ⟨a, rfl, ha⟩, ⟨b, rfl, hb⟩, r1, r2⟩ := ask_all hE
  rw [show ((a : Int)).toNat = a from rfl, show ((b : Int)).toNat = b from rfl] at f3
  clear hE
  cases hmt : meetB m l o lo a b R Wt
  · rw [hmt] at f3
    clear f4 f5 f6 f7 hmt k1 k2 ha hb r1 r2
    replace f3 := Lib.hid f3
    go_enter Tryz.func3, Tryz.ntmps3
    go_wp2_with fail
    generalize hXX0 : World.alloc (World.alloc (World.alloc (World.alloc (World.alloc w _) _) _) _) _ = X0
    obtain ⟨q0, q1, q2, q3, q4, hA, hzX0⟩ := box5 hXX0
    clear hXX0
    replace MM := Lib.hid ((MM.out.below hA).mono hA.size)
    replace ML := Lib.hid ((ML.out.below hA).mono hA.size)
    replace OM := Lib.hid ((OM.out.below hA).mono hA.size)
    replace OL := Lib.hid ((OL.out.below hA).mono hA.size)
    have MB := Lib.hid q0
    clear q0
    have OB := Lib.hid q1
    clear q1
    have TB := Lib.hid q2
    clear q2
    have VB := Lib.hid q3
    clear q3
    have WB := Lib.hid q4
    clear q4
    have BX0 := Lib.hid (B0.out.trans (hA.mono B0.out.size))
    clear hA
    obtain ⟨d0, d1, d2, d3, d4, d5, d6, d7, d8, d9, d10⟩ := msn_cells (m := m) MB.out
    obtain ⟨e0, e1, e2, e3, e4, e5, e6, e7, e8, e9, e10⟩ := msn_cells (m := o) OB.out
    have t0 := TB.out.cell (i := 0) rfl
    have t1 := TB.out.cell (i := 1) rfl
    have t2 := TB.out.cell (i := 2) rfl
    have t3 := TB.out.cell (i := 3) rfl
    refine (hd.out _).mono ?_
    rintro e w1 ⟨rfl, b1⟩
    have B1 := Lib.hid (BX0.out.trans (b1.mono BX0.out.size))
    replace MM := Lib.hid ((MM.out.below b1).mono b1.size)
    replace ML := Lib.hid ((ML.out.below b1).mono b1.size)
    replace OM := Lib.hid ((OM.out.below b1).mono b1.size)
    replace OL := Lib.hid ((OL.out.below b1).mono b1.size)
    replace MB := Lib.hid (MB.out.below b1 MB.out.lt)
    replace OB := Lib.hid (OB.out.below b1 OB.out.lt)
    replace TB := Lib.hid (TB.out.below b1 TB.out.lt)
    replace VB := Lib.hid (VB.out.below b1 VB.out.lt)
    replace WB := Lib.hid (WB.out.below b1 WB.out.lt)
    clear b1
    clear d0 d1 d2 d3 d4 d5 d6 d7 d8 d9 d10 e0 e1 e2 e3 e4 e5 e6 e7 e8 e9 e10 t0 t1 t2 t3
    obtain ⟨d0, d1, d2, d3, d4, d5, d6, d7, d8, d9, d10⟩ := msn_cells (m := m) MB.out
    obtain ⟨e0, e1, e2, e3, e4, e5, e6, e7, e8, e9, e10⟩ := msn_cells (m := o) OB.out
    have t0 := TB.out.cell (i := 0) rfl
    have t1 := TB.out.cell (i := 1) rfl
    have t2 := TB.out.cell (i := 2) rfl
    have t3 := TB.out.cell (i := 3) rfl
    go_wp2_with fail
    refine (ff.out _ MM.out ML.out OM.out OL.out).mono ?_
    rintro e w2 ⟨rfl, b2⟩
    have B2 := Lib.hid (B1.out.trans (b2.mono B1.out.size))
    replace MM := Lib.hid ((MM.out.below b2).mono b2.size)
    replace ML := Lib.hid ((ML.out.below b2).mono b2.size)
    replace OM := Lib.hid ((OM.out.below b2).mono b2.size)
    replace OL := Lib.hid ((OL.out.below b2).mono b2.size)
    replace MB := Lib.hid (MB.out.below b2 MB.out.lt)
    replace OB := Lib.hid (OB.out.below b2 OB.out.lt)
    replace TB := Lib.hid (TB.out.below b2 TB.out.lt)
    replace VB := Lib.hid (VB.out.below b2 VB.out.lt)
    replace WB := Lib.hid (WB.out.below b2 WB.out.lt)
    clear b2
    clear d0 d1 d2 d3 d4 d5 d6 d7 d8 d9 d10 e0 e1 e2 e3 e4 e5 e6 e7 e8 e9 e10 t0 t1 t2 t3
    obtain ⟨d0, d1, d2, d3, d4, d5, d6, d7, d8, d9, d10⟩ := msn_cells (m := m) MB.out
    obtain ⟨e0, e1, e2, e3, e4, e5, e6, e7, e8, e9, e10⟩ := msn_cells (m := o) OB.out
    have t0 := TB.out.cell (i := 0) rfl
    have t1 := TB.out.cell (i := 1) rfl
    have t2 := TB.out.cell (i := 2) rfl
    have t3 := TB.out.cell (i := 3) rfl
    cases hfew : few38B m l o lo
    · go_wp2
      go_ret
      exact ⟨rfl, B2.out⟩
    clear hfew
    go_wp2_with fail
    refine (f3.out _ MM.out ML.out OM.out OL.out).mono ?_
    rintro e w3 ⟨rfl, b3⟩
    have B3 := Lib.hid (B2.out.trans (b3.mono B2.out.size))
    replace MM := Lib.hid ((MM.out.below b3).mono b3.size)
    replace ML := Lib.hid ((ML.out.below b3).mono b3.size)
    replace OM := Lib.hid ((OM.out.below b3).mono b3.size)
    replace OL := Lib.hid ((OL.out.below b3).mono b3.size)
    replace MB := Lib.hid (MB.out.below b3 MB.out.lt)
    replace OB := Lib.hid (OB.out.below b3 OB.out.lt)
    replace TB := Lib.hid (TB.out.below b3 TB.out.lt)
    replace VB := Lib.hid (VB.out.below b3 VB.out.lt)
    replace WB := Lib.hid (WB.out.below b3 WB.out.lt)
    clear b3
    clear d0 d1 d2 d3 d4 d5 d6 d7 d8 d9 d10 e0 e1 e2 e3 e4 e5 e6 e7 e8 e9 e10 t0 t1 t2 t3
    obtain ⟨d0, d1, d2, d3, d4, d5, d6, d7, d8, d9, d10⟩ := msn_cells (m := m) MB.out
    obtain ⟨e0, e1, e2, e3, e4, e5, e6, e7, e8, e9, e10⟩ := msn_cells (m := o) OB.out
    have t0 := TB.out.cell (i := 0) rfl
    have t1 := TB.out.cell (i := 1) rfl
    have t2 := TB.out.cell (i := 2) rfl
    have t3 := TB.out.cell (i := 3) rfl
    go_wp2
    go_ret
    exact ⟨by simp, B3.out⟩
  rw [hmt] at f3
  have V := (validB_iff m).1 (by simpa [radOkB] using k1 : validB m = true ∧ stopsB m l = true).1
  have VO := (validB_iff o).1 (by simpa [radOkB] using k2 : validB o = true ∧ stopsB o lo = true).1
  have n41 := V.n41
  have n41o := VO.n41
  have e1 : rdAL m l = rdAU m l := if_pos k1
  have e2 : rdE m l = 0 := if_pos k1
  have e3 : rdAL o lo = rdAU o lo := if_pos k2
  have e4 : rdE o lo = 0 := if_pos k2
  have e5 : usedTR m l = usedT m l := if_pos k1
  have e6 : usedC m l = 0 := if_pos k1
  have e7 : usedTR o lo = usedT o lo := if_pos k2
  have e8 : usedC o lo = 0 := if_pos k2
  rw [e1, e2] at f4
  rw [e3, e4] at f5
  rw [e5, e6] at f6
  rw [e7, e8] at f7
  have tt := meet_times hmt
  have near := Lib.hid (fun x y u v => meet_near V VO ha hb hmt (x := x) (y := y) (u := u) (v := v))
  have u1 := used_bd V l a ha
  have u2 := used_bd VO lo b hb
  have ra := (rd_le V l ha).2.2
  have rb := (rd_le VO lo hb).2.2
  have wa := wayB_true (waysB_at V.ways ha)
  have wb := wayB_true (waysB_at VO.ways hb)
  have ua : 0 ≤ usT m l a ∧ usT m l a ≤ 4100000000 := by omega
  have ub : 0 ≤ usT o lo b ∧ usT o lo b ≤ 4100000000 := by omega
  have pa : (-300000 ≤ (wy m.ways a).x ∧ (wy m.ways a).x ≤ 300000 ∧ -300000 ≤ (wy m.ways a).y ∧ (wy m.ways a).y ≤ 300000) := by omega
  have pb : (-300000 ≤ (wy o.ways b).x ∧ (wy o.ways b).x ≤ 300000 ∧ -300000 ≤ (wy o.ways b).y ∧ (wy o.ways b).y ≤ 300000) := by omega
  have ha' : (a : Int) < m.ways.length := by omega
  have hb' : (b : Int) < o.ways.length := by omega
  have a0 : (0 : Int) ≤ a := by omega
  have b0 : (0 : Int) ≤ b := by omega
  have da : decide ((a : Int) < 0) = false := by rw [decide_eq_false_iff_not]; omega
  have db : decide ((b : Int) < 0) = false := by rw [decide_eq_false_iff_not]; omega
  have da2 : decide ((a : Int) ≥ (m.ways.length : Int)) = false := by rw [decide_eq_false_iff_not]; omega
  have db2 : decide ((b : Int) ≥ (o.ways.length : Int)) = false := by rw [decide_eq_false_iff_not]; omega
  have dn : ((m.ways.length : Int) != (m.ways.length : Int)) = false := by simp
  have dno : ((o.ways.length : Int) != (o.ways.length : Int)) = false := by simp
  obtain ⟨bw, ow, cw, hww, hbw, hcw⟩ := HMW.out.cells (by omega)
  obtain ⟨bwo, owo, cwo, hwwo, hbwo, hcwo⟩ := HOW.out.cells (by omega)
  simp only [Value.slice.injEq, true_and, Nat.add_left_cancel_iff] at hww hwwo
  obtain ⟨rfl, rfl⟩ := hww
  obtain ⟨rfl, rfl⟩ := hwwo
  have KW := Lib.hid (And.intro hbw (And.intro (hcw a ha).1 (hcw a ha).2.1))
  have KWO := Lib.hid (And.intro hbwo (And.intro (hcwo b hb).1 (hcwo b hb).2.1))
  generalize hT1 : usT m l a = T1 at *
  generalize hT2 : usT o lo b = T2 at *
  generalize hra : rdA m l a = r at *
  generalize hrb : rdA o lo b = s at *
  generalize (wy m.ways a).x = px at *
  generalize (wy m.ways a).y = py at *
  generalize (wy o.ways b).x = qx at *
  generalize (wy o.ways b).y = qy at *
  have HT := Lib.hid (And.intro hT1 (And.intro hT2 (And.intro hra hrb)))
  obtain ⟨D1, hD1⟩ : ∃ t, t = T1 - T2 := ⟨_, rfl⟩
  obtain ⟨D2, hD2⟩ : ∃ t, t = T2 - T1 := ⟨_, rfl⟩
  have z1 : IntKind.i64.wrap (T1 - T2) = D1 := by rw [hD1]; exact IntWalk.i64_in _ (by omega)
  have z2 : IntKind.i64.wrap (T2 - T1) = D2 := by rw [hD2]; exact IntWalk.i64_in _ (by omega)
  have d1 : decide (D1 ≤ Wt) = true := by rw [decide_eq_true_eq]; omega
  have d2 : decide (D2 ≤ Wt) = true := by rw [decide_eq_true_eq]; omega
  have RR := Lib.hid (And.intro ra (And.intro rb (And.intro pa (And.intro pb (And.intro r1 r2)))))
  replace f4 := Lib.hid f4
  replace f5 := Lib.hid f5
  replace f6 := Lib.hid f6
  replace f7 := Lib.hid f7
  clear hmt V VO e1 e2 e3 e4 e5 e6 e7 e8 u1 u2 wa wb ua ub hcw hcwo hT1 hT2 hra hrb hD1 hD2 tt ra rb pa pb r1 r2 hbw hbwo k1 k2
  clear HMW HOW
  replace f3 := Lib.hid f3
  go_enter Tryz.func3, Tryz.ntmps3
  go_wp2_with fail
  generalize hXX0 : World.alloc (World.alloc (World.alloc (World.alloc (World.alloc w _) _) _) _) _ = X0
  obtain ⟨q0, q1, q2, q3, q4, hA, hzX0⟩ := box5 hXX0
  clear hXX0
  replace MM := Lib.hid ((MM.out.below hA).mono hA.size)
  replace ML := Lib.hid ((ML.out.below hA).mono hA.size)
  replace OM := Lib.hid ((OM.out.below hA).mono hA.size)
  replace OL := Lib.hid ((OL.out.below hA).mono hA.size)
  have MB := Lib.hid q0
  clear q0
  have OB := Lib.hid q1
  clear q1
  have TB := Lib.hid q2
  clear q2
  have VB := Lib.hid q3
  clear q3
  have WB := Lib.hid q4
  clear q4
  have BX0 := Lib.hid (B0.out.trans (hA.mono B0.out.size))
  clear hA
  obtain ⟨d0, d1, d2, d3, d4, d5, d6, d7, d8, d9, d10⟩ := msn_cells (m := m) MB.out
  obtain ⟨e0, e1, e2, e3, e4, e5, e6, e7, e8, e9, e10⟩ := msn_cells (m := o) OB.out
  have t0 := TB.out.cell (i := 0) rfl
  have t1 := TB.out.cell (i := 1) rfl
  have t2 := TB.out.cell (i := 2) rfl
  have t3 := TB.out.cell (i := 3) rfl
  refine (hd.out _).mono ?_
  rintro e w1 ⟨rfl, b1⟩
  have B1 := Lib.hid (BX0.out.trans (b1.mono BX0.out.size))
  replace MM := Lib.hid ((MM.out.below b1).mono b1.size)
  replace ML := Lib.hid ((ML.out.below b1).mono b1.size)
  replace OM := Lib.hid ((OM.out.below b1).mono b1.size)
  replace OL := Lib.hid ((OL.out.below b1).mono b1.size)
  replace MB := Lib.hid (MB.out.below b1 MB.out.lt)
  replace OB := Lib.hid (OB.out.below b1 OB.out.lt)
  replace TB := Lib.hid (TB.out.below b1 TB.out.lt)
  replace VB := Lib.hid (VB.out.below b1 VB.out.lt)
  replace WB := Lib.hid (WB.out.below b1 WB.out.lt)
  clear b1
  clear d0 d1 d2 d3 d4 d5 d6 d7 d8 d9 d10 e0 e1 e2 e3 e4 e5 e6 e7 e8 e9 e10 t0 t1 t2 t3
  obtain ⟨d0, d1, d2, d3, d4, d5, d6, d7, d8, d9, d10⟩ := msn_cells (m := m) MB.out
  obtain ⟨e0, e1, e2, e3, e4, e5, e6, e7, e8, e9, e10⟩ := msn_cells (m := o) OB.out
  have t0 := TB.out.cell (i := 0) rfl
  have t1 := TB.out.cell (i := 1) rfl
  have t2 := TB.out.cell (i := 2) rfl
  have t3 := TB.out.cell (i := 3) rfl
  go_wp2_with fail
  refine (ff.out _ MM.out ML.out OM.out OL.out).mono ?_
  rintro e w2 ⟨rfl, b2⟩
  have B2 := Lib.hid (B1.out.trans (b2.mono B1.out.size))
  replace MM := Lib.hid ((MM.out.below b2).mono b2.size)
  replace ML := Lib.hid ((ML.out.below b2).mono b2.size)
  replace OM := Lib.hid ((OM.out.below b2).mono b2.size)
  replace OL := Lib.hid ((OL.out.below b2).mono b2.size)
  replace MB := Lib.hid (MB.out.below b2 MB.out.lt)
  replace OB := Lib.hid (OB.out.below b2 OB.out.lt)
  replace TB := Lib.hid (TB.out.below b2 TB.out.lt)
  replace VB := Lib.hid (VB.out.below b2 VB.out.lt)
  replace WB := Lib.hid (WB.out.below b2 WB.out.lt)
  clear b2
  clear d0 d1 d2 d3 d4 d5 d6 d7 d8 d9 d10 e0 e1 e2 e3 e4 e5 e6 e7 e8 e9 e10 t0 t1 t2 t3
  obtain ⟨d0, d1, d2, d3, d4, d5, d6, d7, d8, d9, d10⟩ := msn_cells (m := m) MB.out
  obtain ⟨e0, e1, e2, e3, e4, e5, e6, e7, e8, e9, e10⟩ := msn_cells (m := o) OB.out
  have t0 := TB.out.cell (i := 0) rfl
  have t1 := TB.out.cell (i := 1) rfl
  have t2 := TB.out.cell (i := 2) rfl
  have t3 := TB.out.cell (i := 3) rfl
  cases hfew : few38B m l o lo
  · go_wp2
    go_ret
    exact ⟨rfl, B2.out⟩
  clear hfew
  go_wp2_with fail
  refine (f3.out _ MM.out ML.out OM.out OL.out).mono ?_
  rintro e w3 ⟨rfl, b3⟩
  have B3 := Lib.hid (B2.out.trans (b3.mono B2.out.size))
  replace MM := Lib.hid ((MM.out.below b3).mono b3.size)
  replace ML := Lib.hid ((ML.out.below b3).mono b3.size)
  replace OM := Lib.hid ((OM.out.below b3).mono b3.size)
  replace OL := Lib.hid ((OL.out.below b3).mono b3.size)
  replace MB := Lib.hid (MB.out.below b3 MB.out.lt)
  replace OB := Lib.hid (OB.out.below b3 OB.out.lt)
  replace TB := Lib.hid (TB.out.below b3 TB.out.lt)
  replace VB := Lib.hid (VB.out.below b3 VB.out.lt)
  replace WB := Lib.hid (WB.out.below b3 WB.out.lt)
  clear b3
  clear d0 d1 d2 d3 d4 d5 d6 d7 d8 d9 d10 e0 e1 e2 e3 e4 e5 e6 e7 e8 e9 e10 t0 t1 t2 t3
  obtain ⟨d0, d1, d2, d3, d4, d5, d6, d7, d8, d9, d10⟩ := msn_cells (m := m) MB.out
  obtain ⟨e0, e1, e2, e3, e4, e5, e6, e7, e8, e9, e10⟩ := msn_cells (m := o) OB.out
  have t0 := TB.out.cell (i := 0) rfl
  have t1 := TB.out.cell (i := 1) rfl
  have t2 := TB.out.cell (i := 2) rfl
  have t3 := TB.out.cell (i := 3) rfl
  go_wp2_with fail
  refine (f4.out _ MM.out ML.out).mono ?_
  rintro e w4 ⟨v4, u4, rfl, p4, q4, b4⟩
  have B4 := Lib.hid (B3.out.trans (b4.mono B3.out.size))
  replace MM := Lib.hid ((MM.out.below b4).mono b4.size)
  replace ML := Lib.hid ((ML.out.below b4).mono b4.size)
  replace OM := Lib.hid ((OM.out.below b4).mono b4.size)
  replace OL := Lib.hid ((OL.out.below b4).mono b4.size)
  replace MB := Lib.hid (MB.out.below b4 MB.out.lt)
  replace OB := Lib.hid (OB.out.below b4 OB.out.lt)
  replace TB := Lib.hid (TB.out.below b4 TB.out.lt)
  replace VB := Lib.hid (VB.out.below b4 VB.out.lt)
  replace WB := Lib.hid (WB.out.below b4 WB.out.lt)
  obtain ⟨b4x, o4x, c4x, hv4, hb4x, hc4x⟩ := ints_cells0 q4 (by rw [rdAU_length]; omega)
  rw [rdAU_length] at hv4 hc4x
  subst hv4
  have L4 := Lib.hid (And.intro hb4x (show w4.cell? ⟨b4x, o4x + a, none⟩ = some (.int .i64 r) from (hc4x a ha).trans (by rw [rdAU, upto_getD _ ha, HT.out.2.2.1])))
  have LB4 := Lib.hid (Below.refl w4.heap.size w4)
  obtain ⟨-, g4x, k4x, hv4, -⟩ := p4
  subst hv4
  clear hc4x hb4x q4
  clear b4
  clear d0 d1 d2 d3 d4 d5 d6 d7 d8 d9 d10 e0 e1 e2 e3 e4 e5 e6 e7 e8 e9 e10 t0 t1 t2 t3
  obtain ⟨d0, d1, d2, d3, d4, d5, d6, d7, d8, d9, d10⟩ := msn_cells (m := m) MB.out
  obtain ⟨e0, e1, e2, e3, e4, e5, e6, e7, e8, e9, e10⟩ := msn_cells (m := o) OB.out
  have t0 := TB.out.cell (i := 0) rfl
  have t1 := TB.out.cell (i := 1) rfl
  have t2 := TB.out.cell (i := 2) rfl
  have t3 := TB.out.cell (i := 3) rfl
  go_wp2_with fail
  refine (f5.out _ OM.out OL.out).mono ?_
  rintro e w5 ⟨v5, u5, rfl, p5, q5, b5⟩
  have B5 := Lib.hid (B4.out.trans (b5.mono B4.out.size))
  replace MM := Lib.hid ((MM.out.below b5).mono b5.size)
  replace ML := Lib.hid ((ML.out.below b5).mono b5.size)
  replace OM := Lib.hid ((OM.out.below b5).mono b5.size)
  replace OL := Lib.hid ((OL.out.below b5).mono b5.size)
  replace MB := Lib.hid (MB.out.below b5 MB.out.lt)
  replace OB := Lib.hid (OB.out.below b5 OB.out.lt)
  replace TB := Lib.hid (TB.out.below b5 TB.out.lt)
  replace VB := Lib.hid (VB.out.below b5 VB.out.lt)
  replace WB := Lib.hid (WB.out.below b5 WB.out.lt)
  replace LB4 := Lib.hid (LB4.out.trans (b5.mono LB4.out.size))
  obtain ⟨b5x, o5x, c5x, hv5, hb5x, hc5x⟩ := ints_cells0 q5 (by rw [rdAU_length]; omega)
  rw [rdAU_length] at hv5 hc5x
  subst hv5
  have L5 := Lib.hid (And.intro hb5x (show w5.cell? ⟨b5x, o5x + b, none⟩ = some (.int .i64 s) from (hc5x b hb).trans (by rw [rdAU, upto_getD _ hb, HT.out.2.2.2])))
  have LB5 := Lib.hid (Below.refl w5.heap.size w5)
  obtain ⟨-, g5x, k5x, hv5, -⟩ := p5
  subst hv5
  clear hc5x hb5x q5
  clear b5
  clear d0 d1 d2 d3 d4 d5 d6 d7 d8 d9 d10 e0 e1 e2 e3 e4 e5 e6 e7 e8 e9 e10 t0 t1 t2 t3
  obtain ⟨d0, d1, d2, d3, d4, d5, d6, d7, d8, d9, d10⟩ := msn_cells (m := m) MB.out
  obtain ⟨e0, e1, e2, e3, e4, e5, e6, e7, e8, e9, e10⟩ := msn_cells (m := o) OB.out
  have t0 := TB.out.cell (i := 0) rfl
  have t1 := TB.out.cell (i := 1) rfl
  have t2 := TB.out.cell (i := 2) rfl
  have t3 := TB.out.cell (i := 3) rfl
  go_wp2_with fail
  refine (f6.out _ MM.out ML.out).mono ?_
  rintro e w6 ⟨v6, u6, rfl, p6, q6, b6⟩
  have B6 := Lib.hid (B5.out.trans (b6.mono B5.out.size))
  replace MM := Lib.hid ((MM.out.below b6).mono b6.size)
  replace ML := Lib.hid ((ML.out.below b6).mono b6.size)
  replace OM := Lib.hid ((OM.out.below b6).mono b6.size)
  replace OL := Lib.hid ((OL.out.below b6).mono b6.size)
  replace MB := Lib.hid (MB.out.below b6 MB.out.lt)
  replace OB := Lib.hid (OB.out.below b6 OB.out.lt)
  replace TB := Lib.hid (TB.out.below b6 TB.out.lt)
  replace VB := Lib.hid (VB.out.below b6 VB.out.lt)
  replace WB := Lib.hid (WB.out.below b6 WB.out.lt)
  replace LB4 := Lib.hid (LB4.out.trans (b6.mono LB4.out.size))
  replace LB5 := Lib.hid (LB5.out.trans (b6.mono LB5.out.size))
  obtain ⟨b6x, o6x, c6x, hv6, hb6x, hc6x⟩ := ints_cells0 p6 (by rw [usedT_length]; omega)
  rw [usedT_length] at hv6 hc6x
  subst hv6
  have L6 := Lib.hid (And.intro hb6x (show w6.cell? ⟨b6x, o6x + a, none⟩ = some (.int .i64 T1) from (hc6x a ha).trans (by rw [usedT, upto_getD _ ha, HT.out.1])))
  have LB6 := Lib.hid (Below.refl w6.heap.size w6)
  obtain ⟨-, g6x, k6x, hv6, -⟩ := q6
  subst hv6
  clear hc6x hb6x p6
  clear b6
  clear d0 d1 d2 d3 d4 d5 d6 d7 d8 d9 d10 e0 e1 e2 e3 e4 e5 e6 e7 e8 e9 e10 t0 t1 t2 t3
  obtain ⟨d0, d1, d2, d3, d4, d5, d6, d7, d8, d9, d10⟩ := msn_cells (m := m) MB.out
  obtain ⟨e0, e1, e2, e3, e4, e5, e6, e7, e8, e9, e10⟩ := msn_cells (m := o) OB.out
  have t0 := TB.out.cell (i := 0) rfl
  have t1 := TB.out.cell (i := 1) rfl
  have t2 := TB.out.cell (i := 2) rfl
  have t3 := TB.out.cell (i := 3) rfl
  go_wp2_with fail
  refine (f7.out _ OM.out OL.out).mono ?_
  rintro e w7 ⟨v7, u7, rfl, p7, q7, b7⟩
  have B7 := Lib.hid (B6.out.trans (b7.mono B6.out.size))
  replace MM := Lib.hid ((MM.out.below b7).mono b7.size)
  replace ML := Lib.hid ((ML.out.below b7).mono b7.size)
  replace OM := Lib.hid ((OM.out.below b7).mono b7.size)
  replace OL := Lib.hid ((OL.out.below b7).mono b7.size)
  replace MB := Lib.hid (MB.out.below b7 MB.out.lt)
  replace OB := Lib.hid (OB.out.below b7 OB.out.lt)
  replace TB := Lib.hid (TB.out.below b7 TB.out.lt)
  replace VB := Lib.hid (VB.out.below b7 VB.out.lt)
  replace WB := Lib.hid (WB.out.below b7 WB.out.lt)
  replace LB4 := Lib.hid (LB4.out.trans (b7.mono LB4.out.size))
  replace LB5 := Lib.hid (LB5.out.trans (b7.mono LB5.out.size))
  replace LB6 := Lib.hid (LB6.out.trans (b7.mono LB6.out.size))
  obtain ⟨b7x, o7x, c7x, hv7, hb7x, hc7x⟩ := ints_cells0 p7 (by rw [usedT_length]; omega)
  rw [usedT_length] at hv7 hc7x
  subst hv7
  have L7 := Lib.hid (And.intro hb7x (show w7.cell? ⟨b7x, o7x + b, none⟩ = some (.int .i64 T2) from (hc7x b hb).trans (by rw [usedT, upto_getD _ hb, HT.out.2.1])))
  have LB7 := Lib.hid (Below.refl w7.heap.size w7)
  obtain ⟨-, g7x, k7x, hv7, -⟩ := q7
  subst hv7
  clear hc7x hb7x p7
  clear b7
  clear d0 d1 d2 d3 d4 d5 d6 d7 d8 d9 d10 e0 e1 e2 e3 e4 e5 e6 e7 e8 e9 e10 t0 t1 t2 t3
  obtain ⟨d0, d1, d2, d3, d4, d5, d6, d7, d8, d9, d10⟩ := msn_cells (m := m) MB.out
  obtain ⟨e0, e1, e2, e3, e4, e5, e6, e7, e8, e9, e10⟩ := msn_cells (m := o) OB.out
  have t0 := TB.out.cell (i := 0) rfl
  have t1 := TB.out.cell (i := 1) rfl
  have t2 := TB.out.cell (i := 2) rfl
  have t3 := TB.out.cell (i := 3) rfl
  clear MM ML OM OL
  go_wp2
  clear d0 d1 d2 d3 d4 d5 d6 d7 d8 d9 d10 e0 e1 e2 e3 e4 e5 e6 e7 e8 e9 e10 t0 t1 t2 t3
  have t0 := Low.fact (TB.out.cell (i := 0) rfl)
  have t1 := Low.fact (TB.out.cell (i := 1) rfl)
  have t3 := Low.fact (TB.out.cell (i := 3) rfl)
  have y6 := Low.fact ((LB6.out.cell (p := ⟨b6x, o6x + a, none⟩) L6.out.1).trans L6.out.2)
  have y7 := Low.fact ((LB7.out.cell (p := ⟨b7x, o7x + b, none⟩) L7.out.1).trans L7.out.2)
  (refine wp_region_low (by kernel_rfl) (by kernel_rfl) ?_; (iterate 34 (apply quiet_want; (case hw => rfl); (case hval => (intro w1 hw1; have hcx := Low.cells hw1; simp only [Oper.quietAt]; go_simp; first | done | (first | fail) | rfl | exact ⟨rfl, rfl⟩)); simp only [Act.put, List.setIfInBounds_toArray, List.set_cons_zero, List.set_cons_succ])); refine wpQuiet_nil ?_; intro w2 hw2)
  clear t0 t1 t3 y6 y7 z1 z2 d1 d2
  obtain ⟨wA, hwq⟩ : ∃ x, x = w2 := ⟨_, rfl⟩
  subst hwq
  replace MB := Lib.hid (MB.out.below hw2.out MB.out.lt)
  replace OB := Lib.hid (OB.out.below hw2.out OB.out.lt)
  replace TB := Lib.hid (TB.out.below hw2.out TB.out.lt)
  replace VB := Lib.hid (VB.out.below hw2.out VB.out.lt)
  replace WB := Lib.hid (WB.out.below hw2.out WB.out.lt)
  replace LB4 := Lib.hid (LB4.out.trans (hw2.out.mono LB4.out.size))
  replace LB5 := Lib.hid (LB5.out.trans (hw2.out.mono LB5.out.size))
  replace LB6 := Lib.hid (LB6.out.trans (hw2.out.mono LB6.out.size))
  replace LB7 := Lib.hid (LB7.out.trans (hw2.out.mono LB7.out.size))
  have BwA := Lib.hid (B7.out.trans (hw2.out.mono B7.out.size))
  clear hw2
  have hnil1 := n41
  obtain ⟨nx, hnx⟩ : ∃ n, IntKind.i64.wrap (-x) = n := ⟨_, rfl⟩
  obtain ⟨ny, hny⟩ : ∃ n, IntKind.i64.wrap (-y) = n := ⟨_, rfl⟩
  obtain ⟨nu, hnu⟩ : ∃ n, IntKind.i64.wrap (-u) = n := ⟨_, rfl⟩
  obtain ⟨nv, hnv⟩ : ∃ n, IntKind.i64.wrap (-v) = n := ⟨_, rfl⟩
  obtain ⟨M1, hM1⟩ : ∃ n, maxI4 x nx y ny = n := ⟨_, rfl⟩
  obtain ⟨M2, hM2⟩ : ∃ n, maxI4 u nu v nv = n := ⟨_, rfl⟩
  obtain ⟨M3, hM3⟩ : ∃ n, minI4 x y u v = n := ⟨_, rfl⟩
  have t0 := Low.fact (TB.out.cell (i := 0) rfl)
  have t1 := Low.fact (TB.out.cell (i := 1) rfl)
  have y4 := Low.fact ((LB4.out.cell (p := ⟨b4x, o4x + a, none⟩) L4.out.1).trans L4.out.2)
  have y5 := Low.fact ((LB5.out.cell (p := ⟨b5x, o5x + b, none⟩) L5.out.1).trans L5.out.2)
  go_wp2
  (refine wp_region_low (by kernel_rfl) (by kernel_rfl) ?_; (iterate 12 (apply quiet_want; (case hw => rfl); (case hval => (intro w1 hw1; have hcx := Low.cells hw1; simp only [Oper.quietAt]; go_simp; first | done | (first | fail) | rfl | exact ⟨rfl, rfl⟩)); simp only [Act.put, List.setIfInBounds_toArray, List.set_cons_zero, List.set_cons_succ])); refine wpQuiet_nil ?_; intro w2 hw2)
  clear t0 t1 y4 y5
  clear LB4 L4
  clear LB5 L5
  clear LB6 L6
  clear LB7 L7
  obtain ⟨wB, hwq⟩ : ∃ x, x = w2 := ⟨_, rfl⟩
  subst hwq
  replace MB := Lib.hid (MB.out.below hw2.out MB.out.lt)
  replace OB := Lib.hid (OB.out.below hw2.out OB.out.lt)
  replace TB := Lib.hid (TB.out.below hw2.out TB.out.lt)
  replace VB := Lib.hid (VB.out.below hw2.out VB.out.lt)
  replace WB := Lib.hid (WB.out.below hw2.out WB.out.lt)
  have BwB := Lib.hid (BwA.out.trans (hw2.out.mono BwA.out.size))
  clear hw2
  have v0 := Low.fact (VB.out.cell (i := 0) rfl)
  have v1 := Low.fact (VB.out.cell (i := 1) rfl)
  have w0' := Low.fact (WB.out.cell (i := 0) rfl)
  have w1' := Low.fact (WB.out.cell (i := 1) rfl)
  go_upto_region 15 with fail
  cases dA : decide (M1 > r)
  rotate_left
  · (refine wp_region_lows ?_; (iterate 14 (apply quiet_want; (case hw => rfl); (case hval => (intro w1 hw1; have hcx := Low.cells hw1; simp only [Oper.quietAt]; go_simp; first | done | (first | fail) | rfl | exact ⟨rfl, rfl⟩)); simp only [Act.put, List.setIfInBounds_toArray, List.set_cons_zero, List.set_cons_succ])); (iterate 13 (apply quiet_skip; (case hw => rfl); simp only [Act.put, List.setIfInBounds_toArray, List.set_cons_zero, List.set_cons_succ])); (iterate 2 (apply quiet_want; (case hw => rfl); (case hval => (intro w1 hw1; have hcx := Low.cells hw1; simp only [Oper.quietAt]; go_simp; first | done | (first | fail) | rfl | exact ⟨rfl, rfl⟩)); simp only [Act.put, List.setIfInBounds_toArray, List.set_cons_zero, List.set_cons_succ])); (iterate 10 (apply quiet_skip; (case hw => rfl); simp only [Act.put, List.setIfInBounds_toArray, List.set_cons_zero, List.set_cons_succ])); (iterate 2 (apply quiet_want; (case hw => rfl); (case hval => (intro w1 hw1; have hcx := Low.cells hw1; simp only [Oper.quietAt]; go_simp; first | done | (first | fail) | rfl | exact ⟨rfl, rfl⟩)); simp only [Act.put, List.setIfInBounds_toArray, List.set_cons_zero, List.set_cons_succ])); (iterate 15 (apply quiet_skip; (case hw => rfl); simp only [Act.put, List.setIfInBounds_toArray, List.set_cons_zero, List.set_cons_succ])); (iterate 2 (apply quiet_want; (case hw => rfl); (case hval => (intro w1 hw1; have hcx := Low.cells hw1; simp only [Oper.quietAt]; go_simp; first | done | (first | fail) | rfl | exact ⟨rfl, rfl⟩)); simp only [Act.put, List.setIfInBounds_toArray, List.set_cons_zero, List.set_cons_succ])); (iterate 15 (apply quiet_skip; (case hw => rfl); simp only [Act.put, List.setIfInBounds_toArray, List.set_cons_zero, List.set_cons_succ])); (iterate 1 (apply quiet_want; (case hw => rfl); (case hval => (intro w1 hw1; have hcx := Low.cells hw1; simp only [Oper.quietAt]; go_simp; first | done | (first | fail) | rfl | exact ⟨rfl, rfl⟩)); simp only [Act.put, List.setIfInBounds_toArray, List.set_cons_zero, List.set_cons_succ])); refine wpQuiet_nil ?_; intro w2 hw2)
    have BZ := Lib.hid (BwB.out.trans (hw2.out.mono BwB.out.size))
    clear hw2 v0 v1 w0' w1'
    go_wp2
    go_ret
    exact ⟨rfl, BZ.out⟩
  cases dB : decide (M2 > s)
  rotate_left
  · (refine wp_region_lows ?_; (iterate 29 (apply quiet_want; (case hw => rfl); (case hval => (intro w1 hw1; have hcx := Low.cells hw1; simp only [Oper.quietAt]; go_simp; first | done | (first | fail) | rfl | exact ⟨rfl, rfl⟩)); simp only [Act.put, List.setIfInBounds_toArray, List.set_cons_zero, List.set_cons_succ])); (iterate 10 (apply quiet_skip; (case hw => rfl); simp only [Act.put, List.setIfInBounds_toArray, List.set_cons_zero, List.set_cons_succ])); (iterate 2 (apply quiet_want; (case hw => rfl); (case hval => (intro w1 hw1; have hcx := Low.cells hw1; simp only [Oper.quietAt]; go_simp; first | done | (first | fail) | rfl | exact ⟨rfl, rfl⟩)); simp only [Act.put, List.setIfInBounds_toArray, List.set_cons_zero, List.set_cons_succ])); (iterate 15 (apply quiet_skip; (case hw => rfl); simp only [Act.put, List.setIfInBounds_toArray, List.set_cons_zero, List.set_cons_succ])); (iterate 2 (apply quiet_want; (case hw => rfl); (case hval => (intro w1 hw1; have hcx := Low.cells hw1; simp only [Oper.quietAt]; go_simp; first | done | (first | fail) | rfl | exact ⟨rfl, rfl⟩)); simp only [Act.put, List.setIfInBounds_toArray, List.set_cons_zero, List.set_cons_succ])); (iterate 15 (apply quiet_skip; (case hw => rfl); simp only [Act.put, List.setIfInBounds_toArray, List.set_cons_zero, List.set_cons_succ])); (iterate 1 (apply quiet_want; (case hw => rfl); (case hval => (intro w1 hw1; have hcx := Low.cells hw1; simp only [Oper.quietAt]; go_simp; first | done | (first | fail) | rfl | exact ⟨rfl, rfl⟩)); simp only [Act.put, List.setIfInBounds_toArray, List.set_cons_zero, List.set_cons_succ])); refine wpQuiet_nil ?_; intro w2 hw2)
    have BZ := Lib.hid (BwB.out.trans (hw2.out.mono BwB.out.size))
    clear hw2 v0 v1 w0' w1'
    go_wp2
    go_ret
    exact ⟨rfl, BZ.out⟩
  cases dC : decide (M3 < -100000)
  rotate_left
  · (refine wp_region_lows ?_; (iterate 41 (apply quiet_want; (case hw => rfl); (case hval => (intro w1 hw1; have hcx := Low.cells hw1; simp only [Oper.quietAt]; go_simp; first | done | (first | fail) | rfl | exact ⟨rfl, rfl⟩)); simp only [Act.put, List.setIfInBounds_toArray, List.set_cons_zero, List.set_cons_succ])); (iterate 15 (apply quiet_skip; (case hw => rfl); simp only [Act.put, List.setIfInBounds_toArray, List.set_cons_zero, List.set_cons_succ])); (iterate 2 (apply quiet_want; (case hw => rfl); (case hval => (intro w1 hw1; have hcx := Low.cells hw1; simp only [Oper.quietAt]; go_simp; first | done | (first | fail) | rfl | exact ⟨rfl, rfl⟩)); simp only [Act.put, List.setIfInBounds_toArray, List.set_cons_zero, List.set_cons_succ])); (iterate 15 (apply quiet_skip; (case hw => rfl); simp only [Act.put, List.setIfInBounds_toArray, List.set_cons_zero, List.set_cons_succ])); (iterate 1 (apply quiet_want; (case hw => rfl); (case hval => (intro w1 hw1; have hcx := Low.cells hw1; simp only [Oper.quietAt]; go_simp; first | done | (first | fail) | rfl | exact ⟨rfl, rfl⟩)); simp only [Act.put, List.setIfInBounds_toArray, List.set_cons_zero, List.set_cons_succ])); refine wpQuiet_nil ?_; intro w2 hw2)
    have BZ := Lib.hid (BwB.out.trans (hw2.out.mono BwB.out.size))
    clear hw2 v0 v1 w0' w1'
    go_wp2
    go_ret
    exact ⟨rfl, BZ.out⟩
  have hA := dA; have hB := dB; have hC := dC
  rw [decide_eq_false_iff_not] at hA hB hC
  have hb1 : -100000 ≤ x ∧ x ≤ 100000 ∧ -100000 ≤ y ∧ y ≤ 100000 ∧ -100000 ≤ u ∧ u ≤ 100000 ∧ -100000 ≤ v ∧ v ≤ 100000 := by
    have := RR.out.1
    have := RR.out.2.1
    unfold maxI4 at hM1 hM2
    unfold minI4 at hM3
    omega
  have sx := sq_bd (a := x) (m := 100000) (by omega) (by omega)
  have sy := sq_bd (a := y) (m := 100000) (by omega) (by omega)
  have su := sq_bd (a := u) (m := 100000) (by omega) (by omega)
  have sv := sq_bd (a := v) (m := 100000) (by omega) (by omega)
  have sr := sq_bd (a := r) (m := 100000) (by have := RR.out.1; omega) RR.out.1.2
  have ss := sq_bd (a := s) (m := 100000) (by have := RR.out.2.1; omega) RR.out.2.1.2
  have q1 : IntKind.i64.wrap (x * x) = x * x := IntWalk.i64_in _ (by omega)
  have q2 : IntKind.i64.wrap (y * y) = y * y := IntWalk.i64_in _ (by omega)
  have q3 : IntKind.i64.wrap (u * u) = u * u := IntWalk.i64_in _ (by omega)
  have q4 : IntKind.i64.wrap (v * v) = v * v := IntWalk.i64_in _ (by omega)
  have q5 : IntKind.i64.wrap (r * r) = r * r := IntWalk.i64_in _ (by omega)
  have q6 : IntKind.i64.wrap (s * s) = s * s := IntWalk.i64_in _ (by omega)
  have q7 : IntKind.i64.wrap (x * x + y * y) = x * x + y * y := IntWalk.i64_in _ (by omega)
  have q8 : IntKind.i64.wrap (u * u + v * v) = u * u + v * v := IntWalk.i64_in _ (by omega)
  have HBD := Lib.hid hb1
  clear hA hB hC sx sy su sv sr ss hb1
  cases dD : decide (x * x + y * y > r * r)
  rotate_left
  · (refine wp_region_lows ?_; (iterate 58 (apply quiet_want; (case hw => rfl); (case hval => (intro w1 hw1; have hcx := Low.cells hw1; simp only [Oper.quietAt]; go_simp; first | done | (first | fail) | rfl | exact ⟨rfl, rfl⟩)); simp only [Act.put, List.setIfInBounds_toArray, List.set_cons_zero, List.set_cons_succ])); (iterate 15 (apply quiet_skip; (case hw => rfl); simp only [Act.put, List.setIfInBounds_toArray, List.set_cons_zero, List.set_cons_succ])); (iterate 1 (apply quiet_want; (case hw => rfl); (case hval => (intro w1 hw1; have hcx := Low.cells hw1; simp only [Oper.quietAt]; go_simp; first | done | (first | fail) | rfl | exact ⟨rfl, rfl⟩)); simp only [Act.put, List.setIfInBounds_toArray, List.set_cons_zero, List.set_cons_succ])); refine wpQuiet_nil ?_; intro w2 hw2)
    have BZ := Lib.hid (BwB.out.trans (hw2.out.mono BwB.out.size))
    clear hw2 v0 v1 w0' w1'
    go_wp2
    go_ret
    exact ⟨rfl, BZ.out⟩
  cases dE : decide (u * u + v * v > s * s)
  rotate_left
  · (refine wp_region_lows ?_; (iterate 74 (apply quiet_want; (case hw => rfl); (case hval => (intro w1 hw1; have hcx := Low.cells hw1; simp only [Oper.quietAt]; go_simp; first | done | (first | fail) | rfl | exact ⟨rfl, rfl⟩)); simp only [Act.put, List.setIfInBounds_toArray, List.set_cons_zero, List.set_cons_succ])); refine wpQuiet_nil ?_; intro w2 hw2)
    have BZ := Lib.hid (BwB.out.trans (hw2.out.mono BwB.out.size))
    clear hw2 v0 v1 w0' w1'
    go_wp2
    go_ret
    exact ⟨rfl, BZ.out⟩
  have hD := dD; have hE := dE
  rw [decide_eq_false_iff_not] at hD hE
  have NR := Lib.hid (near.out x y u v (by omega) (by omega))
  clear hD hE near
  (refine wp_region_lows ?_; (iterate 74 (apply quiet_want; (case hw => rfl); (case hval => (intro w1 hw1; have hcx := Low.cells hw1; simp only [Oper.quietAt]; go_simp; first | done | (first | fail) | rfl | exact ⟨rfl, rfl⟩)); simp only [Act.put, List.setIfInBounds_toArray, List.set_cons_zero, List.set_cons_succ])); refine wpQuiet_nil ?_; intro w2 hw2)
  clear v0 v1 w0' w1' q1 q2 q3 q4 q5 q6 q7 q8 dA dB dC dD dE hnx hny hnu hnv hM1 hM2 hM3
  obtain ⟨wC, hwq⟩ : ∃ x, x = w2 := ⟨_, rfl⟩
  subst hwq
  replace MB := Lib.hid (MB.out.below hw2.out MB.out.lt)
  replace OB := Lib.hid (OB.out.below hw2.out OB.out.lt)
  replace TB := Lib.hid (TB.out.below hw2.out TB.out.lt)
  replace VB := Lib.hid (VB.out.below hw2.out VB.out.lt)
  replace WB := Lib.hid (WB.out.below hw2.out WB.out.lt)
  have BwC := Lib.hid (BwB.out.trans (hw2.out.mono BwB.out.size))
  clear hw2
  have h0 := MB.out.cell (i := 0) rfl
  have h1 := OB.out.cell (i := 0) rfl
  have h2 := TB.out.cell (i := 0) rfl
  have h3 := TB.out.cell (i := 1) rfl
  have j0 := (BwC.out.cell (p := ⟨bw, ow + a * 5, none⟩) KW.out.1).trans KW.out.2.1
  have j1 := (BwC.out.cell (p := ⟨bw, ow + a * 5 + 1, none⟩) KW.out.1).trans KW.out.2.2
  have j2 := (BwC.out.cell (p := ⟨bwo, owo + b * 5, none⟩) KWO.out.1).trans KWO.out.2.1
  have j3 := (BwC.out.cell (p := ⟨bwo, owo + b * 5 + 1, none⟩) KWO.out.1).trans KWO.out.2.2
  have HT8 := Lib.hid (fun X (hX : Below wC.heap.size wC X) => (And.intro ((hX.cell (p := ⟨w.heap.size, 0, none⟩) (World.block_lt_of_cell? _ _ h0)).trans h0) (And.intro ((hX.cell (p := ⟨w.heap.size + 1, 0, none⟩) (World.block_lt_of_cell? _ _ h1)).trans h1) (And.intro ((hX.cell (p := ⟨w.heap.size + 1 + 1, 0, none⟩) (World.block_lt_of_cell? _ _ h2)).trans h2) (And.intro ((hX.cell (p := ⟨w.heap.size + 1 + 1, 1, none⟩) (World.block_lt_of_cell? _ _ h3)).trans h3) (And.intro ((hX.cell (p := ⟨bw, ow + a * 5, none⟩) (World.block_lt_of_cell? _ _ j0)).trans j0) (And.intro ((hX.cell (p := ⟨bw, ow + a * 5 + 1, none⟩) (World.block_lt_of_cell? _ _ j1)).trans j1) (And.intro ((hX.cell (p := ⟨bwo, owo + b * 5, none⟩) (World.block_lt_of_cell? _ _ j2)).trans j2) (And.intro ((hX.cell (p := ⟨bwo, owo + b * 5 + 1, none⟩) (World.block_lt_of_cell? _ _ j3)).trans j3) trivial)))))))))
  clear h0 h1 h2 h3 j0 j1 j2 j3
  clear MB
  clear OB
  go_upto_region 17 with fail
  go_cut [32, 33] from 274 (fun b1 b2 wx => ∃ x y, b1 = .pointer (some ⟨x, 0, none⟩) ∧ b2 = .pointer (some ⟨y, 0, none⟩) ∧ x ≠ y ∧ wC.heap.size ≤ x ∧ wC.heap.size ≤ y ∧ Has wx x #[.int .i64 px, .int .i64 py] 31 ∧ Has wx y #[.int .i64 qx, .int .i64 qy] 31 ∧ Below wC.heap.size wC wx)
  case first =>
    refine (wpIn_wide (n := 9)).1 ?_
    refine wpIn_region_sched (lets_wide _) 17 (fun X => Below wC.heap.size wC X) (by kernel_rfl) (by kernel_rfl) (by kernel_rfl) fun hH inv0 => ?_
    refine sched_take hH (i := 0) (v := .pointer (some ⟨w.heap.size, 0, none⟩)) (drop_get rfl) (by omega) inv0 (by kernel_rfl) (by kernel_rfl) rfl (fun X hX => ?_) fun inv1 => ?_
    · go_simp
    simp only [Act.put, List.setIfInBounds_toArray, List.set_cons_zero, List.set_cons_succ]
    clear inv0
    refine sched_take hH (i := 1) (v := .slice (some ⟨bw, ow, none⟩) m.ways.length (m.ways.length + c1)) (drop_get rfl) (by omega) inv1 (by kernel_rfl) (by kernel_rfl) rfl (fun X hX => ?_) fun inv2 => ?_
    · obtain ⟨s0, s1, s2, s3, s4, s5, s6, s7, -⟩ := HT8.out X hX; go_simp
    simp only [Act.put, List.setIfInBounds_toArray, List.set_cons_zero, List.set_cons_succ]
    clear inv1
    refine sched_take hH (i := 2) (v := .pointer (some ⟨w.heap.size + 1 + 1, 0, none⟩)) (drop_get rfl) (by omega) inv2 (by kernel_rfl) (by kernel_rfl) rfl (fun X hX => ?_) fun inv3 => ?_
    · go_simp
    simp only [Act.put, List.setIfInBounds_toArray, List.set_cons_zero, List.set_cons_succ]
    clear inv2
    refine sched_take hH (i := 3) (v := .int .i64 (a : Int)) (drop_get rfl) (by omega) inv3 (by kernel_rfl) (by kernel_rfl) rfl (fun X hX => ?_) fun inv4 => ?_
    · obtain ⟨s0, s1, s2, s3, s4, s5, s6, s7, -⟩ := HT8.out X hX; go_simp
    simp only [Act.put, List.setIfInBounds_toArray, List.set_cons_zero, List.set_cons_succ]
    clear inv3
    refine sched_take hH (i := 4) (v := .pointer (some ⟨bw, ow + a * 5, none⟩)) (drop_get rfl) (by omega) inv4 (by kernel_rfl) (by kernel_rfl) rfl (fun X hX => ?_) fun inv5 => ?_
    · go_simp
    simp only [Act.put, List.setIfInBounds_toArray, List.set_cons_zero, List.set_cons_succ]
    clear inv4
    refine sched_take hH (i := 5) (v := .pointer (some ⟨bw, ow + a * 5, none⟩)) (drop_get rfl) (by omega) inv5 (by kernel_rfl) (by kernel_rfl) rfl (fun X hX => ?_) fun inv6 => ?_
    · go_simp
    simp only [Act.put, List.setIfInBounds_toArray, List.set_cons_zero, List.set_cons_succ]
    clear inv5
    refine sched_take hH (i := 6) (v := .agg #[.int .i64 px, .int .i64 py]) (drop_get rfl) (by omega) inv6 (by kernel_rfl) (by kernel_rfl) rfl (fun X hX => ?_) fun inv7 => ?_
    · obtain ⟨s0, s1, s2, s3, s4, s5, s6, s7, -⟩ := HT8.out X hX; go_simp
    simp only [Act.put, List.setIfInBounds_toArray, List.set_cons_zero, List.set_cons_succ]
    clear inv6
    refine sched_take hH (i := 7) (v := .pointer (some ⟨w.heap.size + 1, 0, none⟩)) (drop_get rfl) (by omega) inv7 (by kernel_rfl) (by kernel_rfl) rfl (fun X hX => ?_) fun inv8 => ?_
    · go_simp
    simp only [Act.put, List.setIfInBounds_toArray, List.set_cons_zero, List.set_cons_succ]
    clear inv7
    refine sched_take hH (i := 8) (v := .slice (some ⟨bwo, owo, none⟩) o.ways.length (o.ways.length + c1o)) (drop_get rfl) (by omega) inv8 (by kernel_rfl) (by kernel_rfl) rfl (fun X hX => ?_) fun inv9 => ?_
    · obtain ⟨s0, s1, s2, s3, s4, s5, s6, s7, -⟩ := HT8.out X hX; go_simp
    simp only [Act.put, List.setIfInBounds_toArray, List.set_cons_zero, List.set_cons_succ]
    clear inv8
    refine sched_take hH (i := 9) (v := .pointer (some ⟨w.heap.size + 1 + 1, 1, none⟩)) (drop_get rfl) (by omega) inv9 (by kernel_rfl) (by kernel_rfl) rfl (fun X hX => ?_) fun inv10 => ?_
    · go_simp
    simp only [Act.put, List.setIfInBounds_toArray, List.set_cons_zero, List.set_cons_succ]
    clear inv9
    refine sched_take hH (i := 10) (v := .int .i64 (b : Int)) (drop_get rfl) (by omega) inv10 (by kernel_rfl) (by kernel_rfl) rfl (fun X hX => ?_) fun inv11 => ?_
    · obtain ⟨s0, s1, s2, s3, s4, s5, s6, s7, -⟩ := HT8.out X hX; go_simp
    simp only [Act.put, List.setIfInBounds_toArray, List.set_cons_zero, List.set_cons_succ]
    clear inv10
    refine sched_take hH (i := 11) (v := .pointer (some ⟨bwo, owo + b * 5, none⟩)) (drop_get rfl) (by omega) inv11 (by kernel_rfl) (by kernel_rfl) rfl (fun X hX => ?_) fun inv12 => ?_
    · go_simp
    simp only [Act.put, List.setIfInBounds_toArray, List.set_cons_zero, List.set_cons_succ]
    clear inv11
    refine sched_take hH (i := 12) (v := .pointer (some ⟨bwo, owo + b * 5, none⟩)) (drop_get rfl) (by omega) inv12 (by kernel_rfl) (by kernel_rfl) rfl (fun X hX => ?_) fun inv13 => ?_
    · go_simp
    simp only [Act.put, List.setIfInBounds_toArray, List.set_cons_zero, List.set_cons_succ]
    clear inv12
    refine sched_take hH (i := 13) (v := .agg #[.int .i64 qx, .int .i64 qy]) (drop_get rfl) (by omega) inv13 (by kernel_rfl) (by kernel_rfl) rfl (fun X hX => ?_) fun inv14 => ?_
    · obtain ⟨s0, s1, s2, s3, s4, s5, s6, s7, -⟩ := HT8.out X hX; go_simp
    simp only [Act.put, List.setIfInBounds_toArray, List.set_cons_zero, List.set_cons_succ]
    clear inv13
    clear inv14 hH
    have hS0 : Below wC.heap.size wC wC.drew := Below.drew (Below.refl _ _)
    have hz0 := hS0.size
    generalize wC.drew = X0 at *
    refine sched_all (rs := [14, 15]) (by kernel_rfl) (by simp) hS0 (by simp) (fun i hi' => ?_)
    simp only [List.mem_cons, List.not_mem_nil, or_false] at hi'
    rcases hi' with rfl | rfl
    · skip
      refine okOp_run (drop_get rfl) rfl (v := .pointer (some ⟨X0.heap.size, 0, none⟩)) (w' := X0.alloc (.cells #[.int .i64 0, .int .i64 0] 31)) (by go_simp) ?_
      simp only [Act.put, List.setIfInBounds_toArray, List.set_cons_zero, List.set_cons_succ]
      have hNX0 := Has.new X0 #[.int .i64 0, .int .i64 0] 31
      have hS1 := hS0.alloc (by omega) (.cells #[.int .i64 0, .int .i64 0] 31)
      have hz1 : X0.heap.size < (X0.alloc (.cells #[.int .i64 0, .int .i64 0] 31)).heap.size := by simp
      generalize X0.alloc (.cells #[.int .i64 0, .int .i64 0] 31) = X1 at *
      refine sched_all (rs := [15]) (by kernel_rfl) (by simp) hS1 (by simp) (fun i hi' => ?_)
      simp only [List.mem_cons, List.not_mem_nil, or_false] at hi'
      subst hi'
      refine okOp_run (drop_get rfl) rfl (v := .pointer (some ⟨X1.heap.size, 0, none⟩)) (w' := X1.alloc (.cells #[.int .i64 0, .int .i64 0] 31)) (by go_simp) ?_
      simp only [Act.put, List.setIfInBounds_toArray, List.set_cons_zero, List.set_cons_succ]
      have hNX1 := Has.new X1 #[.int .i64 0, .int .i64 0] 31
      replace hNX0 := hNX0.below ((Below.refl X1.heap.size X1).alloc (Nat.le_refl _) (.cells #[.int .i64 0, .int .i64 0] 31)) hNX0.lt
      have hS2 := hS1.alloc (by omega) (.cells #[.int .i64 0, .int .i64 0] 31)
      have hz2 : X1.heap.size < (X1.alloc (.cells #[.int .i64 0, .int .i64 0] 31)).heap.size := by simp
      generalize X1.alloc (.cells #[.int .i64 0, .int .i64 0] 31) = X2 at *
      refine sched_all (rs := [16]) (by kernel_rfl) (by simp) hS2 (by simp) (fun i hi' => ?_)
      simp only [List.mem_cons, List.not_mem_nil, or_false] at hi'
      subst hi'
      refine okOp_row (drop_get rfl) rfl rfl (g := X0.heap.size) (cells := #[.int .i64 px, .int .i64 py]) rfl rfl hNX0 (by kernel_rfl) rfl (by simp [Value.oneCell']) ?_
      simp only [Act.put, List.setIfInBounds_toArray, List.set_cons_zero, List.set_cons_succ]
      have hP := Has.put (cells := #[.int .i64 px, .int .i64 py]) hNX0
      have hO := Has.keep (cells := #[.int .i64 px, .int .i64 py]) (C := X0.heap.size) hNX1 (by omega)
      have hS3 := Below.setRow hS2 (C := X0.heap.size) (by omega) #[.int .i64 px, .int .i64 py]
      generalize X2.setRow X0.heap.size #[.int .i64 px, .int .i64 py] = X3 at *
      refine sched_done (by kernel_rfl) hS3 ?_
      simp only [List.drop_succ_cons, List.drop_zero]
      refine wpListIn_row rfl rfl (g := X1.heap.size) (cells := #[.int .i64 qx, .int .i64 qy]) rfl rfl hO (by kernel_rfl) rfl (by simp [Value.oneCell']) ?_
      have hP2 := Has.put (cells := #[.int .i64 qx, .int .i64 qy]) hO
      have hP1 := Has.keep (cells := #[.int .i64 qx, .int .i64 qy]) (C := X1.heap.size) hP (by omega)
      have hS4 := Below.setRow hS3 (C := X1.heap.size) (by omega) #[.int .i64 qx, .int .i64 qy]
      generalize X3.setRow X1.heap.size #[.int .i64 qx, .int .i64 qy] = X4 at *
      gi_wp2
      go_meet
      exact ⟨_, _, rfl, rfl, by omega, by omega, by omega, hP1, hP2, hS4⟩
    · skip
      refine okOp_run (drop_get rfl) rfl (v := .pointer (some ⟨X0.heap.size, 0, none⟩)) (w' := X0.alloc (.cells #[.int .i64 0, .int .i64 0] 31)) (by go_simp) ?_
      simp only [Act.put, List.setIfInBounds_toArray, List.set_cons_zero, List.set_cons_succ]
      have hNX0 := Has.new X0 #[.int .i64 0, .int .i64 0] 31
      have hS1 := hS0.alloc (by omega) (.cells #[.int .i64 0, .int .i64 0] 31)
      have hz1 : X0.heap.size < (X0.alloc (.cells #[.int .i64 0, .int .i64 0] 31)).heap.size := by simp
      generalize X0.alloc (.cells #[.int .i64 0, .int .i64 0] 31) = X1 at *
      refine sched_all (rs := [14]) (by kernel_rfl) (by simp) hS1 (by simp) (fun i hi' => ?_)
      simp only [List.mem_cons, List.not_mem_nil, or_false] at hi'
      subst hi'
      refine okOp_run (drop_get rfl) rfl (v := .pointer (some ⟨X1.heap.size, 0, none⟩)) (w' := X1.alloc (.cells #[.int .i64 0, .int .i64 0] 31)) (by go_simp) ?_
      simp only [Act.put, List.setIfInBounds_toArray, List.set_cons_zero, List.set_cons_succ]
      have hNX1 := Has.new X1 #[.int .i64 0, .int .i64 0] 31
      replace hNX0 := hNX0.below ((Below.refl X1.heap.size X1).alloc (Nat.le_refl _) (.cells #[.int .i64 0, .int .i64 0] 31)) hNX0.lt
      have hS2 := hS1.alloc (by omega) (.cells #[.int .i64 0, .int .i64 0] 31)
      have hz2 : X1.heap.size < (X1.alloc (.cells #[.int .i64 0, .int .i64 0] 31)).heap.size := by simp
      generalize X1.alloc (.cells #[.int .i64 0, .int .i64 0] 31) = X2 at *
      refine sched_all (rs := [16]) (by kernel_rfl) (by simp) hS2 (by simp) (fun i hi' => ?_)
      simp only [List.mem_cons, List.not_mem_nil, or_false] at hi'
      subst hi'
      refine okOp_row (drop_get rfl) rfl rfl (g := X1.heap.size) (cells := #[.int .i64 px, .int .i64 py]) rfl rfl hNX1 (by kernel_rfl) rfl (by simp [Value.oneCell']) ?_
      simp only [Act.put, List.setIfInBounds_toArray, List.set_cons_zero, List.set_cons_succ]
      have hP := Has.put (cells := #[.int .i64 px, .int .i64 py]) hNX1
      have hO := Has.keep (cells := #[.int .i64 px, .int .i64 py]) (C := X1.heap.size) hNX0 (by omega)
      have hS3 := Below.setRow hS2 (C := X1.heap.size) (by omega) #[.int .i64 px, .int .i64 py]
      generalize X2.setRow X1.heap.size #[.int .i64 px, .int .i64 py] = X3 at *
      refine sched_done (by kernel_rfl) hS3 ?_
      simp only [List.drop_succ_cons, List.drop_zero]
      refine wpListIn_row rfl rfl (g := X0.heap.size) (cells := #[.int .i64 qx, .int .i64 qy]) rfl rfl hO (by kernel_rfl) rfl (by simp [Value.oneCell']) ?_
      have hP2 := Has.put (cells := #[.int .i64 qx, .int .i64 qy]) hO
      have hP1 := Has.keep (cells := #[.int .i64 qx, .int .i64 qy]) (C := X0.heap.size) hP (by omega)
      have hS4 := Below.setRow hS3 (C := X0.heap.size) (by omega) #[.int .i64 qx, .int .i64 qy]
      generalize X3.setRow X0.heap.size #[.int .i64 qx, .int .i64 qy] = X4 at *
      gi_wp2
      go_meet
      exact ⟨_, _, rfl, rfl, by omega, by omega, by omega, hP1, hP2, hS4⟩
  case rest =>
    obtain ⟨bx, by', rfl, rfl, hxy, hbx, hby, HX0, HY0, hC⟩ := hcut
    have Bwc := Lib.hid (BwC.out.trans (hC.mono BwC.out.size))
    replace TB := Lib.hid (TB.out.below hC TB.out.lt)
    replace VB := Lib.hid (VB.out.below hC VB.out.lt)
    replace WB := Lib.hid (WB.out.below hC WB.out.lt)
    have BX := Lib.hid HX0
    have BY := Lib.hid HY0
    clear hC HX0 HY0
    clear HT8
    obtain ⟨p1, p2, p3, p4⟩ := RR.out.2.2.1
    obtain ⟨p5, p6, p7, p8⟩ := RR.out.2.2.2.1
    have rr := RR.out.2.2.2.2
    obtain ⟨b1, b2, b3, b4, b5, b6, b7, b8⟩ := HBD.out
    have w1' : IntKind.i64.wrap (px + x) = px + x := IntWalk.i64_in _ (by omega)
    have w2' : IntKind.i64.wrap (py + y) = py + y := IntWalk.i64_in _ (by omega)
    have w3' : IntKind.i64.wrap (qx + u) = qx + u := IntWalk.i64_in _ (by omega)
    have w4' : IntKind.i64.wrap (qy + v) = qy + v := IntWalk.i64_in _ (by omega)
    have sR := sq_bd (a := R) (m := 100000) (by omega) rr.2
    have w5' : IntKind.i64.wrap (R * R) = R * R := IntWalk.i64_in _ (by omega)
    have fs := Lib.hid (fun w1 => rsquare_any ⟨px + x, py + y⟩ ⟨qx + u, qy + v⟩ w1 (place_iff.2 (by dsimp only; omega)) (place_iff.2 (by dsimp only; omega)))
    have fa := Lib.hid at38_any
    have dN : decide (dsq ⟨px + x, py + y⟩ ⟨qx + u, qy + v⟩ ≤ R * R) = true := by rw [decide_eq_true_eq]; exact NR.out
    clear p1 p2 p3 p4 p5 p6 p7 p8 rr b1 b2 b3 b4 b5 b6 b7 b8 sR NR RR HBD
    generalize dsq ⟨px + x, py + y⟩ ⟨qx + u, qy + v⟩ = DQ at *
    have v0 := Low.fact (VB.out.cell (i := 0) rfl)
    have v1 := Low.fact (VB.out.cell (i := 1) rfl)
    have u0 := Low.fact (WB.out.cell (i := 0) rfl)
    have u1 := Low.fact (WB.out.cell (i := 1) rfl)
    have g0 := Low.fact (BX.out.cell (i := 0) rfl)
    have g1 := Low.fact (BX.out.cell (i := 1) rfl)
    have g2 := Low.fact (BY.out.cell (i := 0) rfl)
    have g3 := Low.fact (BY.out.cell (i := 1) rfl)
    have t2 := Low.fact (TB.out.cell (i := 2) rfl)
    go_wp2
    (refine wp_region_low (by kernel_rfl) (by kernel_rfl) ?_; (iterate 33 (apply quiet_want; (case hw => rfl); (case hval => (intro w1 hw1; have hcx := Low.cells hw1; simp only [Oper.quietAt]; go_simp; first | done | (first | (go_at_call 18; with_reducible exact (Low.calls hw1 (fa.out _ _ _))) | (go_at_call 17; with_reducible exact (Low.calls hw1 (fs.out _)))) | rfl | exact ⟨rfl, rfl⟩)); simp only [Act.put, List.setIfInBounds_toArray, List.set_cons_zero, List.set_cons_succ])); refine wpQuiet_nil ?_; intro w2 hw2)
    have BZ := Lib.hid (Bwc.out.trans (hw2.out.mono Bwc.out.size))
    clear hw2 v0 v1 u0 u1 g0 g1 g2 g3 t2
    go_wp2
    go_ret
    exact ⟨rfl, BZ.out⟩

set_option maxRecDepth 100000 in
theorem lifted (os : Os) (started : os.Started) (H : Type) (enc : TypeId × Value → H) :
    ReturnsInHanded {} Tryz.checked os 3 .any (Rows.trystMeetsSpec.pre6 enc Tryz.prog Tryz.f3 Rows.trystMeetsRow.domain false) (Rows.trystMeetsSpec.post enc Tryz.prog Tryz.f3 false true false false) := by
  refine returnsInHanded_of_change_sized (C := Tryz.checked) own started (by kernel_rfl) Tryz.func3
    (ChangeSpec.witness6 (enc := enc) (C := Tryz.checked) false ⟨#[], #[.agg #[.slice none 0 0, .slice none 0 0, .int .i64 0, .slice none 0 0, .int .i64 0, .int .i64 0, .int .i64 0, .int .i64 0, .int .i64 0, .int .i64 0, .int .i64 0], .agg #[.slice none 0 0, .slice none 0 0, .int .i64 0, .slice none 0 0, .int .i64 0, .int .i64 0, .int .i64 0, .int .i64 0, .int .i64 0, .int .i64 0, .int .i64 0], .slice none 0 0, .slice none 0 0, .agg #[.int .i64 0, .int .i64 0, .int .i64 0, .int .i64 0], .agg #[.int .i64 0, .int .i64 0], .agg #[.int .i64 0, .int .i64 0]], []⟩ 8 (by kernel_rfl) (by kernel_rfl) (by kernel_rfl) (by kernel_rfl)) ?_
  intro W base args ds gs before hval0 hW hcnd hsz0 _
  have hval : ∀ (j : Nat) t v, Tryz.f3.params[j]? = some t → args[j]? = some v → Value.okWide Tryz.prog W .any base t v := hval0
  have hW' := hW
  obtain ⟨p, q, hA0, hV, rfl, hfz, hnd⟩ := hW
  have hA : DataW.TrodAll enc Tryz.prog W 0 (fun _ => true) true Tryz.f3.params.toList args.toList ds p := hA0
  have hsz : (DataW.weightsEach Tryz.prog (Tryz.f3.params.toList ++ Rows.trystMeetsSpec.plain.varTypes Tryz.prog) (ds ++ gs)).all (· ≤ reachBytes) = true := hsz0
  rw [Tryz.params3] at hA hval hsz
  obtain ⟨v0, vs0, d0, ds0, p0, q0, hargs, rfl, rfl, h0, r0⟩ := trodAll_cons hA
  obtain ⟨v1, vs1, d1, ds1, p1, q1, rfl, rfl, rfl, h1, r1⟩ := trodAll_cons r0
  obtain ⟨v2, vs2, d2, ds2, p2, q2, rfl, rfl, rfl, h2, r2⟩ := trodAll_cons r1
  obtain ⟨v3, vs3, d3, ds3, p3, q3, rfl, rfl, rfl, h3, r3⟩ := trodAll_cons r2
  obtain ⟨v4, vs4, d4, ds4, p4, q4, rfl, rfl, rfl, h4, r4⟩ := trodAll_cons r3
  obtain ⟨v5, vs5, d5, ds5, p5, q5, rfl, rfl, rfl, h5, r5⟩ := trodAll_cons r4
  obtain ⟨v6, vs6, d6, ds6, p6, q6, rfl, rfl, rfl, h6, r6⟩ := trodAll_cons r5
  obtain ⟨rfl, rfl, rfl⟩ := trodAll_nil r6
  obtain rfl : args = #[v0, v1, v2, v3, v4, v5, v6] := by cases args; simp_all
  obtain ⟨rfl, rfl⟩ := trodVars_none hV
  have k0 := h0
  have lt0 : ∀ x ∈ p0, x.block < W.heap.size := by obtain ⟨m, hm⟩ := k0; exact DataW.trod_lt m _ _ _ hm
  have z0 : ∀ n ∈ d0.weights Tryz.prog 26, n ≤ reachBytes := fun n hn => by have := List.all_eq_true.1 hsz n (DataW.weights_mem_each (j := 0) (t := 26) (d := d0) rfl rfl n hn); simpa using this
  obtain ⟨a0, vw0, vh0, vr0, rfl, w0⟩ := open_msn (hval 0 26 v0 rfl rfl) h0 z0
  have k1 := h1
  have lt1 : ∀ x ∈ p1, x.block < W.heap.size := by obtain ⟨m, hm⟩ := k1; exact DataW.trod_lt m _ _ _ hm
  have z1 : ∀ n ∈ d1.weights Tryz.prog 26, n ≤ reachBytes := fun n hn => by have := List.all_eq_true.1 hsz n (DataW.weights_mem_each (j := 1) (t := 26) (d := d1) rfl rfl n hn); simpa using this
  obtain ⟨a1, vw1, vh1, vr1, rfl, w1⟩ := open_msn (hval 1 26 v1 rfl rfl) h1 z1
  have k2 := h2
  have lt2 : ∀ x ∈ p2, x.block < W.heap.size := by obtain ⟨m, hm⟩ := k2; exact DataW.trod_lt m _ _ _ hm
  have z2 : ∀ n ∈ d2.weights Tryz.prog 27, n ≤ reachBytes := fun n hn => by have := List.all_eq_true.1 hsz n (DataW.weights_mem_each (j := 2) (t := 27) (d := d2) rfl rfl n hn); simpa using this
  obtain ⟨a2, w2⟩ := open_ints_arg (hval 2 27 v2 rfl rfl) h2 z2
  have k3 := h3
  have lt3 : ∀ x ∈ p3, x.block < W.heap.size := by obtain ⟨m, hm⟩ := k3; exact DataW.trod_lt m _ _ _ hm
  have z3 : ∀ n ∈ d3.weights Tryz.prog 27, n ≤ reachBytes := fun n hn => by have := List.all_eq_true.1 hsz n (DataW.weights_mem_each (j := 3) (t := 27) (d := d3) rfl rfl n hn); simpa using this
  obtain ⟨a3, w3⟩ := open_ints_arg (hval 3 27 v3 rfl rfl) h3 z3
  have k4 := h4
  have lt4 : ∀ x ∈ p4, x.block < W.heap.size := by obtain ⟨m, hm⟩ := k4; exact DataW.trod_lt m _ _ _ hm
  obtain ⟨a4, b4, c4, d4', rfl⟩ := open_tryst (hval 4 29 v4 rfl rfl) h4
  have k5 := h5
  have lt5 : ∀ x ∈ p5, x.block < W.heap.size := by obtain ⟨m, hm⟩ := k5; exact DataW.trod_lt m _ _ _ hm
  obtain ⟨a5, b5, rfl⟩ := open_point (hval 5 31 v5 rfl rfl) h5
  have k6 := h6
  have lt6 : ∀ x ∈ p6, x.block < W.heap.size := by obtain ⟨m, hm⟩ := k6; exact DataW.trod_lt m _ _ _ hm
  obtain ⟨a6, b6, rfl⟩ := open_point (hval 6 31 v6 rfl rfl) h6
  clear hA0 hval0
  refine (walk W a0 vw0 vh0 vr0 a1 vw1 vh1 vr1 v2 a2 v3 a3 a4 b4 c4 d4' a5 b5 a6 b6 w0 w1 w2 w3).mono fun e W' ⟨he, bel⟩ => ?_
  subst he
  exact ⟨_, rfl, _, _, _, [], _, [], hW', trodAll_mk1 (shut_bool Tryz.underlying4 _), (trodAll_cons_mk (Below.trod laidOut (by kernel_rfl) (of_decide_eq_true (by kernel_rfl)) k0 bel lt0) (trodAll_cons_mk (Below.trod laidOut (by kernel_rfl) (of_decide_eq_true (by kernel_rfl)) k1 bel lt1) (trodAll_cons_mk (Below.trod laidOut (by kernel_rfl) (of_decide_eq_true (by kernel_rfl)) k2 bel lt2) (trodAll_cons_mk (Below.trod laidOut (by kernel_rfl) (of_decide_eq_true (by kernel_rfl)) k3 bel lt3) (trodAll_cons_mk (Below.trod laidOut (by kernel_rfl) (of_decide_eq_true (by kernel_rfl)) k4 bel lt4) (trodAll_cons_mk (Below.trod laidOut (by kernel_rfl) (of_decide_eq_true (by kernel_rfl)) k5 bel lt5) (trodAll_cons_mk (Below.trod laidOut (by kernel_rfl) (of_decide_eq_true (by kernel_rfl)) k6 bel lt6) trodAll_mk0))))))), rfl, bel.frame _, fun h => by cases h⟩

theorem over : Rows.trystMeetsRow.holds Tryz.pinned (OpenSpec.ofChange Rows.trystMeetsSpec) :=
  OpenClaim.holds_of_wide 3 Tryz.f3 rfl rfl rfl rfl rfl rfl rfl ⟨rfl, rfl, rfl, rfl, rfl⟩ rfl rfl rfl rfl rfl (by kernel_rfl) Tryz.func3 (by kernel_rfl)
    (of_decide_eq_true (by kernel_rfl)) (by unfold Func.isWrapper; first | (rw [if_pos (by decide +kernel)]; kernel_rfl) | (rw [if_neg (by decide +kernel)]; exact ⟨rfl, rfl⟩))
    (fun os started H enc _ => lifted os started H enc)

/-- the statement -/
theorem proved : Rows.TrystMeetsSaid := over
#print axioms proved
end Go.Proofs.YtfbdidfaeplllaaGreat.trystMeets
