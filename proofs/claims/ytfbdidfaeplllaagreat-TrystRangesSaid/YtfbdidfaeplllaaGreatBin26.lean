/- package tryst: has, disk. | package tryst: meet. | The range of two polygons, plainly: either way round, moved, of one corner; no places are farther from each other. -/
import Derived.Test.YtfbdidfaeplllaaGreatBin17
import Derived.Test.YtfbdidfaeplllaaGreatBin25
import Derived.Test.YtfbdidfaeplllaaGreatBin24
import Derived.Test.YtfbdidfaeplllaaGreatBin06
import Derived.Test.YtfbdidfaeplllaaGreatBin22
namespace Go.Proofs.YtfbdidfaeplllaaGreat
open Go.RowKit
attribute [local irreducible] wpQuiet

theorem rdAU_length (m : Msn) (l : List Int) : (rdAU m l).length = m.ways.length := by unfold rdAU; exact upto_length _ _
theorem usedT_length (m : Msn) (l : List Int) : (usedT m l).length = m.ways.length := by unfold usedT; exact upto_length _ _
theorem upto_getD (f : Nat → Int) {n j : Nat} (h : j < n) : (upto f n).getD j 0 = f j := by simp [upto, List.getD, h]
theorem ints_cells0 {n0 : Nat} {W : World} {v : Value} {l : List Int} (h : IntsAt n0 W v l) (h0 : 0 < l.length) : ∃ b o cap, v = .slice (some ⟨b, o, none⟩) l.length (l.length + cap) ∧ b < n0 ∧ ∀ j, j < l.length → W.cell? ⟨b, o + j, none⟩ = some (.int .i64 (l.getD j 0)) := by
  obtain ⟨_, a, cap, e, hc⟩ := h
  rcases hc with rfl | ⟨b, o, rfl, hb, hc⟩
  · simp at h0
  · exact ⟨b, o, cap, e, hb, hc⟩
theorem way_near4 {m : Msn} (V : VMsn m) {k : Nat} (h : k < m.ways.length) : (-400000 ≤ (wy m.ways k).x ∧ (wy m.ways k).x ≤ 400000 ∧ -400000 ≤ (wy m.ways k).y ∧ (wy m.ways k).y ≤ 400000) := by
  have := wayB_true (waysB_at V.ways h)
  omega
/-- the disk of a radius, moved to a place that is not at the border -/
theorem dsk_ok {a : Pt} {u : Int} (ha : -400000 ≤ a.x ∧ a.x ≤ 400000 ∧ -400000 ≤ a.y ∧ a.y ≤ 400000) (hu : 0 ≤ u ∧ u ≤ 100000) :
    dskE u = 0 ∧ dskL u = diskP u.toNat ∧ shE (diskP u.toNat) a = 0 ∧ shL (diskP u.toNat) a = mvL a (diskP u.toNat) ∧ GoValid (mvL a (diskP u.toNat)) := by
  have r : radOk u = true := by simp [radOk]; omega
  obtain ⟨-, h1, -⟩ := corE_zero (cor_near ha ha hu hu)
  have V := disk_valid (n := u.toNat) (by omega)
  have pa : placeP a = true := place_iff.2 (by omega)
  have e : shE (diskP u.toNat) a = 0 := by simp [shE, goValid_of V, pa, h1]
  refine ⟨by simp [dskE, r], by simp [dskL, r], e, by simp [shL, e], ?_⟩
  have := goValid_mv a V
  rw [h1] at this
  simpa [goValid] using this
/-- where a vehicle can be at a way -/
noncomputable def dskP (m : Msn) (l : List Int) (k : Nat) : List Pt := mvL ⟨(wy m.ways k).x, (wy m.ways k).y⟩ (diskP (rdA m l k).toNat)
theorem dskP_valid {m : Msn} (V : VMsn m) (l : List Int) {k : Nat} (h : k < m.ways.length) : GoValid (dskP m l k) := by
  have r := rd_le V l h
  exact (dsk_ok (a := ⟨(wy m.ways k).x, (wy m.ways k).y⟩) (way_near4 V h) ⟨r.2.2.1, r.2.2.2⟩).2.2.2.2

set_option linter.unusedSimpArgs false in
set_option linter.unusedVariables false in
set_option maxRecDepth 8000 in
set_option maxHeartbeats 1600000 in
theorem thas_any (m : Msn) (vw vh vr va vt : Value) (l l' l2 : List Int) (k : Int) (w : World) (hm : MsnAt w.heap.size w m vw vh vr) (ha : IntsAt w.heap.size w va l) (ht : IntsAt w.heap.size w vt l2) :
    Calls Tryz.prog 42 #[.agg (vehCells m vw vh vr va vt), .int .i64 k] w fun e w' => e = .returned (.bool (decide (k ≥ 0) && decide (k < (m.ways.length : Int)))) ∧ Below w.heap.size w w' := by
  obtain ⟨⟨-, a1, cap1, rfl, -⟩, ⟨-, a2, cap2, rfl, -⟩, ⟨-, a3, cap3, rfl, -⟩⟩ := hm
  obtain ⟨-, ba, ca, rfl, -⟩ := ha
  obtain ⟨-, bt, ct, rfl, -⟩ := ht
  unfold vehCells
  have B0 := Lib.hid (Below.refl w.heap.size w)
  cases d : decide (k ≥ 0)
  all_goals
    have q0 := Has.new w #[.slice a1 m.ways.length (m.ways.length + cap1), .slice a2 m.home.length (m.home.length + cap2), .int .i64 m.start, .slice a3 m.rocks.length (m.rocks.length + cap3), .int .i64 m.speed, .int .i64 m.part, .int .i64 m.flow, .int .i64 m.idle, .int .i64 m.drive, .int .i64 m.battery, .int .i64 m.deadline, .slice ba l.length (l.length + ca), .slice bt l2.length (l2.length + ct)] 72
    have c0 := q0.cell (i := 0) rfl
    have BZ := Lib.hid (B0.out.alloc (Nat.le_refl _) (.cells #[.slice a1 m.ways.length (m.ways.length + cap1), .slice a2 m.home.length (m.home.length + cap2), .int .i64 m.start, .slice a3 m.rocks.length (m.rocks.length + cap3), .int .i64 m.speed, .int .i64 m.part, .int .i64 m.flow, .int .i64 m.idle, .int .i64 m.drive, .int .i64 m.battery, .int .i64 m.deadline, .slice ba l.length (l.length + ca), .slice bt l2.length (l2.length + ct)] 72))
    clear q0
    go_enter Tryz.func42, Tryz.ntmps42
    go_wp2
    go_ret
    exact ⟨rfl, BZ.out⟩

set_option linter.unusedSimpArgs false in
set_option linter.unusedVariables false in
set_option maxRecDepth 8000 in
set_option maxHeartbeats 1600000 in
theorem tdisk_any (m : Msn) (vw vh vr va vt : Value) (l : List Int) (hV : radOkB m l = true) (k : Nat) (hk : k < m.ways.length) (w : World) (hm : MsnAt w.heap.size w m vw vh vr) (ha : IntsAt w.heap.size w va (rdAU m l)) (ht : IntsAt w.heap.size w vt (usedT m l)) :
    Calls Tryz.prog 77 #[.agg (vehCells m vw vh vr va vt), .int .i64 k] w fun e w' => ∃ v, e = .returned v ∧ PtsAt w'.heap.size w' v (dskP m l k) ∧ Below w.heap.size w w' := by
  have hvs : validB m = true ∧ stopsB m l = true := by simpa [radOkB] using hV
  have VV := (validB_iff m).1 hvs.1
  have n41 := VV.n41
  have hr := (rd_le VV l hk).2.2
  obtain ⟨e1, e2, e3, e4, -⟩ := dsk_ok (a := ⟨(wy m.ways k).x, (wy m.ways k).y⟩) (way_near4 VV hk) hr
  have f1 := fun w1 => mdisk_any (rdA m l k) w1
  rw [e1, e2] at f1
  have f2 := fun v w1 h => mshift_any v (diskP (rdA m l k).toNat) ⟨(wy m.ways k).x, (wy m.ways k).y⟩ w1 h
  rw [e3, e4] at f2
  unfold dskP
  generalize diskP (rdA m l k).toNat = dl at *
  generalize mvL ⟨(wy m.ways k).x, (wy m.ways k).y⟩ dl = ml at *
  replace f1 := Lib.hid f1
  replace f2 := Lib.hid f2
  have M0 := Lib.hid hm
  obtain ⟨bw, ow, cap1, rfl, hbw, hcw⟩ := hm.1.cells (by omega)
  obtain ⟨ba, oa, ca, hva, hba, hca⟩ := ints_cells0 ha (by rw [rdAU_length]; omega)
  obtain ⟨bt, ot, ct, hvt, hbt, hct⟩ := ints_cells0 ht (by rw [usedT_length]; omega)
  rw [rdAU_length] at hva hca
  rw [usedT_length] at hvt hct
  subst hva
  subst hvt
  obtain ⟨-, ⟨-, a2, cap2, rfl, -⟩, ⟨-, a3, cap3, rfl, -⟩⟩ := hm
  unfold vehCells at *
  have hk' : (k : Int) < m.ways.length := by omega
  have hk0 : (0 : Int) ≤ k := by omega
  have ka := Lib.hid (show w.cell? ⟨ba, oa + k, none⟩ = some (.int .i64 (rdA m l k)) from (hca k hk).trans (by rw [rdAU, upto_getD _ hk]))
  have kw := Lib.hid (And.intro (hcw k hk).1 (hcw k hk).2.1)
  have hW := Lib.hid (And.intro hba hbw)
  have B0 := Lib.hid (Below.refl w.heap.size w)
  clear hca hcw hct hba hbw hbt hvs VV hV e1 e2 e3 e4
  generalize rdA m l k = r at *
  generalize (wy m.ways k).x = px at *
  generalize (wy m.ways k).y = py at *
  go_enter Tryz.func77, Tryz.ntmps77
  have p0 := ((Below.refl w.heap.size w).alloc (Nat.le_refl _) (.cells #[.slice (some ⟨bw, ow, none⟩) m.ways.length (m.ways.length + cap1), .slice a2 m.home.length (m.home.length + cap2), .int .i64 m.start, .slice a3 m.rocks.length (m.rocks.length + cap3), .int .i64 m.speed, .int .i64 m.part, .int .i64 m.flow, .int .i64 m.idle, .int .i64 m.drive, .int .i64 m.battery, .int .i64 m.deadline, .slice (some ⟨ba, oa, none⟩) m.ways.length (m.ways.length + ca), .slice (some ⟨bt, ot, none⟩) m.ways.length (m.ways.length + ct)] 72)).cell (p := ⟨ba, oa + k, none⟩) hW.out.1 |>.trans ka.out
  have q0 := Has.new w #[.slice (some ⟨bw, ow, none⟩) m.ways.length (m.ways.length + cap1), .slice a2 m.home.length (m.home.length + cap2), .int .i64 m.start, .slice a3 m.rocks.length (m.rocks.length + cap3), .int .i64 m.speed, .int .i64 m.part, .int .i64 m.flow, .int .i64 m.idle, .int .i64 m.drive, .int .i64 m.battery, .int .i64 m.deadline, .slice (some ⟨ba, oa, none⟩) m.ways.length (m.ways.length + ca), .slice (some ⟨bt, ot, none⟩) m.ways.length (m.ways.length + ct)] 72
  go_wp2_with fail
  have VB := Lib.hid (show Has (w.alloc (.cells #[.slice (some ⟨bw, ow, none⟩) m.ways.length (m.ways.length + cap1), .slice a2 m.home.length (m.home.length + cap2), .int .i64 m.start, .slice a3 m.rocks.length (m.rocks.length + cap3), .int .i64 m.speed, .int .i64 m.part, .int .i64 m.flow, .int .i64 m.idle, .int .i64 m.drive, .int .i64 m.battery, .int .i64 m.deadline, .slice (some ⟨ba, oa, none⟩) m.ways.length (m.ways.length + ca), .slice (some ⟨bt, ot, none⟩) m.ways.length (m.ways.length + ct)] 72)) (w.heap.size) #[.slice (some ⟨bw, ow, none⟩) m.ways.length (m.ways.length + cap1), .slice a2 m.home.length (m.home.length + cap2), .int .i64 m.start, .slice a3 m.rocks.length (m.rocks.length + cap3), .int .i64 m.speed, .int .i64 m.part, .int .i64 m.flow, .int .i64 m.idle, .int .i64 m.drive, .int .i64 m.battery, .int .i64 m.deadline, .slice (some ⟨ba, oa, none⟩) m.ways.length (m.ways.length + ca), .slice (some ⟨bt, ot, none⟩) m.ways.length (m.ways.length + ct)] 72 from q0)
  have BX0 := Lib.hid (B0.out.trans ((((Below.refl w.heap.size w).alloc (Nat.le_refl _) (.cells #[.slice (some ⟨bw, ow, none⟩) m.ways.length (m.ways.length + cap1), .slice a2 m.home.length (m.home.length + cap2), .int .i64 m.start, .slice a3 m.rocks.length (m.rocks.length + cap3), .int .i64 m.speed, .int .i64 m.part, .int .i64 m.flow, .int .i64 m.idle, .int .i64 m.drive, .int .i64 m.battery, .int .i64 m.deadline, .slice (some ⟨ba, oa, none⟩) m.ways.length (m.ways.length + ca), .slice (some ⟨bt, ot, none⟩) m.ways.length (m.ways.length + ct)] 72))).mono B0.out.size))
  generalize hXX0 : (w.alloc (.cells #[.slice (some ⟨bw, ow, none⟩) m.ways.length (m.ways.length + cap1), .slice a2 m.home.length (m.home.length + cap2), .int .i64 m.start, .slice a3 m.rocks.length (m.rocks.length + cap3), .int .i64 m.speed, .int .i64 m.part, .int .i64 m.flow, .int .i64 m.idle, .int .i64 m.drive, .int .i64 m.battery, .int .i64 m.deadline, .slice (some ⟨ba, oa, none⟩) m.ways.length (m.ways.length + ca), .slice (some ⟨bt, ot, none⟩) m.ways.length (m.ways.length + ct)] 72)) = X0 at *
  clear hXX0
  clear q0
  have hz0 := BX0.out.size
  refine (f1.out _).mono ?_
  rintro e w1 ⟨v1, rfl, p1, b1⟩
  have B1 := Lib.hid (BX0.out.trans (b1.mono BX0.out.size))
  replace VB := Lib.hid (VB.out.below b1 VB.out.lt)
  have PD := Lib.hid p1
  obtain ⟨g1, c1, hv1⟩ := p1.len
  subst hv1
  clear p1 p0
  clear b1
  have q0 := VB.out.cell (i := 0) rfl
  have p0 := (B1.out.cell (p := ⟨bw, ow + k * 5, none⟩) hW.out.2).trans kw.out.1
  have p1 := (B1.out.cell (p := ⟨bw, ow + k * 5 + 1, none⟩) hW.out.2).trans kw.out.2
  go_wp2_with fail
  refine (f2.out _ _ PD.out).mono ?_
  rintro e w2 ⟨v2, rfl, p2, b2⟩
  have B2 := Lib.hid (B1.out.trans (b2.mono B1.out.size))
  replace VB := Lib.hid (VB.out.below b2 VB.out.lt)
  replace PD := Lib.hid ((PD.out.below b2).mono b2.size)
  have PM := Lib.hid p2
  obtain ⟨g2, c2, hv2⟩ := p2.len
  subst hv2
  clear p2 q0 p0 p1
  clear b2
  go_wp2
  go_ret
  exact ⟨_, rfl, PM.out, B2.out⟩
end Go.Proofs.YtfbdidfaeplllaaGreat

namespace Go.Proofs.YtfbdidfaeplllaaGreat
open Go.RowKit
attribute [local irreducible] wpQuiet

/-- whether two vehicles meet at their ways a and b -/
noncomputable def meetB (m : Msn) (l : List Int) (o : Msn) (lo : List Int) (a b : Nat) (R W : Int) : Bool :=
  decide (rangeV (dskP m l a) (dskP o lo b) ≤ R) && (decide (usT m l a - usT o lo b ≤ W) && decide (-(usT m l a - usT o lo b) ≤ W))

set_option linter.unusedSimpArgs false in
set_option linter.unusedVariables false in
set_option maxRecDepth 8000 in
set_option maxHeartbeats 3200000 in
theorem tmeet_any (m o : Msn) (vw vh vr va vt vwo vho vro vao vto : Value) (l lo : List Int) (hV : radOkB m l = true) (hVo : radOkB o lo = true) (a b : Nat) (R Wt : Int) (hk : a < m.ways.length) (hko : b < o.ways.length) (w : World) (hm : MsnAt w.heap.size w m vw vh vr) (ha : IntsAt w.heap.size w va (rdAU m l)) (ht : IntsAt w.heap.size w vt (usedT m l)) (hmo : MsnAt w.heap.size w o vwo vho vro) (hao : IntsAt w.heap.size w vao (rdAU o lo)) (hto : IntsAt w.heap.size w vto (usedT o lo)) :
    Calls Tryz.prog 44 #[.agg (vehCells m vw vh vr va vt), .agg (vehCells o vwo vho vro vao vto), .agg #[.int .i64 a, .int .i64 b, .int .i64 R, .int .i64 Wt]] w fun e w' => e = .returned (.bool (meetB m l o lo a b R Wt)) ∧ Below w.heap.size w w' := by
  have hvs : validB m = true ∧ stopsB m l = true := by simpa [radOkB] using hV
  have hvo : validB o = true ∧ stopsB o lo = true := by simpa [radOkB] using hVo
  have VV := (validB_iff m).1 hvs.1
  have VO := (validB_iff o).1 hvo.1
  have n41 := VV.n41
  have n41o := VO.n41
  have f1 := fun w1 => tdisk_any m vw vh vr va vt l hV a hk w1
  have f2 := fun w1 => tdisk_any o vwo vho vro vao vto lo hVo b hko w1
  have f3 := fun u v w1 h1 h2 => range_any u v (dskP m l a) (dskP o lo b) w1 h1 h2
  have u1 := used_bd VV l a hk
  have u2 := used_bd VO lo b hko
  unfold meetB
  generalize dskP m l a = p1 at *
  generalize dskP o lo b = p2 at *
  generalize rangeV p1 p2 = N at *
  generalize rangeE p1 p2 = E at *
  have MM := Lib.hid hm
  have MA := Lib.hid ha
  have MT := Lib.hid ht
  have OM := Lib.hid hmo
  have OA := Lib.hid hao
  have OT := Lib.hid hto
  obtain ⟨bw, ow, c1, rfl, hbw, hcw⟩ := hm.1.cells (by omega)
  obtain ⟨ba, oa, ca, hva, hba, hca⟩ := ints_cells0 ha (by rw [rdAU_length]; omega)
  obtain ⟨bt, ot, ct, hvt, hbt, hct⟩ := ints_cells0 ht (by rw [usedT_length]; omega)
  rw [rdAU_length] at hva hca
  rw [usedT_length] at hvt hct
  subst hva
  subst hvt
  obtain ⟨-, ⟨-, a2, c2, rfl, -⟩, ⟨-, a3, c3, rfl, -⟩⟩ := hm
  obtain ⟨bwo, owo, c1o, rfl, hbwo, hcwo⟩ := hmo.1.cells (by omega)
  obtain ⟨bao, oao, cao, hvao, hbao, hcao⟩ := ints_cells0 hao (by rw [rdAU_length]; omega)
  obtain ⟨bto, oto, cto, hvto, hbto, hcto⟩ := ints_cells0 hto (by rw [usedT_length]; omega)
  rw [rdAU_length] at hvao hcao
  rw [usedT_length] at hvto hcto
  subst hvao
  subst hvto
  obtain ⟨-, ⟨-, a2o, c2o, rfl, -⟩, ⟨-, a3o, c3o, rfl, -⟩⟩ := hmo
  have kt := Lib.hid (show w.cell? ⟨bt, ot + a, none⟩ = some (.int .i64 (usT m l a)) from (hct a hk).trans (by rw [usedT, upto_getD _ hk]))
  have kto := Lib.hid (show w.cell? ⟨bto, oto + b, none⟩ = some (.int .i64 (usT o lo b)) from (hcto b hko).trans (by rw [usedT, upto_getD _ hko]))
  have hW := Lib.hid (And.intro hbt hbto)
  have ua : 0 ≤ usT m l a ∧ usT m l a ≤ 4100000000 := by omega
  have ub : 0 ≤ usT o lo b ∧ usT o lo b ≤ 4100000000 := by omega
  have ka : (a : Int) < m.ways.length := by omega
  have kb : (b : Int) < o.ways.length := by omega
  have ka0 : (0 : Int) ≤ a := by omega
  have kb0 : (0 : Int) ≤ b := by omega
  clear hca hcw hct hba hbw hbt hcao hcwo hcto hbao hbwo hbto hvs hvo VV VO hV hVo u1 u2 n41 n41o
  generalize usT m l a = T1 at *
  generalize usT o lo b = T2 at *
  obtain ⟨T, hT⟩ : ∃ t, t = T1 - T2 := ⟨_, rfl⟩
  have z1 : IntKind.i64.wrap (T1 - T2) = T := by rw [hT]; exact IntWalk.i64_in _ (by omega)
  have z2 : IntKind.i64.wrap (-T) = -T := IntWalk.i64_in _ (by omega)
  rw [← hT]
  have Z2 := Lib.hid z2
  clear ua ub z2 hT
  unfold vehCells at *
  have B0 := Lib.hid (Below.refl w.heap.size w)
  replace f1 := Lib.hid f1
  replace f2 := Lib.hid f2
  replace f3 := Lib.hid f3
  go_enter Tryz.func44, Tryz.ntmps44
  have q0 := Has.new w #[.slice (some ⟨bw, ow, none⟩) m.ways.length (m.ways.length + c1), .slice a2 m.home.length (m.home.length + c2), .int .i64 m.start, .slice a3 m.rocks.length (m.rocks.length + c3), .int .i64 m.speed, .int .i64 m.part, .int .i64 m.flow, .int .i64 m.idle, .int .i64 m.drive, .int .i64 m.battery, .int .i64 m.deadline, .slice (some ⟨ba, oa, none⟩) m.ways.length (m.ways.length + ca), .slice (some ⟨bt, ot, none⟩) m.ways.length (m.ways.length + ct)] 72
  have q0 := q0.below ((Below.refl (w.heap.size + 1) _).alloc (by simp) (.cells #[.slice (some ⟨bwo, owo, none⟩) o.ways.length (o.ways.length + c1o), .slice a2o o.home.length (o.home.length + c2o), .int .i64 o.start, .slice a3o o.rocks.length (o.rocks.length + c3o), .int .i64 o.speed, .int .i64 o.part, .int .i64 o.flow, .int .i64 o.idle, .int .i64 o.drive, .int .i64 o.battery, .int .i64 o.deadline, .slice (some ⟨bao, oao, none⟩) o.ways.length (o.ways.length + cao), .slice (some ⟨bto, oto, none⟩) o.ways.length (o.ways.length + cto)] 72)) (by omega)
  have q0 := q0.below ((Below.refl (w.heap.size + 2) _).alloc (by simp) (.cells #[.int .i64 a, .int .i64 b, .int .i64 R, .int .i64 Wt] 29)) (by omega)
  have q1 := Has.new (w.alloc (.cells #[.slice (some ⟨bw, ow, none⟩) m.ways.length (m.ways.length + c1), .slice a2 m.home.length (m.home.length + c2), .int .i64 m.start, .slice a3 m.rocks.length (m.rocks.length + c3), .int .i64 m.speed, .int .i64 m.part, .int .i64 m.flow, .int .i64 m.idle, .int .i64 m.drive, .int .i64 m.battery, .int .i64 m.deadline, .slice (some ⟨ba, oa, none⟩) m.ways.length (m.ways.length + ca), .slice (some ⟨bt, ot, none⟩) m.ways.length (m.ways.length + ct)] 72)) #[.slice (some ⟨bwo, owo, none⟩) o.ways.length (o.ways.length + c1o), .slice a2o o.home.length (o.home.length + c2o), .int .i64 o.start, .slice a3o o.rocks.length (o.rocks.length + c3o), .int .i64 o.speed, .int .i64 o.part, .int .i64 o.flow, .int .i64 o.idle, .int .i64 o.drive, .int .i64 o.battery, .int .i64 o.deadline, .slice (some ⟨bao, oao, none⟩) o.ways.length (o.ways.length + cao), .slice (some ⟨bto, oto, none⟩) o.ways.length (o.ways.length + cto)] 72
  rw [World.size_alloc] at q1
  have q1 := q1.below ((Below.refl (w.heap.size + 2) _).alloc (by simp) (.cells #[.int .i64 a, .int .i64 b, .int .i64 R, .int .i64 Wt] 29)) (by omega)
  have q2 := Has.new ((w.alloc (.cells #[.slice (some ⟨bw, ow, none⟩) m.ways.length (m.ways.length + c1), .slice a2 m.home.length (m.home.length + c2), .int .i64 m.start, .slice a3 m.rocks.length (m.rocks.length + c3), .int .i64 m.speed, .int .i64 m.part, .int .i64 m.flow, .int .i64 m.idle, .int .i64 m.drive, .int .i64 m.battery, .int .i64 m.deadline, .slice (some ⟨ba, oa, none⟩) m.ways.length (m.ways.length + ca), .slice (some ⟨bt, ot, none⟩) m.ways.length (m.ways.length + ct)] 72)).alloc (.cells #[.slice (some ⟨bwo, owo, none⟩) o.ways.length (o.ways.length + c1o), .slice a2o o.home.length (o.home.length + c2o), .int .i64 o.start, .slice a3o o.rocks.length (o.rocks.length + c3o), .int .i64 o.speed, .int .i64 o.part, .int .i64 o.flow, .int .i64 o.idle, .int .i64 o.drive, .int .i64 o.battery, .int .i64 o.deadline, .slice (some ⟨bao, oao, none⟩) o.ways.length (o.ways.length + cao), .slice (some ⟨bto, oto, none⟩) o.ways.length (o.ways.length + cto)] 72)) #[.int .i64 a, .int .i64 b, .int .i64 R, .int .i64 Wt] 29
  rw [World.size_alloc, World.size_alloc] at q2
  go_wp2_with fail
  replace MM := Lib.hid ((MM.out.below ((((Below.refl w.heap.size w).alloc (Nat.le_refl _) (.cells #[.slice (some ⟨bw, ow, none⟩) m.ways.length (m.ways.length + c1), .slice a2 m.home.length (m.home.length + c2), .int .i64 m.start, .slice a3 m.rocks.length (m.rocks.length + c3), .int .i64 m.speed, .int .i64 m.part, .int .i64 m.flow, .int .i64 m.idle, .int .i64 m.drive, .int .i64 m.battery, .int .i64 m.deadline, .slice (some ⟨ba, oa, none⟩) m.ways.length (m.ways.length + ca), .slice (some ⟨bt, ot, none⟩) m.ways.length (m.ways.length + ct)] 72)).alloc (by simp) (.cells #[.slice (some ⟨bwo, owo, none⟩) o.ways.length (o.ways.length + c1o), .slice a2o o.home.length (o.home.length + c2o), .int .i64 o.start, .slice a3o o.rocks.length (o.rocks.length + c3o), .int .i64 o.speed, .int .i64 o.part, .int .i64 o.flow, .int .i64 o.idle, .int .i64 o.drive, .int .i64 o.battery, .int .i64 o.deadline, .slice (some ⟨bao, oao, none⟩) o.ways.length (o.ways.length + cao), .slice (some ⟨bto, oto, none⟩) o.ways.length (o.ways.length + cto)] 72)).alloc (by simp; omega) (.cells #[.int .i64 a, .int .i64 b, .int .i64 R, .int .i64 Wt] 29))).mono ((((Below.refl w.heap.size w).alloc (Nat.le_refl _) (.cells #[.slice (some ⟨bw, ow, none⟩) m.ways.length (m.ways.length + c1), .slice a2 m.home.length (m.home.length + c2), .int .i64 m.start, .slice a3 m.rocks.length (m.rocks.length + c3), .int .i64 m.speed, .int .i64 m.part, .int .i64 m.flow, .int .i64 m.idle, .int .i64 m.drive, .int .i64 m.battery, .int .i64 m.deadline, .slice (some ⟨ba, oa, none⟩) m.ways.length (m.ways.length + ca), .slice (some ⟨bt, ot, none⟩) m.ways.length (m.ways.length + ct)] 72)).alloc (by simp) (.cells #[.slice (some ⟨bwo, owo, none⟩) o.ways.length (o.ways.length + c1o), .slice a2o o.home.length (o.home.length + c2o), .int .i64 o.start, .slice a3o o.rocks.length (o.rocks.length + c3o), .int .i64 o.speed, .int .i64 o.part, .int .i64 o.flow, .int .i64 o.idle, .int .i64 o.drive, .int .i64 o.battery, .int .i64 o.deadline, .slice (some ⟨bao, oao, none⟩) o.ways.length (o.ways.length + cao), .slice (some ⟨bto, oto, none⟩) o.ways.length (o.ways.length + cto)] 72)).alloc (by simp; omega) (.cells #[.int .i64 a, .int .i64 b, .int .i64 R, .int .i64 Wt] 29)).size)
  replace MA := Lib.hid ((MA.out.below ((((Below.refl w.heap.size w).alloc (Nat.le_refl _) (.cells #[.slice (some ⟨bw, ow, none⟩) m.ways.length (m.ways.length + c1), .slice a2 m.home.length (m.home.length + c2), .int .i64 m.start, .slice a3 m.rocks.length (m.rocks.length + c3), .int .i64 m.speed, .int .i64 m.part, .int .i64 m.flow, .int .i64 m.idle, .int .i64 m.drive, .int .i64 m.battery, .int .i64 m.deadline, .slice (some ⟨ba, oa, none⟩) m.ways.length (m.ways.length + ca), .slice (some ⟨bt, ot, none⟩) m.ways.length (m.ways.length + ct)] 72)).alloc (by simp) (.cells #[.slice (some ⟨bwo, owo, none⟩) o.ways.length (o.ways.length + c1o), .slice a2o o.home.length (o.home.length + c2o), .int .i64 o.start, .slice a3o o.rocks.length (o.rocks.length + c3o), .int .i64 o.speed, .int .i64 o.part, .int .i64 o.flow, .int .i64 o.idle, .int .i64 o.drive, .int .i64 o.battery, .int .i64 o.deadline, .slice (some ⟨bao, oao, none⟩) o.ways.length (o.ways.length + cao), .slice (some ⟨bto, oto, none⟩) o.ways.length (o.ways.length + cto)] 72)).alloc (by simp; omega) (.cells #[.int .i64 a, .int .i64 b, .int .i64 R, .int .i64 Wt] 29))).mono ((((Below.refl w.heap.size w).alloc (Nat.le_refl _) (.cells #[.slice (some ⟨bw, ow, none⟩) m.ways.length (m.ways.length + c1), .slice a2 m.home.length (m.home.length + c2), .int .i64 m.start, .slice a3 m.rocks.length (m.rocks.length + c3), .int .i64 m.speed, .int .i64 m.part, .int .i64 m.flow, .int .i64 m.idle, .int .i64 m.drive, .int .i64 m.battery, .int .i64 m.deadline, .slice (some ⟨ba, oa, none⟩) m.ways.length (m.ways.length + ca), .slice (some ⟨bt, ot, none⟩) m.ways.length (m.ways.length + ct)] 72)).alloc (by simp) (.cells #[.slice (some ⟨bwo, owo, none⟩) o.ways.length (o.ways.length + c1o), .slice a2o o.home.length (o.home.length + c2o), .int .i64 o.start, .slice a3o o.rocks.length (o.rocks.length + c3o), .int .i64 o.speed, .int .i64 o.part, .int .i64 o.flow, .int .i64 o.idle, .int .i64 o.drive, .int .i64 o.battery, .int .i64 o.deadline, .slice (some ⟨bao, oao, none⟩) o.ways.length (o.ways.length + cao), .slice (some ⟨bto, oto, none⟩) o.ways.length (o.ways.length + cto)] 72)).alloc (by simp; omega) (.cells #[.int .i64 a, .int .i64 b, .int .i64 R, .int .i64 Wt] 29)).size)
  replace MT := Lib.hid ((MT.out.below ((((Below.refl w.heap.size w).alloc (Nat.le_refl _) (.cells #[.slice (some ⟨bw, ow, none⟩) m.ways.length (m.ways.length + c1), .slice a2 m.home.length (m.home.length + c2), .int .i64 m.start, .slice a3 m.rocks.length (m.rocks.length + c3), .int .i64 m.speed, .int .i64 m.part, .int .i64 m.flow, .int .i64 m.idle, .int .i64 m.drive, .int .i64 m.battery, .int .i64 m.deadline, .slice (some ⟨ba, oa, none⟩) m.ways.length (m.ways.length + ca), .slice (some ⟨bt, ot, none⟩) m.ways.length (m.ways.length + ct)] 72)).alloc (by simp) (.cells #[.slice (some ⟨bwo, owo, none⟩) o.ways.length (o.ways.length + c1o), .slice a2o o.home.length (o.home.length + c2o), .int .i64 o.start, .slice a3o o.rocks.length (o.rocks.length + c3o), .int .i64 o.speed, .int .i64 o.part, .int .i64 o.flow, .int .i64 o.idle, .int .i64 o.drive, .int .i64 o.battery, .int .i64 o.deadline, .slice (some ⟨bao, oao, none⟩) o.ways.length (o.ways.length + cao), .slice (some ⟨bto, oto, none⟩) o.ways.length (o.ways.length + cto)] 72)).alloc (by simp; omega) (.cells #[.int .i64 a, .int .i64 b, .int .i64 R, .int .i64 Wt] 29))).mono ((((Below.refl w.heap.size w).alloc (Nat.le_refl _) (.cells #[.slice (some ⟨bw, ow, none⟩) m.ways.length (m.ways.length + c1), .slice a2 m.home.length (m.home.length + c2), .int .i64 m.start, .slice a3 m.rocks.length (m.rocks.length + c3), .int .i64 m.speed, .int .i64 m.part, .int .i64 m.flow, .int .i64 m.idle, .int .i64 m.drive, .int .i64 m.battery, .int .i64 m.deadline, .slice (some ⟨ba, oa, none⟩) m.ways.length (m.ways.length + ca), .slice (some ⟨bt, ot, none⟩) m.ways.length (m.ways.length + ct)] 72)).alloc (by simp) (.cells #[.slice (some ⟨bwo, owo, none⟩) o.ways.length (o.ways.length + c1o), .slice a2o o.home.length (o.home.length + c2o), .int .i64 o.start, .slice a3o o.rocks.length (o.rocks.length + c3o), .int .i64 o.speed, .int .i64 o.part, .int .i64 o.flow, .int .i64 o.idle, .int .i64 o.drive, .int .i64 o.battery, .int .i64 o.deadline, .slice (some ⟨bao, oao, none⟩) o.ways.length (o.ways.length + cao), .slice (some ⟨bto, oto, none⟩) o.ways.length (o.ways.length + cto)] 72)).alloc (by simp; omega) (.cells #[.int .i64 a, .int .i64 b, .int .i64 R, .int .i64 Wt] 29)).size)
  replace OM := Lib.hid ((OM.out.below ((((Below.refl w.heap.size w).alloc (Nat.le_refl _) (.cells #[.slice (some ⟨bw, ow, none⟩) m.ways.length (m.ways.length + c1), .slice a2 m.home.length (m.home.length + c2), .int .i64 m.start, .slice a3 m.rocks.length (m.rocks.length + c3), .int .i64 m.speed, .int .i64 m.part, .int .i64 m.flow, .int .i64 m.idle, .int .i64 m.drive, .int .i64 m.battery, .int .i64 m.deadline, .slice (some ⟨ba, oa, none⟩) m.ways.length (m.ways.length + ca), .slice (some ⟨bt, ot, none⟩) m.ways.length (m.ways.length + ct)] 72)).alloc (by simp) (.cells #[.slice (some ⟨bwo, owo, none⟩) o.ways.length (o.ways.length + c1o), .slice a2o o.home.length (o.home.length + c2o), .int .i64 o.start, .slice a3o o.rocks.length (o.rocks.length + c3o), .int .i64 o.speed, .int .i64 o.part, .int .i64 o.flow, .int .i64 o.idle, .int .i64 o.drive, .int .i64 o.battery, .int .i64 o.deadline, .slice (some ⟨bao, oao, none⟩) o.ways.length (o.ways.length + cao), .slice (some ⟨bto, oto, none⟩) o.ways.length (o.ways.length + cto)] 72)).alloc (by simp; omega) (.cells #[.int .i64 a, .int .i64 b, .int .i64 R, .int .i64 Wt] 29))).mono ((((Below.refl w.heap.size w).alloc (Nat.le_refl _) (.cells #[.slice (some ⟨bw, ow, none⟩) m.ways.length (m.ways.length + c1), .slice a2 m.home.length (m.home.length + c2), .int .i64 m.start, .slice a3 m.rocks.length (m.rocks.length + c3), .int .i64 m.speed, .int .i64 m.part, .int .i64 m.flow, .int .i64 m.idle, .int .i64 m.drive, .int .i64 m.battery, .int .i64 m.deadline, .slice (some ⟨ba, oa, none⟩) m.ways.length (m.ways.length + ca), .slice (some ⟨bt, ot, none⟩) m.ways.length (m.ways.length + ct)] 72)).alloc (by simp) (.cells #[.slice (some ⟨bwo, owo, none⟩) o.ways.length (o.ways.length + c1o), .slice a2o o.home.length (o.home.length + c2o), .int .i64 o.start, .slice a3o o.rocks.length (o.rocks.length + c3o), .int .i64 o.speed, .int .i64 o.part, .int .i64 o.flow, .int .i64 o.idle, .int .i64 o.drive, .int .i64 o.battery, .int .i64 o.deadline, .slice (some ⟨bao, oao, none⟩) o.ways.length (o.ways.length + cao), .slice (some ⟨bto, oto, none⟩) o.ways.length (o.ways.length + cto)] 72)).alloc (by simp; omega) (.cells #[.int .i64 a, .int .i64 b, .int .i64 R, .int .i64 Wt] 29)).size)
  replace OA := Lib.hid ((OA.out.below ((((Below.refl w.heap.size w).alloc (Nat.le_refl _) (.cells #[.slice (some ⟨bw, ow, none⟩) m.ways.length (m.ways.length + c1), .slice a2 m.home.length (m.home.length + c2), .int .i64 m.start, .slice a3 m.rocks.length (m.rocks.length + c3), .int .i64 m.speed, .int .i64 m.part, .int .i64 m.flow, .int .i64 m.idle, .int .i64 m.drive, .int .i64 m.battery, .int .i64 m.deadline, .slice (some ⟨ba, oa, none⟩) m.ways.length (m.ways.length + ca), .slice (some ⟨bt, ot, none⟩) m.ways.length (m.ways.length + ct)] 72)).alloc (by simp) (.cells #[.slice (some ⟨bwo, owo, none⟩) o.ways.length (o.ways.length + c1o), .slice a2o o.home.length (o.home.length + c2o), .int .i64 o.start, .slice a3o o.rocks.length (o.rocks.length + c3o), .int .i64 o.speed, .int .i64 o.part, .int .i64 o.flow, .int .i64 o.idle, .int .i64 o.drive, .int .i64 o.battery, .int .i64 o.deadline, .slice (some ⟨bao, oao, none⟩) o.ways.length (o.ways.length + cao), .slice (some ⟨bto, oto, none⟩) o.ways.length (o.ways.length + cto)] 72)).alloc (by simp; omega) (.cells #[.int .i64 a, .int .i64 b, .int .i64 R, .int .i64 Wt] 29))).mono ((((Below.refl w.heap.size w).alloc (Nat.le_refl _) (.cells #[.slice (some ⟨bw, ow, none⟩) m.ways.length (m.ways.length + c1), .slice a2 m.home.length (m.home.length + c2), .int .i64 m.start, .slice a3 m.rocks.length (m.rocks.length + c3), .int .i64 m.speed, .int .i64 m.part, .int .i64 m.flow, .int .i64 m.idle, .int .i64 m.drive, .int .i64 m.battery, .int .i64 m.deadline, .slice (some ⟨ba, oa, none⟩) m.ways.length (m.ways.length + ca), .slice (some ⟨bt, ot, none⟩) m.ways.length (m.ways.length + ct)] 72)).alloc (by simp) (.cells #[.slice (some ⟨bwo, owo, none⟩) o.ways.length (o.ways.length + c1o), .slice a2o o.home.length (o.home.length + c2o), .int .i64 o.start, .slice a3o o.rocks.length (o.rocks.length + c3o), .int .i64 o.speed, .int .i64 o.part, .int .i64 o.flow, .int .i64 o.idle, .int .i64 o.drive, .int .i64 o.battery, .int .i64 o.deadline, .slice (some ⟨bao, oao, none⟩) o.ways.length (o.ways.length + cao), .slice (some ⟨bto, oto, none⟩) o.ways.length (o.ways.length + cto)] 72)).alloc (by simp; omega) (.cells #[.int .i64 a, .int .i64 b, .int .i64 R, .int .i64 Wt] 29)).size)
  replace OT := Lib.hid ((OT.out.below ((((Below.refl w.heap.size w).alloc (Nat.le_refl _) (.cells #[.slice (some ⟨bw, ow, none⟩) m.ways.length (m.ways.length + c1), .slice a2 m.home.length (m.home.length + c2), .int .i64 m.start, .slice a3 m.rocks.length (m.rocks.length + c3), .int .i64 m.speed, .int .i64 m.part, .int .i64 m.flow, .int .i64 m.idle, .int .i64 m.drive, .int .i64 m.battery, .int .i64 m.deadline, .slice (some ⟨ba, oa, none⟩) m.ways.length (m.ways.length + ca), .slice (some ⟨bt, ot, none⟩) m.ways.length (m.ways.length + ct)] 72)).alloc (by simp) (.cells #[.slice (some ⟨bwo, owo, none⟩) o.ways.length (o.ways.length + c1o), .slice a2o o.home.length (o.home.length + c2o), .int .i64 o.start, .slice a3o o.rocks.length (o.rocks.length + c3o), .int .i64 o.speed, .int .i64 o.part, .int .i64 o.flow, .int .i64 o.idle, .int .i64 o.drive, .int .i64 o.battery, .int .i64 o.deadline, .slice (some ⟨bao, oao, none⟩) o.ways.length (o.ways.length + cao), .slice (some ⟨bto, oto, none⟩) o.ways.length (o.ways.length + cto)] 72)).alloc (by simp; omega) (.cells #[.int .i64 a, .int .i64 b, .int .i64 R, .int .i64 Wt] 29))).mono ((((Below.refl w.heap.size w).alloc (Nat.le_refl _) (.cells #[.slice (some ⟨bw, ow, none⟩) m.ways.length (m.ways.length + c1), .slice a2 m.home.length (m.home.length + c2), .int .i64 m.start, .slice a3 m.rocks.length (m.rocks.length + c3), .int .i64 m.speed, .int .i64 m.part, .int .i64 m.flow, .int .i64 m.idle, .int .i64 m.drive, .int .i64 m.battery, .int .i64 m.deadline, .slice (some ⟨ba, oa, none⟩) m.ways.length (m.ways.length + ca), .slice (some ⟨bt, ot, none⟩) m.ways.length (m.ways.length + ct)] 72)).alloc (by simp) (.cells #[.slice (some ⟨bwo, owo, none⟩) o.ways.length (o.ways.length + c1o), .slice a2o o.home.length (o.home.length + c2o), .int .i64 o.start, .slice a3o o.rocks.length (o.rocks.length + c3o), .int .i64 o.speed, .int .i64 o.part, .int .i64 o.flow, .int .i64 o.idle, .int .i64 o.drive, .int .i64 o.battery, .int .i64 o.deadline, .slice (some ⟨bao, oao, none⟩) o.ways.length (o.ways.length + cao), .slice (some ⟨bto, oto, none⟩) o.ways.length (o.ways.length + cto)] 72)).alloc (by simp; omega) (.cells #[.int .i64 a, .int .i64 b, .int .i64 R, .int .i64 Wt] 29)).size)
  have VA := Lib.hid (show Has (((w.alloc (.cells #[.slice (some ⟨bw, ow, none⟩) m.ways.length (m.ways.length + c1), .slice a2 m.home.length (m.home.length + c2), .int .i64 m.start, .slice a3 m.rocks.length (m.rocks.length + c3), .int .i64 m.speed, .int .i64 m.part, .int .i64 m.flow, .int .i64 m.idle, .int .i64 m.drive, .int .i64 m.battery, .int .i64 m.deadline, .slice (some ⟨ba, oa, none⟩) m.ways.length (m.ways.length + ca), .slice (some ⟨bt, ot, none⟩) m.ways.length (m.ways.length + ct)] 72)).alloc (.cells #[.slice (some ⟨bwo, owo, none⟩) o.ways.length (o.ways.length + c1o), .slice a2o o.home.length (o.home.length + c2o), .int .i64 o.start, .slice a3o o.rocks.length (o.rocks.length + c3o), .int .i64 o.speed, .int .i64 o.part, .int .i64 o.flow, .int .i64 o.idle, .int .i64 o.drive, .int .i64 o.battery, .int .i64 o.deadline, .slice (some ⟨bao, oao, none⟩) o.ways.length (o.ways.length + cao), .slice (some ⟨bto, oto, none⟩) o.ways.length (o.ways.length + cto)] 72)).alloc (.cells #[.int .i64 a, .int .i64 b, .int .i64 R, .int .i64 Wt] 29)) (w.heap.size) #[.slice (some ⟨bw, ow, none⟩) m.ways.length (m.ways.length + c1), .slice a2 m.home.length (m.home.length + c2), .int .i64 m.start, .slice a3 m.rocks.length (m.rocks.length + c3), .int .i64 m.speed, .int .i64 m.part, .int .i64 m.flow, .int .i64 m.idle, .int .i64 m.drive, .int .i64 m.battery, .int .i64 m.deadline, .slice (some ⟨ba, oa, none⟩) m.ways.length (m.ways.length + ca), .slice (some ⟨bt, ot, none⟩) m.ways.length (m.ways.length + ct)] 72 from q0)
  have VB := Lib.hid (show Has (((w.alloc (.cells #[.slice (some ⟨bw, ow, none⟩) m.ways.length (m.ways.length + c1), .slice a2 m.home.length (m.home.length + c2), .int .i64 m.start, .slice a3 m.rocks.length (m.rocks.length + c3), .int .i64 m.speed, .int .i64 m.part, .int .i64 m.flow, .int .i64 m.idle, .int .i64 m.drive, .int .i64 m.battery, .int .i64 m.deadline, .slice (some ⟨ba, oa, none⟩) m.ways.length (m.ways.length + ca), .slice (some ⟨bt, ot, none⟩) m.ways.length (m.ways.length + ct)] 72)).alloc (.cells #[.slice (some ⟨bwo, owo, none⟩) o.ways.length (o.ways.length + c1o), .slice a2o o.home.length (o.home.length + c2o), .int .i64 o.start, .slice a3o o.rocks.length (o.rocks.length + c3o), .int .i64 o.speed, .int .i64 o.part, .int .i64 o.flow, .int .i64 o.idle, .int .i64 o.drive, .int .i64 o.battery, .int .i64 o.deadline, .slice (some ⟨bao, oao, none⟩) o.ways.length (o.ways.length + cao), .slice (some ⟨bto, oto, none⟩) o.ways.length (o.ways.length + cto)] 72)).alloc (.cells #[.int .i64 a, .int .i64 b, .int .i64 R, .int .i64 Wt] 29)) (w.heap.size + 1) #[.slice (some ⟨bwo, owo, none⟩) o.ways.length (o.ways.length + c1o), .slice a2o o.home.length (o.home.length + c2o), .int .i64 o.start, .slice a3o o.rocks.length (o.rocks.length + c3o), .int .i64 o.speed, .int .i64 o.part, .int .i64 o.flow, .int .i64 o.idle, .int .i64 o.drive, .int .i64 o.battery, .int .i64 o.deadline, .slice (some ⟨bao, oao, none⟩) o.ways.length (o.ways.length + cao), .slice (some ⟨bto, oto, none⟩) o.ways.length (o.ways.length + cto)] 72 from q1)
  have TB := Lib.hid (show Has (((w.alloc (.cells #[.slice (some ⟨bw, ow, none⟩) m.ways.length (m.ways.length + c1), .slice a2 m.home.length (m.home.length + c2), .int .i64 m.start, .slice a3 m.rocks.length (m.rocks.length + c3), .int .i64 m.speed, .int .i64 m.part, .int .i64 m.flow, .int .i64 m.idle, .int .i64 m.drive, .int .i64 m.battery, .int .i64 m.deadline, .slice (some ⟨ba, oa, none⟩) m.ways.length (m.ways.length + ca), .slice (some ⟨bt, ot, none⟩) m.ways.length (m.ways.length + ct)] 72)).alloc (.cells #[.slice (some ⟨bwo, owo, none⟩) o.ways.length (o.ways.length + c1o), .slice a2o o.home.length (o.home.length + c2o), .int .i64 o.start, .slice a3o o.rocks.length (o.rocks.length + c3o), .int .i64 o.speed, .int .i64 o.part, .int .i64 o.flow, .int .i64 o.idle, .int .i64 o.drive, .int .i64 o.battery, .int .i64 o.deadline, .slice (some ⟨bao, oao, none⟩) o.ways.length (o.ways.length + cao), .slice (some ⟨bto, oto, none⟩) o.ways.length (o.ways.length + cto)] 72)).alloc (.cells #[.int .i64 a, .int .i64 b, .int .i64 R, .int .i64 Wt] 29)) (w.heap.size + 1 + 1) #[.int .i64 a, .int .i64 b, .int .i64 R, .int .i64 Wt] 29 from q2)
  have BX0 := Lib.hid (B0.out.trans ((((((Below.refl w.heap.size w).alloc (Nat.le_refl _) (.cells #[.slice (some ⟨bw, ow, none⟩) m.ways.length (m.ways.length + c1), .slice a2 m.home.length (m.home.length + c2), .int .i64 m.start, .slice a3 m.rocks.length (m.rocks.length + c3), .int .i64 m.speed, .int .i64 m.part, .int .i64 m.flow, .int .i64 m.idle, .int .i64 m.drive, .int .i64 m.battery, .int .i64 m.deadline, .slice (some ⟨ba, oa, none⟩) m.ways.length (m.ways.length + ca), .slice (some ⟨bt, ot, none⟩) m.ways.length (m.ways.length + ct)] 72)).alloc (by simp) (.cells #[.slice (some ⟨bwo, owo, none⟩) o.ways.length (o.ways.length + c1o), .slice a2o o.home.length (o.home.length + c2o), .int .i64 o.start, .slice a3o o.rocks.length (o.rocks.length + c3o), .int .i64 o.speed, .int .i64 o.part, .int .i64 o.flow, .int .i64 o.idle, .int .i64 o.drive, .int .i64 o.battery, .int .i64 o.deadline, .slice (some ⟨bao, oao, none⟩) o.ways.length (o.ways.length + cao), .slice (some ⟨bto, oto, none⟩) o.ways.length (o.ways.length + cto)] 72)).alloc (by simp; omega) (.cells #[.int .i64 a, .int .i64 b, .int .i64 R, .int .i64 Wt] 29))).mono B0.out.size))
  generalize hXX0 : (((w.alloc (.cells #[.slice (some ⟨bw, ow, none⟩) m.ways.length (m.ways.length + c1), .slice a2 m.home.length (m.home.length + c2), .int .i64 m.start, .slice a3 m.rocks.length (m.rocks.length + c3), .int .i64 m.speed, .int .i64 m.part, .int .i64 m.flow, .int .i64 m.idle, .int .i64 m.drive, .int .i64 m.battery, .int .i64 m.deadline, .slice (some ⟨ba, oa, none⟩) m.ways.length (m.ways.length + ca), .slice (some ⟨bt, ot, none⟩) m.ways.length (m.ways.length + ct)] 72)).alloc (.cells #[.slice (some ⟨bwo, owo, none⟩) o.ways.length (o.ways.length + c1o), .slice a2o o.home.length (o.home.length + c2o), .int .i64 o.start, .slice a3o o.rocks.length (o.rocks.length + c3o), .int .i64 o.speed, .int .i64 o.part, .int .i64 o.flow, .int .i64 o.idle, .int .i64 o.drive, .int .i64 o.battery, .int .i64 o.deadline, .slice (some ⟨bao, oao, none⟩) o.ways.length (o.ways.length + cao), .slice (some ⟨bto, oto, none⟩) o.ways.length (o.ways.length + cto)] 72)).alloc (.cells #[.int .i64 a, .int .i64 b, .int .i64 R, .int .i64 Wt] 29)) = X0 at *
  clear hXX0
  clear q0 q1 q2
  have x1 := Low.fact (VA.out.cell (i := 12) rfl)
  have x2 := Low.fact (VB.out.cell (i := 12) rfl)
  have x3 := Low.fact (TB.out.cell (i := 0) rfl)
  have x4 := Low.fact (TB.out.cell (i := 1) rfl)
  have x5 := Low.fact ((BX0.out.cell (p := ⟨bt, ot + a, none⟩) hW.out.1).trans kt.out)
  have x6 := Low.fact ((BX0.out.cell (p := ⟨bto, oto + b, none⟩) hW.out.2).trans kto.out)
  (refine wp_region_low (by kernel_rfl) (by kernel_rfl) ?_; (iterate 14 (apply quiet_want; (case hw => rfl); (case hval => (intro w1 hw1; have hcx := Low.cells hw1; simp only [Oper.quietAt]; go_simp; first | done | (first | fail) | rfl | exact ⟨rfl, rfl⟩)); simp only [Act.put, List.setIfInBounds_toArray, List.set_cons_zero, List.set_cons_succ])); refine wpQuiet_nil ?_; intro w2 hw2)
  have BL := Lib.hid (BX0.out.trans (hw2.out.mono BX0.out.size))
  clear x1 x2 x3 x4 x5 x6
  replace MM := Lib.hid ((MM.out.below hw2.out).mono hw2.out.size)
  replace MA := Lib.hid ((MA.out.below hw2.out).mono hw2.out.size)
  replace MT := Lib.hid ((MT.out.below hw2.out).mono hw2.out.size)
  replace OM := Lib.hid ((OM.out.below hw2.out).mono hw2.out.size)
  replace OA := Lib.hid ((OA.out.below hw2.out).mono hw2.out.size)
  replace OT := Lib.hid ((OT.out.below hw2.out).mono hw2.out.size)
  replace VA := Lib.hid (VA.out.below hw2.out VA.out.lt)
  replace VB := Lib.hid (VB.out.below hw2.out VB.out.lt)
  replace TB := Lib.hid (TB.out.below hw2.out TB.out.lt)
  clear hw2
  go_wp2_with fail
  have BS := Lib.hid (Below.refl w2.heap.size w2)
  have HT := Lib.hid (fun X (hX : Below w2.heap.size w2 X) => And.intro (VA.out.below hX VA.out.lt) (And.intro (VB.out.below hX VB.out.lt) (TB.out.below hX TB.out.lt)))
  refine (wpIn_wide (n := 9)).1 ?_
  refine wpIn_region_sched (lets_wide _) 13 (fun X => Below w2.heap.size w2 X) (by kernel_rfl) (by kernel_rfl) (by kernel_rfl) fun hH inv0 => ?_
  have hD := Below.drew (Below.refl w2.heap.size w2)
  replace MM := Lib.hid ((MM.out.below hD).mono hD.size)
  replace MA := Lib.hid ((MA.out.below hD).mono hD.size)
  replace MT := Lib.hid ((MT.out.below hD).mono hD.size)
  replace OM := Lib.hid ((OM.out.below hD).mono hD.size)
  replace OA := Lib.hid ((OA.out.below hD).mono hD.size)
  replace OT := Lib.hid ((OT.out.below hD).mono hD.size)
  replace VA := Lib.hid (VA.out.below hD VA.out.lt)
  replace VB := Lib.hid (VB.out.below hD VB.out.lt)
  replace TB := Lib.hid (TB.out.below hD TB.out.lt)
  replace BS := Lib.hid (BS.out.trans (hD.mono BS.out.size))
  have BXD := Lib.hid (BL.out.trans (hD.mono BL.out.size))
  clear hD
  generalize hXXD : w2.drew = XD at *
  clear hXXD
  refine sched_take hH (i := 0) (v := .agg #[.slice (some ⟨bw, ow, none⟩) m.ways.length (m.ways.length + c1), .slice a2 m.home.length (m.home.length + c2), .int .i64 m.start, .slice a3 m.rocks.length (m.rocks.length + c3), .int .i64 m.speed, .int .i64 m.part, .int .i64 m.flow, .int .i64 m.idle, .int .i64 m.drive, .int .i64 m.battery, .int .i64 m.deadline, .slice (some ⟨ba, oa, none⟩) m.ways.length (m.ways.length + ca), .slice (some ⟨bt, ot, none⟩) m.ways.length (m.ways.length + ct)]) (drop_get rfl) (by omega) inv0 (by kernel_rfl) (by kernel_rfl) rfl (fun X hX => ?_) fun inv1 => ?_
  · obtain ⟨hA, hB, hT⟩ := HT.out X hX; have r0 := hA.cell (i := 0) rfl; have r1 := hA.cell (i := 1) rfl; have r2 := hA.cell (i := 2) rfl; have r3 := hA.cell (i := 3) rfl; have r4 := hA.cell (i := 4) rfl; have r5 := hA.cell (i := 5) rfl; have r6 := hA.cell (i := 6) rfl; have r7 := hA.cell (i := 7) rfl; have r8 := hA.cell (i := 8) rfl; have r9 := hA.cell (i := 9) rfl; have r10 := hA.cell (i := 10) rfl; have r11 := hA.cell (i := 11) rfl; have r12 := hA.cell (i := 12) rfl; go_simp
  simp only [Act.put, List.setIfInBounds_toArray, List.set_cons_zero, List.set_cons_succ]
  clear inv0
  refine sched_take hH (i := 1) (v := .pointer (some ⟨w.heap.size + 1 + 1, 0, none⟩)) (drop_get rfl) (by omega) inv1 (by kernel_rfl) (by kernel_rfl) rfl (fun X hX => ?_) fun inv2 => ?_
  · go_simp
  simp only [Act.put, List.setIfInBounds_toArray, List.set_cons_zero, List.set_cons_succ]
  clear inv1
  refine sched_take hH (i := 2) (v := .int .i64 (a : Int)) (drop_get rfl) (by omega) inv2 (by kernel_rfl) (by kernel_rfl) rfl (fun X hX => ?_) fun inv3 => ?_
  · obtain ⟨hA, hB, hT⟩ := HT.out X hX; have r0 := hT.cell (i := 0) rfl; go_simp
  simp only [Act.put, List.setIfInBounds_toArray, List.set_cons_zero, List.set_cons_succ]
  clear inv2
  refine sched_take hH (i := 4) (v := .agg #[.slice (some ⟨bwo, owo, none⟩) o.ways.length (o.ways.length + c1o), .slice a2o o.home.length (o.home.length + c2o), .int .i64 o.start, .slice a3o o.rocks.length (o.rocks.length + c3o), .int .i64 o.speed, .int .i64 o.part, .int .i64 o.flow, .int .i64 o.idle, .int .i64 o.drive, .int .i64 o.battery, .int .i64 o.deadline, .slice (some ⟨bao, oao, none⟩) o.ways.length (o.ways.length + cao), .slice (some ⟨bto, oto, none⟩) o.ways.length (o.ways.length + cto)]) (drop_get rfl) (by omega) inv3 (by kernel_rfl) (by kernel_rfl) rfl (fun X hX => ?_) fun inv4 => ?_
  · obtain ⟨hA, hB, hT⟩ := HT.out X hX; have r0 := hB.cell (i := 0) rfl; have r1 := hB.cell (i := 1) rfl; have r2 := hB.cell (i := 2) rfl; have r3 := hB.cell (i := 3) rfl; have r4 := hB.cell (i := 4) rfl; have r5 := hB.cell (i := 5) rfl; have r6 := hB.cell (i := 6) rfl; have r7 := hB.cell (i := 7) rfl; have r8 := hB.cell (i := 8) rfl; have r9 := hB.cell (i := 9) rfl; have r10 := hB.cell (i := 10) rfl; have r11 := hB.cell (i := 11) rfl; have r12 := hB.cell (i := 12) rfl; go_simp
  simp only [Act.put, List.setIfInBounds_toArray, List.set_cons_zero, List.set_cons_succ]
  clear inv3
  refine sched_take hH (i := 5) (v := .pointer (some ⟨w.heap.size + 1 + 1, 1, none⟩)) (drop_get rfl) (by omega) inv4 (by kernel_rfl) (by kernel_rfl) rfl (fun X hX => ?_) fun inv5 => ?_
  · go_simp
  simp only [Act.put, List.setIfInBounds_toArray, List.set_cons_zero, List.set_cons_succ]
  clear inv4
  refine sched_take hH (i := 6) (v := .int .i64 (b : Int)) (drop_get rfl) (by omega) inv5 (by kernel_rfl) (by kernel_rfl) rfl (fun X hX => ?_) fun inv6 => ?_
  · obtain ⟨hA, hB, hT⟩ := HT.out X hX; have r1 := hT.cell (i := 1) rfl; go_simp
  simp only [Act.put, List.setIfInBounds_toArray, List.set_cons_zero, List.set_cons_succ]
  clear inv5
  have inv7 := HeadInv.put inv6 (j := 3) (by kernel_rfl) (by omega)
  clear inv6
  refine sched_all (rs := [3]) (by kernel_rfl) (by simp) BS.out (by simp) (fun i hi' => ?_)
  simp only [List.mem_cons, List.not_mem_nil, or_false] at hi'
  subst hi'
  refine okOp_call (drop_get rfl) rfl (f := 77) (args := #[.agg #[.slice (some ⟨bw, ow, none⟩) m.ways.length (m.ways.length + c1), .slice a2 m.home.length (m.home.length + c2), .int .i64 m.start, .slice a3 m.rocks.length (m.rocks.length + c3), .int .i64 m.speed, .int .i64 m.part, .int .i64 m.flow, .int .i64 m.idle, .int .i64 m.drive, .int .i64 m.battery, .int .i64 m.deadline, .slice (some ⟨ba, oa, none⟩) m.ways.length (m.ways.length + ca), .slice (some ⟨bt, ot, none⟩) m.ways.length (m.ways.length + ct)], .int .i64 (a : Int)]) (by go_simp) (f1.out XD MM.out MA.out MT.out) ?_
  rintro e w1 ⟨v1, rfl, p1, b1⟩
  refine ⟨v1, rfl, ?_⟩
  simp only [Act.put, List.setIfInBounds_toArray, List.set_cons_zero, List.set_cons_succ]
  have B1 := Lib.hid (BXD.out.trans (b1.mono BXD.out.size))
  replace MM := Lib.hid ((MM.out.below b1).mono b1.size)
  replace MA := Lib.hid ((MA.out.below b1).mono b1.size)
  replace MT := Lib.hid ((MT.out.below b1).mono b1.size)
  replace OM := Lib.hid ((OM.out.below b1).mono b1.size)
  replace OA := Lib.hid ((OA.out.below b1).mono b1.size)
  replace OT := Lib.hid ((OT.out.below b1).mono b1.size)
  replace VA := Lib.hid (VA.out.below b1 VA.out.lt)
  replace VB := Lib.hid (VB.out.below b1 VB.out.lt)
  replace TB := Lib.hid (TB.out.below b1 TB.out.lt)
  replace BS := Lib.hid (BS.out.trans (b1.mono BS.out.size))
  have P1 := Lib.hid p1
  clear p1
  clear b1
  have inv8 := HeadInv.put inv7 (j := 7) (by kernel_rfl) (by omega)
  clear inv7
  refine sched_all (rs := [7]) (by kernel_rfl) (by simp) BS.out (by simp) (fun i hi' => ?_)
  simp only [List.mem_cons, List.not_mem_nil, or_false] at hi'
  subst hi'
  refine okOp_call (drop_get rfl) rfl (f := 77) (args := #[.agg #[.slice (some ⟨bwo, owo, none⟩) o.ways.length (o.ways.length + c1o), .slice a2o o.home.length (o.home.length + c2o), .int .i64 o.start, .slice a3o o.rocks.length (o.rocks.length + c3o), .int .i64 o.speed, .int .i64 o.part, .int .i64 o.flow, .int .i64 o.idle, .int .i64 o.drive, .int .i64 o.battery, .int .i64 o.deadline, .slice (some ⟨bao, oao, none⟩) o.ways.length (o.ways.length + cao), .slice (some ⟨bto, oto, none⟩) o.ways.length (o.ways.length + cto)], .int .i64 (b : Int)]) (by go_simp) (f2.out w1 OM.out OA.out OT.out) ?_
  rintro e w2 ⟨v2, rfl, p2, b2⟩
  refine ⟨v2, rfl, ?_⟩
  simp only [Act.put, List.setIfInBounds_toArray, List.set_cons_zero, List.set_cons_succ]
  have B2 := Lib.hid (B1.out.trans (b2.mono B1.out.size))
  replace MM := Lib.hid ((MM.out.below b2).mono b2.size)
  replace MA := Lib.hid ((MA.out.below b2).mono b2.size)
  replace MT := Lib.hid ((MT.out.below b2).mono b2.size)
  replace OM := Lib.hid ((OM.out.below b2).mono b2.size)
  replace OA := Lib.hid ((OA.out.below b2).mono b2.size)
  replace OT := Lib.hid ((OT.out.below b2).mono b2.size)
  replace VA := Lib.hid (VA.out.below b2 VA.out.lt)
  replace VB := Lib.hid (VB.out.below b2 VB.out.lt)
  replace TB := Lib.hid (TB.out.below b2 TB.out.lt)
  replace BS := Lib.hid (BS.out.trans (b2.mono BS.out.size))
  replace P1 := Lib.hid ((P1.out.below b2).mono b2.size)
  have P2 := Lib.hid p2
  clear p2
  clear b2
  have inv9 := HeadInv.put inv8 (j := 8) (by kernel_rfl) (by omega)
  clear inv8
  refine sched_all (rs := [8]) (by kernel_rfl) (by simp) BS.out (by simp) (fun i hi' => ?_)
  simp only [List.mem_cons, List.not_mem_nil, or_false] at hi'
  subst hi'
  refine okOp_call (drop_get rfl) rfl (f := 21) (args := #[v1, v2]) (by go_simp) (f3.out _ _ w2 P1.out P2.out) ?_
  rintro e w3 ⟨rfl, b3⟩
  refine ⟨_, rfl, ?_⟩
  simp only [Act.put, List.setIfInBounds_toArray, List.set_cons_zero, List.set_cons_succ]
  have B3 := Lib.hid (B2.out.trans (b3.mono B2.out.size))
  replace MM := Lib.hid ((MM.out.below b3).mono b3.size)
  replace MA := Lib.hid ((MA.out.below b3).mono b3.size)
  replace MT := Lib.hid ((MT.out.below b3).mono b3.size)
  replace OM := Lib.hid ((OM.out.below b3).mono b3.size)
  replace OA := Lib.hid ((OA.out.below b3).mono b3.size)
  replace OT := Lib.hid ((OT.out.below b3).mono b3.size)
  replace VA := Lib.hid (VA.out.below b3 VA.out.lt)
  replace VB := Lib.hid (VB.out.below b3 VB.out.lt)
  replace TB := Lib.hid (TB.out.below b3 TB.out.lt)
  replace BS := Lib.hid (BS.out.trans (b3.mono BS.out.size))
  replace P1 := Lib.hid ((P1.out.below b3).mono b3.size)
  replace P2 := Lib.hid ((P2.out.below b3).mono b3.size)
  clear b3
  refine sched_take hH (i := 9) (v := .tuple #[.int .i64 N, .int .i64 E]) (drop_get rfl) (by omega) inv9 (by kernel_rfl) (by kernel_rfl) rfl (fun X hX => ?_) fun inv10 => ?_
  · go_simp
  simp only [Act.put, List.setIfInBounds_toArray, List.set_cons_zero, List.set_cons_succ]
  clear inv9
  refine sched_take hH (i := 10) (v := .int .i64 N) (drop_get rfl) (by omega) inv10 (by kernel_rfl) (by kernel_rfl) rfl (fun X hX => ?_) fun inv11 => ?_
  · go_simp
  simp only [Act.put, List.setIfInBounds_toArray, List.set_cons_zero, List.set_cons_succ]
  clear inv10
  refine sched_take hH (i := 11) (v := .int .i64 E) (drop_get rfl) (by omega) inv11 (by kernel_rfl) (by kernel_rfl) rfl (fun X hX => ?_) fun inv12 => ?_
  · go_simp
  simp only [Act.put, List.setIfInBounds_toArray, List.set_cons_zero, List.set_cons_succ]
  clear inv11
  have inv13 := HeadInv.put inv12 (j := 12) (by kernel_rfl) (by omega)
  clear inv12
  refine sched_all (rs := [12]) (by kernel_rfl) (by simp) BS.out (by simp) (fun i hi' => ?_)
  simp only [List.mem_cons, List.not_mem_nil, or_false] at hi'
  subst hi'
  refine okOp_run (drop_get rfl) rfl (v := .int .i64 N) (w' := w3) (by go_simp) ?_
  simp only [Act.put, List.setIfInBounds_toArray, List.set_cons_zero, List.set_cons_succ]
  clear inv13 hH
  refine sched_done (by kernel_rfl) BS.out ?_
  simp only [List.drop_succ_cons, List.drop_zero]
  gi_wp2
  have t2 := TB.out.cell (i := 2) rfl
  have t3 := TB.out.cell (i := 3) rfl
  clear HT
  cases d1 : decide (N ≤ R)
  · go_wp2
    go_ret
    exact ⟨by simp [d1], B3.out⟩
  cases d2 : decide (T ≤ Wt)
  · go_wp2
    go_ret
    exact ⟨by simp [d1, d2], B3.out⟩
  have z2 := Z2.out
  go_wp2
  go_ret
  exact ⟨by simp [d1, d2], B3.out⟩
end Go.Proofs.YtfbdidfaeplllaaGreat

namespace Go.Proofs.YtfbdidfaeplllaaGreat
open Go.RowKit

theorem dsq_nn (a b : Pt) : 0 ≤ dsq a b := by
  have h1 := sq_nn (a.x - b.x)
  have h2 := sq_nn (a.y - b.y)
  unfold dsq; omega
theorem dsq_comm (a b : Pt) : dsq a b = dsq b a := by unfold dsq; grind
theorem farK_spec (x : Pt) (l : List Pt) : ∀ k, (∀ j, j < k → dsq x (nth l j) ≤ farK x l k) ∧ 0 ≤ farK x l k ∧ (farK x l k = 0 ∨ ∃ j, j < k ∧ farK x l k = dsq x (nth l j))
  | 0 => ⟨fun j h => absurd h (by omega), Int.le_refl _, .inl rfl⟩
  | k + 1 => by
    obtain ⟨h1, h2, h3⟩ := farK_spec x l k
    simp only [farK]
    split
    · refine ⟨fun j hj => ?_, by omega, .inr ⟨k, by omega, rfl⟩⟩
      rcases Nat.lt_or_ge j k with hjk | hjk
      · have := h1 j hjk; omega
      · obtain rfl : j = k := by omega
        exact Int.le_refl _
    · refine ⟨fun j hj => ?_, h2, h3.imp id fun ⟨j, hj, e⟩ => ⟨j, by omega, e⟩⟩
      rcases Nat.lt_or_ge j k with hjk | hjk
      · exact h1 j hjk
      · obtain rfl : j = k := by omega
        omega
theorem reachK_spec (a b : List Pt) : ∀ k, (∀ i j, i < k → j < b.length → dsq (nth a i) (nth b j) ≤ reachK a b k) ∧ 0 ≤ reachK a b k ∧ (reachK a b k = 0 ∨ ∃ i j, i < k ∧ j < b.length ∧ reachK a b k = dsq (nth a i) (nth b j))
  | 0 => ⟨fun i j h => absurd h (by omega), Int.le_refl _, .inl rfl⟩
  | k + 1 => by
    obtain ⟨h1, h2, h3⟩ := reachK_spec a b k
    obtain ⟨f1, f2, f3⟩ := farK_spec (nth a k) b b.length
    simp only [reachK]
    split
    · refine ⟨fun i j hi hj => ?_, f2, ?_⟩
      · rcases Nat.lt_or_ge i k with hik | hik
        · have := h1 i j hik hj; omega
        · obtain rfl : i = k := by omega
          exact f1 j hj
      · rcases f3 with h | ⟨j, hj, e⟩
        · exact .inl h
        · exact .inr ⟨k, j, by omega, hj, e⟩
    · refine ⟨fun i j hi hj => ?_, h2, h3.imp id fun ⟨i, j, hi, hj, e⟩ => ⟨i, j, by omega, hj, e⟩⟩
      rcases Nat.lt_or_ge i k with hik | hik
      · exact h1 i j hik hj
      · obtain rfl : i = k := by omega
        have := f1 j hj
        omega
theorem trB_iff {a b : List Pt} : trB a b = true ↔ goValid a = true ∧ goValid b = true := by simp [trB]
/-- the range is the least number that is not less than any distance of two corners -/
theorem range_spec {p q : List Pt} (h : trB p q = true) : 0 ≤ rangeV p q ∧ (∀ i j, i < p.length → j < q.length → dsq (nth p i) (nth q j) ≤ rangeV p q * rangeV p q) ∧ (rangeV p q = 0 ∨ ∃ i j, i < p.length ∧ j < q.length ∧ (rangeV p q - 1) * (rangeV p q - 1) < dsq (nth p i) (nth q j)) := by
  obtain ⟨c1, c2, c3⟩ := reachK_spec p q p.length
  have hs := rootUp_spec c2
  unfold rangeV
  rw [if_pos h]
  generalize rootUp (reachK p q p.length) = n at *
  refine ⟨hs.1, fun i j hi hj => Int.le_trans (c1 i j hi hj) hs.2.1, ?_⟩
  rcases c3 with e | ⟨i, j, hi, hj, e⟩
  · refine .inl ?_
    have := hs.2.2 0 (Int.le_refl _) (by omega)
    omega
  · by_cases h0 : n = 0
    · exact .inl h0
    · refine .inr ⟨i, j, hi, hj, ?_⟩
      rw [← e]
      rcases Int.lt_or_le ((n - 1) * (n - 1)) (reachK p q p.length) with h1 | h1
      · exact h1
      · have := hs.2.2 (n - 1) (by omega) h1
        omega
theorem most_of (f : Nat → Int) : ∀ n, 0 < n → ∃ k, k < n ∧ ∀ j, j < n → f j ≤ f k
  | 0, h => absurd h (by omega)
  | 1, _ => ⟨0, by omega, fun j hj => by obtain rfl : j = 0 := by omega
                                         exact Int.le_refl _⟩
  | n + 2, _ => by
    obtain ⟨k, hk, h⟩ := most_of f (n + 1) (by omega)
    rcases Int.le_total (f (n + 1)) (f k) with h1 | h1
    · refine ⟨k, by omega, fun j hj => ?_⟩
      rcases Nat.lt_or_ge j (n + 1) with h2 | h2
      · exact h j h2
      · obtain rfl : j = n + 1 := by omega
        exact h1
    · refine ⟨n + 1, by omega, fun j hj => ?_⟩
      rcases Nat.lt_or_ge j (n + 1) with h2 | h2
      · have := h j h2; omega
      · obtain rfl : j = n + 1 := by omega
        exact Int.le_refl _
/-- in each direction a corner lies at least as far as a place of the polygon -/
theorem inH_support {l : List Pt} (V : GoValid l) {x : Pt} (h : InH l x.x x.y 1) (u v : Int) : ∃ k, k < l.length ∧ 0 ≤ ((nth l k).x - x.x) * u + ((nth l k).y - x.y) * v := by
  by_cases h3 : l.length < 3
  · unfold InH at h
    rw [if_pos h3] at h
    obtain ⟨K, s, t, hK, hs, ht, e1, e2, e3⟩ := h
    rcases Int.lt_or_le (((nth l 0).x - x.x) * u + ((nth l 0).y - x.y) * v) 0 with h1 | h1
    · rcases Int.lt_or_le (((nth l (l.length - 1)).x - x.x) * u + ((nth l (l.length - 1)).y - x.y) * v) 0 with h2 | h2
      · exfalso
        generalize hA : ((nth l 0).x - x.x) * u + ((nth l 0).y - x.y) * v = A at *
        generalize hB : ((nth l (l.length - 1)).x - x.x) * u + ((nth l (l.length - 1)).y - x.y) * v = B at *
        have e : s * A + t * B = 0 := by rw [← hA, ← hB]; grind
        have q1 := Int.mul_nonneg hs (show 0 ≤ -A by omega)
        have q2 := Int.mul_nonneg ht (show 0 ≤ -B by omega)
        rw [Int.mul_neg] at q1 q2
        have z1 : s * A = 0 := by omega
        have z2 : t * B = 0 := by omega
        rcases Int.mul_eq_zero.1 z1 with z | z
        · rcases Int.mul_eq_zero.1 z2 with y | y
          · rw [Int.mul_one] at e3; omega
          · omega
        · omega
      · exact ⟨l.length - 1, by have := V.1; omega, h2⟩
    · exact ⟨0, V.1, h1⟩
  · have hn : 3 ≤ l.length := by omega
    have C := V.conv hn
    unfold InH at h
    rw [if_neg h3] at h
    obtain ⟨k, hk, hm⟩ := most_of (fun j => (nth l j).x * u + (nth l j).y * v) l.length (by omega)
    refine ⟨k, hk, ?_⟩
    -- the corners before and behind it
    obtain ⟨i, hi, hik⟩ : ∃ i, i < l.length ∧ (i + 1) % l.length = k := by
      by_cases h0 : k = 0
      · exact ⟨l.length - 1, by omega, by rw [Nat.sub_add_cancel (by omega), Nat.mod_self, h0]⟩
      · exact ⟨k - 1, by omega, by rw [Nat.sub_add_cancel (by omega)]; exact Nat.mod_eq_of_lt hk⟩
    have hj := nx_lt (i := k) hn
    have hjk : (k + 1) % l.length ≠ k := by
      rw [nx_val hk]; split <;> omega
    have hji : (k + 1) % l.length ≠ i := by
      intro e
      rw [nx_val hk] at e
      rw [nx_val hi] at hik
      split at e <;> split at hik <;> omega
    have hD := C.left i hi _ hj hji (by rw [hik]; exact hjk)
    rw [hik] at hD
    have t1 := h k hk
    have t2 := h i hi
    simp only [sideP] at t1 t2
    rw [hik] at t2
    have m1 := hm _ hj
    have m2 := hm i hi
    generalize nth l ((k + 1) % l.length) = b at *
    generalize nth l i = a at *
    generalize nth l k = p at *
    rw [hturn_one] at t1 t2
    have e : turnP a p b * ((p.x - x.x) * u + (p.y - x.y) * v) = turnP a p x * ((p.x * u + p.y * v) - (b.x * u + b.y * v)) + turnP p b x * ((p.x * u + p.y * v) - (a.x * u + a.y * v)) := by
      unfold turnP turnV; grind
    have q1 := Int.mul_nonneg t2 (show 0 ≤ (p.x * u + p.y * v) - (b.x * u + b.y * v) by omega)
    have q2 := Int.mul_nonneg t1 (show 0 ≤ (p.x * u + p.y * v) - (a.x * u + a.y * v) by omega)
    rcases Int.lt_or_le ((p.x - x.x) * u + (p.y - x.y) * v) 0 with hneg | hpos
    · have := Int.mul_neg_of_pos_of_neg hD hneg
      omega
    · exact hpos
/-- no place of a polygon is farther from a place than all corners -/
theorem inH_far {l : List Pt} (V : GoValid l) {x : Pt} (h : InH l x.x x.y 1) (y : Pt) : ∃ k, k < l.length ∧ dsq x y ≤ dsq (nth l k) y := by
  obtain ⟨k, hk, h1⟩ := inH_support V h (x.x - y.x) (x.y - y.y)
  refine ⟨k, hk, ?_⟩
  generalize nth l k = p at *
  have e : dsq p y = dsq p x + 2 * ((p.x - x.x) * (x.x - y.x) + (p.y - x.y) * (x.y - y.y)) + dsq x y := by unfold dsq; grind
  have := dsq_nn p x
  omega
/-- no two places of two polygons are farther from each other than their range -/
theorem range_places {p q : List Pt} (h : trB p q = true) {x y : Pt} (hx : InH p x.x x.y 1) (hy : InH q y.x y.y 1) : dsq x y ≤ rangeV p q * rangeV p q := by
  obtain ⟨hp, hq⟩ := trB_iff.1 h
  have P : GoValid p := by simpa [goValid] using hp
  have Q : GoValid q := by simpa [goValid] using hq
  obtain ⟨i, hi, h1⟩ := inH_far P hx y
  obtain ⟨j, hj, h2⟩ := inH_far Q hy (nth p i)
  have h3 := (range_spec h).2.1 i j hi hj
  rw [dsq_comm y, dsq_comm (nth q j)] at h2
  omega
theorem tr_disk {m : Msn} (V : VMsn m) (l : List Int) {o : Msn} (VO : VMsn o) (lo : List Int) {a b : Nat} (ha : a < m.ways.length) (hb : b < o.ways.length) : trB (dskP m l a) (dskP o lo b) = true :=
  trB_iff.2 ⟨goValid_of (dskP_valid V l ha), goValid_of (dskP_valid VO lo hb)⟩
theorem circle_disk {m : Msn} (V : VMsn m) (l : List Int) {k : Nat} (h : k < m.ways.length) {x y : Int} (hc : x * x + y * y ≤ rdA m l k * rdA m l k) : InH (dskP m l k) ((wy m.ways k).x + x) ((wy m.ways k).y + y) 1 := by
  have r := (rd_le V l h).2.2
  have e : ((rdA m l k).toNat : Int) = rdA m l k := by omega
  have h1 := circle_has (n := (rdA m l k).toNat) (x := x) (y := y) (by rw [e]; exact hc)
  have h2 := inH_mv ⟨(wy m.ways k).x, (wy m.ways k).y⟩ (disk_valid (n := (rdA m l k).toNat) (by omega)).1 (x := ⟨x, y⟩) h1
  have e1 : mvP ⟨(wy m.ways k).x, (wy m.ways k).y⟩ ⟨x, y⟩ = ⟨(wy m.ways k).x + x, (wy m.ways k).y + y⟩ := by unfold mvP; simp only [Pt.mk.injEq]; omega
  rw [e1] at h2
  exact h2
/-- two vehicles that meet are not farther from each other than Range -/
theorem meet_near {m : Msn} (V : VMsn m) {l : List Int} {o : Msn} (VO : VMsn o) {lo : List Int} {a b : Nat} (ha : a < m.ways.length) (hb : b < o.ways.length) {R W x y u v : Int} (h : meetB m l o lo a b R W = true) (h1 : x * x + y * y ≤ rdA m l a * rdA m l a) (h2 : u * u + v * v ≤ rdA o lo b * rdA o lo b) :
    dsq ⟨(wy m.ways a).x + x, (wy m.ways a).y + y⟩ ⟨(wy o.ways b).x + u, (wy o.ways b).y + v⟩ ≤ R * R := by
  have ht := tr_disk V l VO lo ha hb
  have := range_places ht (x := ⟨(wy m.ways a).x + x, (wy m.ways a).y + y⟩) (y := ⟨(wy o.ways b).x + u, (wy o.ways b).y + v⟩) (circle_disk V l ha h1) (circle_disk VO lo hb h2)
  simp only [meetB, Bool.and_eq_true, decide_eq_true_eq] at h
  have h0 := (range_spec ht).1
  exact Int.le_trans this (Int.mul_le_mul h.1 h.1 h0 (by omega))
end Go.Proofs.YtfbdidfaeplllaaGreat
