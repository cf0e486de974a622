/- landfallref38: Planned, Number, Disk, Time, meet. -/
import Derived.Test.YtdpnhckbabjagaaGreatBin07
import Derived.Test.YtdpnhckbabjagaaGreatBin28
import Derived.Test.YtdpnhckbabjagaaGreatBin21
import Derived.Test.YtdpnhckbabjagaaGreatBin29
import Derived.Test.YtdpnhckbabjagaaGreatBin15
import Derived.Test.YtdpnhckbabjagaaGreatBin11
import Derived.Test.YtdpnhckbabjagaaGreatBin24
import Derived.Test.YtdpnhckbabjagaaGreatBin30
namespace Go.Proofs.YtdpnhckbabjagaaGreat
open Go.RowKit
attribute [local irreducible] wpQuiet

set_option linter.unusedSimpArgs false in
set_option linter.unusedVariables false in
set_option maxRecDepth 8000 in
set_option maxHeartbeats 400000 in
theorem rnum38_any (n : Int) (w : World) :
    Calls Tryz.prog 39 #[.int .i64 n] w fun e w' => e = .returned (.bool (numB n 100000)) ∧ Below w.heap.size w w' := by
  unfold numB
  have B0 := Below.refl w.heap.size w
  cases d : decide (n ≥ 0)
  · go_enter Tryz.func39, Tryz.ntmps39
    go_wp2
    go_ret
    exact ⟨rfl, B0⟩
  · go_enter Tryz.func39, Tryz.ntmps39
    go_wp2
    go_ret
    exact ⟨rfl, B0⟩

set_option linter.unusedSimpArgs false in
set_option linter.unusedVariables false in
set_option maxRecDepth 8000 in
set_option maxHeartbeats 1600000 in
theorem rplanned_any (m : Msn) (vw vh vr vl : Value) (l : List Int) (w : World) (hm : MsnAt w.heap.size w m vw vh vr) (hl : IntsAt w.heap.size w vl l) :
    Calls Tryz.prog 25 #[.agg (msnCells m vw vh vr), vl] w fun e w' => e = .returned (.bool (radOkB m l)) ∧ Below w.heap.size w w' := by
  have f1 := fun w1 h => rValid31_any m vw vh vr w1 h
  have f2 := fun (hV : validB m = true) w1 (h1 : MsnAt w1.heap.size w1 m vw vh vr) h2 => rstops32_any m vw vh vr vl l w1 (fun k hk => (wayB_true (waysB_at ((validB_iff m).1 hV).ways hk)).2.2.2.2.1) h1.1 h2
  have MM := Lib.hid hm
  have ML := Lib.hid hl
  unfold radOkB
  obtain ⟨⟨-, a1, c1, rfl, -⟩, ⟨-, a2, c2, rfl, -⟩, ⟨-, a3, c3, rfl, -⟩⟩ := hm
  obtain ⟨-, al, cl, rfl, -⟩ := hl
  unfold msnCells at *
  replace f1 := Lib.hid f1
  replace f2 := Lib.hid f2
  have B0 := Lib.hid (Below.refl w.heap.size w)
  go_enter Tryz.func25, Tryz.ntmps25
  have q0 := Has.new w #[.slice a1 m.ways.length (m.ways.length + c1), .slice a2 m.home.length (m.home.length + c2), .int .i64 m.start, .slice a3 m.rocks.length (m.rocks.length + c3), .int .i64 m.speed, .int .i64 m.part, .int .i64 m.flow, .int .i64 m.idle, .int .i64 m.drive, .int .i64 m.battery, .int .i64 m.deadline] 26
  go_wp2_with fail
  replace MM := Lib.hid ((MM.out.below ((Below.refl w.heap.size w).alloc (Nat.le_refl _) (.cells #[.slice a1 m.ways.length (m.ways.length + c1), .slice a2 m.home.length (m.home.length + c2), .int .i64 m.start, .slice a3 m.rocks.length (m.rocks.length + c3), .int .i64 m.speed, .int .i64 m.part, .int .i64 m.flow, .int .i64 m.idle, .int .i64 m.drive, .int .i64 m.battery, .int .i64 m.deadline] 26))).mono ((Below.refl w.heap.size w).alloc (Nat.le_refl _) (.cells #[.slice a1 m.ways.length (m.ways.length + c1), .slice a2 m.home.length (m.home.length + c2), .int .i64 m.start, .slice a3 m.rocks.length (m.rocks.length + c3), .int .i64 m.speed, .int .i64 m.part, .int .i64 m.flow, .int .i64 m.idle, .int .i64 m.drive, .int .i64 m.battery, .int .i64 m.deadline] 26)).size)
  replace ML := Lib.hid ((ML.out.below ((Below.refl w.heap.size w).alloc (Nat.le_refl _) (.cells #[.slice a1 m.ways.length (m.ways.length + c1), .slice a2 m.home.length (m.home.length + c2), .int .i64 m.start, .slice a3 m.rocks.length (m.rocks.length + c3), .int .i64 m.speed, .int .i64 m.part, .int .i64 m.flow, .int .i64 m.idle, .int .i64 m.drive, .int .i64 m.battery, .int .i64 m.deadline] 26))).mono ((Below.refl w.heap.size w).alloc (Nat.le_refl _) (.cells #[.slice a1 m.ways.length (m.ways.length + c1), .slice a2 m.home.length (m.home.length + c2), .int .i64 m.start, .slice a3 m.rocks.length (m.rocks.length + c3), .int .i64 m.speed, .int .i64 m.part, .int .i64 m.flow, .int .i64 m.idle, .int .i64 m.drive, .int .i64 m.battery, .int .i64 m.deadline] 26)).size)
  have MB := Lib.hid (show Has (w.alloc (.cells #[.slice a1 m.ways.length (m.ways.length + c1), .slice a2 m.home.length (m.home.length + c2), .int .i64 m.start, .slice a3 m.rocks.length (m.rocks.length + c3), .int .i64 m.speed, .int .i64 m.part, .int .i64 m.flow, .int .i64 m.idle, .int .i64 m.drive, .int .i64 m.battery, .int .i64 m.deadline] 26)) (w.heap.size) #[.slice a1 m.ways.length (m.ways.length + c1), .slice a2 m.home.length (m.home.length + c2), .int .i64 m.start, .slice a3 m.rocks.length (m.rocks.length + c3), .int .i64 m.speed, .int .i64 m.part, .int .i64 m.flow, .int .i64 m.idle, .int .i64 m.drive, .int .i64 m.battery, .int .i64 m.deadline] 26 from q0)
  have BX0 := Lib.hid (B0.out.trans ((((Below.refl w.heap.size w).alloc (Nat.le_refl _) (.cells #[.slice a1 m.ways.length (m.ways.length + c1), .slice a2 m.home.length (m.home.length + c2), .int .i64 m.start, .slice a3 m.rocks.length (m.rocks.length + c3), .int .i64 m.speed, .int .i64 m.part, .int .i64 m.flow, .int .i64 m.idle, .int .i64 m.drive, .int .i64 m.battery, .int .i64 m.deadline] 26))).mono B0.out.size))
  generalize hXX0 : (w.alloc (.cells #[.slice a1 m.ways.length (m.ways.length + c1), .slice a2 m.home.length (m.home.length + c2), .int .i64 m.start, .slice a3 m.rocks.length (m.rocks.length + c3), .int .i64 m.speed, .int .i64 m.part, .int .i64 m.flow, .int .i64 m.idle, .int .i64 m.drive, .int .i64 m.battery, .int .i64 m.deadline] 26)) = X0 at *
  clear hXX0
  clear q0
  have hz0 := BX0.out.size
  refine (f1.out _ MM.out).mono ?_
  rintro e w1 ⟨rfl, b1⟩
  have B1 := Lib.hid (BX0.out.trans (b1.mono BX0.out.size))
  replace MM := Lib.hid ((MM.out.below b1).mono b1.size)
  replace ML := Lib.hid ((ML.out.below b1).mono b1.size)
  replace MB := Lib.hid (MB.out.below b1 MB.out.lt)
  clear b1
  obtain ⟨d0, d1, d2, d3, d4, d5, d6, d7, d8, d9, d10⟩ := msn_cells (m := m) MB.out
  cases hV : validB m
  · go_wp2
    go_ret
    exact ⟨by simp [hV], B1.out⟩
  go_wp2_with fail
  refine (f2.out hV _ MM.out ML.out).mono ?_
  rintro e w2 ⟨rfl, b2⟩
  have B2 := Lib.hid (B1.out.trans (b2.mono B1.out.size))
  replace MM := Lib.hid ((MM.out.below b2).mono b2.size)
  replace ML := Lib.hid ((ML.out.below b2).mono b2.size)
  replace MB := Lib.hid (MB.out.below b2 MB.out.lt)
  clear b2
  clear d0 d1 d2 d3 d4 d5 d6 d7 d8 d9 d10
  obtain ⟨d0, d1, d2, d3, d4, d5, d6, d7, d8, d9, d10⟩ := msn_cells (m := m) MB.out
  go_wp2
  go_ret
  exact ⟨by simp [hV], B2.out⟩
set_option linter.unusedSimpArgs false in
set_option linter.unusedVariables false in
set_option maxRecDepth 8000 in
set_option maxHeartbeats 1600000 in
theorem rtime_any (m : Msn) (vw vh vr vl : Value) (l : List Int) (w : World) (hm : MsnAt w.heap.size w m vw vh vr) (hl : IntsAt w.heap.size w vl l) (hok : radOkB m l = true) (k : Nat) (hk : k < m.ways.length) :
    Calls Tryz.prog 66 #[.agg (msnCells m vw vh vr), vl, .int .i64 k] w fun e w' => e = .returned (.int .i64 (usT m l k)) ∧ Below w.heap.size w w' := by
  have hvs : validB m = true ∧ stopsB m l = true := by simpa [radOkB] using hok
  have f1 := fun w1 h1 h2 => rspent_any m vw vh vr vl l w1 h1 h2 hvs.1
  have MM := Lib.hid hm
  have ML := Lib.hid hl
  obtain ⟨⟨-, a1, c1, rfl, -⟩, ⟨-, a2, c2, rfl, -⟩, ⟨-, a3, c3, rfl, -⟩⟩ := hm
  obtain ⟨-, al, cl, rfl, -⟩ := hl
  unfold msnCells at *
  replace f1 := Lib.hid f1
  have B0 := Lib.hid (Below.refl w.heap.size w)
  have hk' : (k : Int) < m.ways.length := by omega
  have hk0 : (0 : Int) ≤ k := by omega
  clear hvs hok
  go_enter Tryz.func66, Tryz.ntmps66
  have q0 := Has.new w #[.slice a1 m.ways.length (m.ways.length + c1), .slice a2 m.home.length (m.home.length + c2), .int .i64 m.start, .slice a3 m.rocks.length (m.rocks.length + c3), .int .i64 m.speed, .int .i64 m.part, .int .i64 m.flow, .int .i64 m.idle, .int .i64 m.drive, .int .i64 m.battery, .int .i64 m.deadline] 26
  go_wp2_with fail
  replace MM := Lib.hid ((MM.out.below ((Below.refl w.heap.size w).alloc (Nat.le_refl _) (.cells #[.slice a1 m.ways.length (m.ways.length + c1), .slice a2 m.home.length (m.home.length + c2), .int .i64 m.start, .slice a3 m.rocks.length (m.rocks.length + c3), .int .i64 m.speed, .int .i64 m.part, .int .i64 m.flow, .int .i64 m.idle, .int .i64 m.drive, .int .i64 m.battery, .int .i64 m.deadline] 26))).mono ((Below.refl w.heap.size w).alloc (Nat.le_refl _) (.cells #[.slice a1 m.ways.length (m.ways.length + c1), .slice a2 m.home.length (m.home.length + c2), .int .i64 m.start, .slice a3 m.rocks.length (m.rocks.length + c3), .int .i64 m.speed, .int .i64 m.part, .int .i64 m.flow, .int .i64 m.idle, .int .i64 m.drive, .int .i64 m.battery, .int .i64 m.deadline] 26)).size)
  replace ML := Lib.hid ((ML.out.below ((Below.refl w.heap.size w).alloc (Nat.le_refl _) (.cells #[.slice a1 m.ways.length (m.ways.length + c1), .slice a2 m.home.length (m.home.length + c2), .int .i64 m.start, .slice a3 m.rocks.length (m.rocks.length + c3), .int .i64 m.speed, .int .i64 m.part, .int .i64 m.flow, .int .i64 m.idle, .int .i64 m.drive, .int .i64 m.battery, .int .i64 m.deadline] 26))).mono ((Below.refl w.heap.size w).alloc (Nat.le_refl _) (.cells #[.slice a1 m.ways.length (m.ways.length + c1), .slice a2 m.home.length (m.home.length + c2), .int .i64 m.start, .slice a3 m.rocks.length (m.rocks.length + c3), .int .i64 m.speed, .int .i64 m.part, .int .i64 m.flow, .int .i64 m.idle, .int .i64 m.drive, .int .i64 m.battery, .int .i64 m.deadline] 26)).size)
  have MB := Lib.hid (show Has (w.alloc (.cells #[.slice a1 m.ways.length (m.ways.length + c1), .slice a2 m.home.length (m.home.length + c2), .int .i64 m.start, .slice a3 m.rocks.length (m.rocks.length + c3), .int .i64 m.speed, .int .i64 m.part, .int .i64 m.flow, .int .i64 m.idle, .int .i64 m.drive, .int .i64 m.battery, .int .i64 m.deadline] 26)) (w.heap.size) #[.slice a1 m.ways.length (m.ways.length + c1), .slice a2 m.home.length (m.home.length + c2), .int .i64 m.start, .slice a3 m.rocks.length (m.rocks.length + c3), .int .i64 m.speed, .int .i64 m.part, .int .i64 m.flow, .int .i64 m.idle, .int .i64 m.drive, .int .i64 m.battery, .int .i64 m.deadline] 26 from q0)
  have BX0 := Lib.hid (B0.out.trans ((((Below.refl w.heap.size w).alloc (Nat.le_refl _) (.cells #[.slice a1 m.ways.length (m.ways.length + c1), .slice a2 m.home.length (m.home.length + c2), .int .i64 m.start, .slice a3 m.rocks.length (m.rocks.length + c3), .int .i64 m.speed, .int .i64 m.part, .int .i64 m.flow, .int .i64 m.idle, .int .i64 m.drive, .int .i64 m.battery, .int .i64 m.deadline] 26))).mono B0.out.size))
  generalize hXX0 : (w.alloc (.cells #[.slice a1 m.ways.length (m.ways.length + c1), .slice a2 m.home.length (m.home.length + c2), .int .i64 m.start, .slice a3 m.rocks.length (m.rocks.length + c3), .int .i64 m.speed, .int .i64 m.part, .int .i64 m.flow, .int .i64 m.idle, .int .i64 m.drive, .int .i64 m.battery, .int .i64 m.deadline] 26)) = X0 at *
  clear hXX0
  clear q0
  have hz0 := BX0.out.size
  refine (f1.out _ MM.out ML.out).mono ?_
  rintro e w1 ⟨v1, u1, rfl, p1, q1, b1⟩
  have B1 := Lib.hid (BX0.out.trans (b1.mono BX0.out.size))
  replace MM := Lib.hid ((MM.out.below b1).mono b1.size)
  replace ML := Lib.hid ((ML.out.below b1).mono b1.size)
  replace MB := Lib.hid (MB.out.below b1 MB.out.lt)
  obtain ⟨bt, ot, ct, hvt, hbt, hct⟩ := ints_cells0 p1 (by rw [usedT_length]; omega)
  rw [usedT_length] at hvt hct
  subst hvt
  have t0 : w1.cell? ⟨bt, ot + k, none⟩ = some (.int .i64 (usT m l k)) := (hct k hk).trans (by rw [usedT, upto_getD _ hk])
  obtain ⟨-, ga, gc, hv, -⟩ := q1
  subst hv
  clear hct p1
  clear b1
  go_wp2
  go_ret
  exact ⟨rfl, B1.out⟩
set_option linter.unusedSimpArgs false in
set_option linter.unusedVariables false in
set_option maxRecDepth 8000 in
set_option maxHeartbeats 1600000 in
theorem rdisk38_any (m : Msn) (vw vh vr vl : Value) (l : List Int) (w : World) (hm : MsnAt w.heap.size w m vw vh vr) (hl : IntsAt w.heap.size w vl l) (hok : radOkB m l = true) (k : Nat) (hk : k < m.ways.length) :
    Calls Tryz.prog 67 #[.agg (msnCells m vw vh vr), vl, .int .i64 k] w fun e w' => ∃ v, e = .returned v ∧ PtsAt w'.heap.size w' v (dskP m l k) ∧ Below w.heap.size w w' := by
  have hvs : validB m = true ∧ stopsB m l = true := by simpa [radOkB] using hok
  have f1 := fun w1 h1 h2 => rradii_all m vw vh vr vl l w1 h1 h2
  have e2 : rdAL m l = rdAU m l := if_pos hok
  have e3 : rdE m l = 0 := if_pos hok
  rw [e2, e3] at f1
  generalize rdBL m l = bl at *
  have VV := (validB_iff m).1 hvs.1
  have n41 := VV.n41
  have hr := (rd_le VV l hk).2.2
  have hwn := way_near4 VV hk
  have hdv := disk_valid (n := (rdA m l k).toNat) (by omega)
  have hn : (((rdA m l k).toNat : Nat) : Int) = rdA m l k := by omega
  have f2 := fun w1 => disk6_any (rdA m l k).toNat w1 (by omega)
  rw [hn] at f2
  have f3 := fun v w1 h => moved_any v (diskP (rdA m l k).toNat) ⟨(wy m.ways k).x, (wy m.ways k).y⟩ w1 h hdv.2.1 (fun j hj => (hdv.2.2.1 j hj).1) (place_iff.2 (by dsimp only; omega))
  unfold dskP
  have hlen : (diskP (rdA m l k).toNat).length ≤ 8 := disk_len _
  have hml : (mvL ⟨(wy m.ways k).x, (wy m.ways k).y⟩ (diskP (rdA m l k).toNat)).length ≤ 8 := by unfold mvL; rw [List.length_map]; exact hlen
  generalize mvL ⟨(wy m.ways k).x, (wy m.ways k).y⟩ (diskP (rdA m l k).toNat) = ml at *
  generalize diskP (rdA m l k).toNat = dl at *
  replace f1 := Lib.hid f1
  replace f2 := Lib.hid f2
  replace f3 := Lib.hid f3
  have MM := Lib.hid hm
  have ML := Lib.hid hl
  obtain ⟨bw, ow, c1, rfl, hbw, hcw⟩ := hm.1.cells (by omega)
  obtain ⟨-, ⟨-, a2, c2, rfl, -⟩, ⟨-, a3, c3, rfl, -⟩⟩ := hm
  obtain ⟨-, al, cl, rfl, -⟩ := hl
  unfold msnCells at *
  have kw := Lib.hid (And.intro (hcw k hk).1 (hcw k hk).2.1)
  have hW := Lib.hid hbw
  have B0 := Lib.hid (Below.refl w.heap.size w)
  have hk' : (k : Int) < m.ways.length := by omega
  have hk0 : (0 : Int) ≤ k := by omega
  clear hvs hok VV hr hdv hcw hbw hlen e2 e3 hwn
  generalize (wy m.ways k).x = px at *
  generalize (wy m.ways k).y = py at *
  go_enter Tryz.func67, Tryz.ntmps67
  have q0 := Has.new w #[.slice (some ⟨bw, ow, none⟩) m.ways.length (m.ways.length + c1), .slice a2 m.home.length (m.home.length + c2), .int .i64 m.start, .slice a3 m.rocks.length (m.rocks.length + c3), .int .i64 m.speed, .int .i64 m.part, .int .i64 m.flow, .int .i64 m.idle, .int .i64 m.drive, .int .i64 m.battery, .int .i64 m.deadline] 26
  go_wp2_with fail
  replace MM := Lib.hid ((MM.out.below ((Below.refl w.heap.size w).alloc (Nat.le_refl _) (.cells #[.slice (some ⟨bw, ow, none⟩) m.ways.length (m.ways.length + c1), .slice a2 m.home.length (m.home.length + c2), .int .i64 m.start, .slice a3 m.rocks.length (m.rocks.length + c3), .int .i64 m.speed, .int .i64 m.part, .int .i64 m.flow, .int .i64 m.idle, .int .i64 m.drive, .int .i64 m.battery, .int .i64 m.deadline] 26))).mono ((Below.refl w.heap.size w).alloc (Nat.le_refl _) (.cells #[.slice (some ⟨bw, ow, none⟩) m.ways.length (m.ways.length + c1), .slice a2 m.home.length (m.home.length + c2), .int .i64 m.start, .slice a3 m.rocks.length (m.rocks.length + c3), .int .i64 m.speed, .int .i64 m.part, .int .i64 m.flow, .int .i64 m.idle, .int .i64 m.drive, .int .i64 m.battery, .int .i64 m.deadline] 26)).size)
  replace ML := Lib.hid ((ML.out.below ((Below.refl w.heap.size w).alloc (Nat.le_refl _) (.cells #[.slice (some ⟨bw, ow, none⟩) m.ways.length (m.ways.length + c1), .slice a2 m.home.length (m.home.length + c2), .int .i64 m.start, .slice a3 m.rocks.length (m.rocks.length + c3), .int .i64 m.speed, .int .i64 m.part, .int .i64 m.flow, .int .i64 m.idle, .int .i64 m.drive, .int .i64 m.battery, .int .i64 m.deadline] 26))).mono ((Below.refl w.heap.size w).alloc (Nat.le_refl _) (.cells #[.slice (some ⟨bw, ow, none⟩) m.ways.length (m.ways.length + c1), .slice a2 m.home.length (m.home.length + c2), .int .i64 m.start, .slice a3 m.rocks.length (m.rocks.length + c3), .int .i64 m.speed, .int .i64 m.part, .int .i64 m.flow, .int .i64 m.idle, .int .i64 m.drive, .int .i64 m.battery, .int .i64 m.deadline] 26)).size)
  have MB := Lib.hid (show Has (w.alloc (.cells #[.slice (some ⟨bw, ow, none⟩) m.ways.length (m.ways.length + c1), .slice a2 m.home.length (m.home.length + c2), .int .i64 m.start, .slice a3 m.rocks.length (m.rocks.length + c3), .int .i64 m.speed, .int .i64 m.part, .int .i64 m.flow, .int .i64 m.idle, .int .i64 m.drive, .int .i64 m.battery, .int .i64 m.deadline] 26)) (w.heap.size) #[.slice (some ⟨bw, ow, none⟩) m.ways.length (m.ways.length + c1), .slice a2 m.home.length (m.home.length + c2), .int .i64 m.start, .slice a3 m.rocks.length (m.rocks.length + c3), .int .i64 m.speed, .int .i64 m.part, .int .i64 m.flow, .int .i64 m.idle, .int .i64 m.drive, .int .i64 m.battery, .int .i64 m.deadline] 26 from q0)
  have BX0 := Lib.hid (B0.out.trans ((((Below.refl w.heap.size w).alloc (Nat.le_refl _) (.cells #[.slice (some ⟨bw, ow, none⟩) m.ways.length (m.ways.length + c1), .slice a2 m.home.length (m.home.length + c2), .int .i64 m.start, .slice a3 m.rocks.length (m.rocks.length + c3), .int .i64 m.speed, .int .i64 m.part, .int .i64 m.flow, .int .i64 m.idle, .int .i64 m.drive, .int .i64 m.battery, .int .i64 m.deadline] 26))).mono B0.out.size))
  generalize hXX0 : (w.alloc (.cells #[.slice (some ⟨bw, ow, none⟩) m.ways.length (m.ways.length + c1), .slice a2 m.home.length (m.home.length + c2), .int .i64 m.start, .slice a3 m.rocks.length (m.rocks.length + c3), .int .i64 m.speed, .int .i64 m.part, .int .i64 m.flow, .int .i64 m.idle, .int .i64 m.drive, .int .i64 m.battery, .int .i64 m.deadline] 26)) = X0 at *
  clear hXX0
  clear q0
  have hz0 := BX0.out.size
  refine (f1.out _ MM.out ML.out).mono ?_
  rintro e w1 ⟨v1, u1, rfl, p1, q1, b1⟩
  have B1 := Lib.hid (BX0.out.trans (b1.mono BX0.out.size))
  replace MM := Lib.hid ((MM.out.below b1).mono b1.size)
  replace ML := Lib.hid ((ML.out.below b1).mono b1.size)
  replace MB := Lib.hid (MB.out.below b1 MB.out.lt)
  obtain ⟨ba, oa, ca, hva, hba, hca⟩ := ints_cells0 q1 (by rw [rdAU_length]; omega)
  rw [rdAU_length] at hva hca
  subst hva
  have t0 : w1.cell? ⟨ba, oa + k, none⟩ = some (.int .i64 (rdA m l k)) := (hca k hk).trans (by rw [rdAU, upto_getD _ hk])
  obtain ⟨-, ga, gc, hv, -⟩ := p1
  subst hv
  clear hca q1
  clear b1
  have t1 := (B1.out.cell (p := ⟨bw, ow + k * 5, none⟩) hW.out).trans kw.out.1
  have t2 := (B1.out.cell (p := ⟨bw, ow + k * 5 + 1, none⟩) hW.out).trans kw.out.2
  have t3 := MB.out.cell (i := 0) rfl
  generalize hrr : rdA m l k = r at *
  clear hrr
  go_wp2_with fail
  clear MM ML
  have BS := Lib.hid (Below.refl w1.heap.size w1)
  have HT := Lib.hid (fun X (hX : Below w1.heap.size w1 X) => And.intro ((hX.cell (p := ⟨ba, oa + k, none⟩) (World.block_lt_of_cell? _ _ t0)).trans t0) (And.intro ((hX.cell (p := ⟨bw, ow + k * 5, none⟩) (World.block_lt_of_cell? _ _ t1)).trans t1) (And.intro ((hX.cell (p := ⟨bw, ow + k * 5 + 1, none⟩) (World.block_lt_of_cell? _ _ t2)).trans t2) ((hX.cell (p := ⟨w.heap.size, 0, none⟩) (World.block_lt_of_cell? _ _ t3)).trans t3))))
  clear t0 t1 t2 t3
  refine (wpIn_wide (n := 9)).1 ?_
  refine wpIn_region_sched (lets_wide _) 12 (fun X => Below w1.heap.size w1 X) (by kernel_rfl) (by kernel_rfl) (by kernel_rfl) fun hH inv0 => ?_
  have hD := Below.drew (Below.refl w1.heap.size w1)
  replace MB := Lib.hid (MB.out.below hD MB.out.lt)
  replace BS := Lib.hid (BS.out.trans (hD.mono BS.out.size))
  have BXD := Lib.hid (B1.out.trans (hD.mono B1.out.size))
  clear hD
  generalize hXXD : w1.drew = XD at *
  clear hXXD
  refine sched_take hH (i := 0) (v := .slice (some ⟨ba, oa, none⟩) m.ways.length (m.ways.length + ca)) (drop_get rfl) (by omega) inv0 (by kernel_rfl) (by kernel_rfl) rfl (fun X hX => ?_) fun inv1 => ?_
  · go_simp
  simp only [Act.put, List.setIfInBounds_toArray, List.set_cons_zero, List.set_cons_succ]
  clear inv0
  refine sched_take hH (i := 1) (v := .int .i64 (k : Int)) (drop_get rfl) (by omega) inv1 (by kernel_rfl) (by kernel_rfl) rfl (fun X hX => ?_) fun inv2 => ?_
  · go_simp
  simp only [Act.put, List.setIfInBounds_toArray, List.set_cons_zero, List.set_cons_succ]
  clear inv1
  refine sched_take hH (i := 2) (v := .pointer (some ⟨ba, oa + k, none⟩)) (drop_get rfl) (by omega) inv2 (by kernel_rfl) (by kernel_rfl) rfl (fun X hX => ?_) fun inv3 => ?_
  · go_simp
  simp only [Act.put, List.setIfInBounds_toArray, List.set_cons_zero, List.set_cons_succ]
  clear inv2
  refine sched_take hH (i := 3) (v := .int .i64 r) (drop_get rfl) (by omega) inv3 (by kernel_rfl) (by kernel_rfl) rfl (fun X hX => ?_) fun inv4 => ?_
  · obtain ⟨r0, r1, r2, r3⟩ := HT.out X hX; go_simp
  simp only [Act.put, List.setIfInBounds_toArray, List.set_cons_zero, List.set_cons_succ]
  clear inv3
  refine sched_take hH (i := 5) (v := .pointer (some ⟨w.heap.size, 0, none⟩)) (drop_get rfl) (by omega) inv4 (by kernel_rfl) (by kernel_rfl) rfl (fun X hX => ?_) fun inv5 => ?_
  · go_simp
  simp only [Act.put, List.setIfInBounds_toArray, List.set_cons_zero, List.set_cons_succ]
  clear inv4
  refine sched_take hH (i := 6) (v := .slice (some ⟨bw, ow, none⟩) m.ways.length (m.ways.length + c1)) (drop_get rfl) (by omega) inv5 (by kernel_rfl) (by kernel_rfl) rfl (fun X hX => ?_) fun inv6 => ?_
  · obtain ⟨r0, r1, r2, r3⟩ := HT.out X hX; go_simp
  simp only [Act.put, List.setIfInBounds_toArray, List.set_cons_zero, List.set_cons_succ]
  clear inv5
  refine sched_take hH (i := 7) (v := .int .i64 (k : Int)) (drop_get rfl) (by omega) inv6 (by kernel_rfl) (by kernel_rfl) rfl (fun X hX => ?_) fun inv7 => ?_
  · go_simp
  simp only [Act.put, List.setIfInBounds_toArray, List.set_cons_zero, List.set_cons_succ]
  clear inv6
  refine sched_take hH (i := 8) (v := .pointer (some ⟨bw, ow + k * 5, none⟩)) (drop_get rfl) (by omega) inv7 (by kernel_rfl) (by kernel_rfl) rfl (fun X hX => ?_) fun inv8 => ?_
  · go_simp
  simp only [Act.put, List.setIfInBounds_toArray, List.set_cons_zero, List.set_cons_succ]
  clear inv7
  refine sched_take hH (i := 9) (v := .pointer (some ⟨bw, ow + k * 5, none⟩)) (drop_get rfl) (by omega) inv8 (by kernel_rfl) (by kernel_rfl) rfl (fun X hX => ?_) fun inv9 => ?_
  · go_simp
  simp only [Act.put, List.setIfInBounds_toArray, List.set_cons_zero, List.set_cons_succ]
  clear inv8
  refine sched_take hH (i := 10) (v := .agg #[.int .i64 px, .int .i64 py]) (drop_get rfl) (by omega) inv9 (by kernel_rfl) (by kernel_rfl) rfl (fun X hX => ?_) fun inv10 => ?_
  · obtain ⟨r0, r1, r2, r3⟩ := HT.out X hX; go_simp
  simp only [Act.put, List.setIfInBounds_toArray, List.set_cons_zero, List.set_cons_succ]
  clear inv9
  have inv11 := HeadInv.put inv10 (j := 4) (by kernel_rfl) (by omega)
  clear inv10
  refine sched_all (rs := [4]) (by kernel_rfl) (by simp) BS.out (by simp) (fun i hi' => ?_)
  simp only [List.mem_cons, List.not_mem_nil, or_false] at hi'
  subst hi'
  refine okOp_call (drop_get rfl) rfl (f := 108) (args := #[.int .i64 r]) (by go_simp) (f2.out XD) ?_
  rintro e w2 ⟨v2, rfl, p2, b2⟩
  refine ⟨v2, rfl, ?_⟩
  simp only [Act.put, List.setIfInBounds_toArray, List.set_cons_zero, List.set_cons_succ]
  have B2 := Lib.hid (BXD.out.trans (b2.mono BXD.out.size))
  replace MB := Lib.hid (MB.out.below b2 MB.out.lt)
  replace BS := Lib.hid (BS.out.trans (b2.mono BS.out.size))
  have P1 := Lib.hid p2
  clear p2
  clear b2
  have inv12 := HeadInv.put inv11 (j := 11) (by kernel_rfl) (by omega)
  clear inv11
  refine sched_all (rs := [11]) (by kernel_rfl) (by simp) BS.out (by simp) (fun i hi' => ?_)
  simp only [List.mem_cons, List.not_mem_nil, or_false] at hi'
  subst hi'
  refine okOp_call (drop_get rfl) rfl (f := 107) (args := #[v2, .agg #[.int .i64 px, .int .i64 py]]) (by go_simp) (f3.out _ w2 P1.out) ?_
  rintro e w3 ⟨v3, rfl, p3, b3⟩
  refine ⟨v3, rfl, ?_⟩
  simp only [Act.put, List.setIfInBounds_toArray, List.set_cons_zero, List.set_cons_succ]
  have B3 := Lib.hid (B2.out.trans (b3.mono B2.out.size))
  replace MB := Lib.hid (MB.out.below b3 MB.out.lt)
  replace BS := Lib.hid (BS.out.trans (b3.mono BS.out.size))
  replace P1 := Lib.hid ((P1.out.below b3).mono b3.size)
  have P2 := Lib.hid (PtsAt.own p3 (by omega))
  clear p3
  clear b3
  clear inv12 hH
  refine sched_done (by kernel_rfl) BS.out ?_
  simp only [List.drop_succ_cons, List.drop_zero]
  obtain ⟨g2, d2, hv2⟩ := P2.out.len
  subst hv2
  gi_wp2
  go_wp2
  go_ret
  exact ⟨_, rfl, P2.out, B3.out⟩
set_option linter.unusedSimpArgs false in
set_option linter.unusedVariables false in
set_option maxRecDepth 8000 in
set_option maxHeartbeats 3200000 in
theorem rmeet38_any (m o : Msn) (vw vh vr vl vwo vho vro vlo : Value) (l lo : List Int) (a b : Nat) (R Wt : Int) (hk : a < m.ways.length) (hko : b < o.ways.length) (hV : radOkB m l = true) (hVo : radOkB o lo = true) (w : World) (hm : MsnAt w.heap.size w m vw vh vr) (hl : IntsAt w.heap.size w vl l) (hmo : MsnAt w.heap.size w o vwo vho vro) (hlo : IntsAt w.heap.size w vlo lo) :
    Calls Tryz.prog 40 #[.agg (msnCells m vw vh vr), .agg (msnCells o vwo vho vro), vl, vlo, .agg #[.int .i64 a, .int .i64 b, .int .i64 R, .int .i64 Wt]] w fun e w' => e = .returned (.bool (meetB m l o lo a b R Wt)) ∧ Below w.heap.size w w' := by
  have VV := (validB_iff m).1 (by simpa [radOkB] using hV : validB m = true ∧ stopsB m l = true).1
  have VO := (validB_iff o).1 (by simpa [radOkB] using hVo : validB o = true ∧ stopsB o lo = true).1
  have n41 := VV.n41
  have n41o := VO.n41
  have f1 := fun w1 h1 h2 => rtime_any m vw vh vr vl l w1 h1 h2 hV a hk
  have f2 := fun w1 h1 h2 => rtime_any o vwo vho vro vlo lo w1 h1 h2 hVo b hko
  have f3 := fun w1 h1 h2 => rdisk38_any m vw vh vr vl l w1 h1 h2 hV a hk
  have f4 := fun w1 h1 h2 => rdisk38_any o vwo vho vro vlo lo w1 h1 h2 hVo b hko
  have G1 := dskP_valid VV l hk
  have G2 := dskP_valid VO lo hko
  have f5 := fun u v w1 h1 h2 => rreach_any u v (dskP m l a) (dskP o lo b) w1 h1 h2 (fun k hk => (G1.2.2.1 k hk).1) (fun k hk => (G2.2.2.1 k hk).1)
  have eR : rangeV (dskP m l a) (dskP o lo b) = rootUp (reachK (dskP m l a) (dskP o lo b) (dskP m l a).length) := by
    have g1 : goValid (dskP m l a) = true := by simpa [goValid] using G1
    have g2 : goValid (dskP o lo b) = true := by simpa [goValid] using G2
    simp [rangeV, trB, g1, g2]
  rw [← eR] at f5
  have u1 := used_bd VV l a hk
  have u2 := used_bd VO lo b hko
  unfold meetB
  generalize dskP m l a = p1 at *
  generalize dskP o lo b = p2 at *
  generalize rangeV p1 p2 = N at *
  have MM := Lib.hid hm
  have ML := Lib.hid hl
  have OM := Lib.hid hmo
  have OL := Lib.hid hlo
  obtain ⟨⟨-, a1, c1, rfl, -⟩, ⟨-, a2, c2, rfl, -⟩, ⟨-, a3, c3, rfl, -⟩⟩ := hm
  obtain ⟨⟨-, a1o, c1o, rfl, -⟩, ⟨-, a2o, c2o, rfl, -⟩, ⟨-, a3o, c3o, rfl, -⟩⟩ := hmo
  obtain ⟨-, al, cl, rfl, -⟩ := hl
  obtain ⟨-, alo, clo, rfl, -⟩ := hlo
  unfold msnCells at *
  have ua : 0 ≤ usT m l a ∧ usT m l a ≤ 4100000000 := by omega
  have ub : 0 ≤ usT o lo b ∧ usT o lo b ≤ 4100000000 := by omega
  clear VV VO G1 G2 eR u1 u2 hV hVo n41 n41o
  generalize usT m l a = T1 at *
  generalize usT o lo b = T2 at *
  obtain ⟨T, hT⟩ : ∃ t, t = T1 - T2 := ⟨_, rfl⟩
  obtain ⟨T', hT'⟩ : ∃ t, t = T2 - T1 := ⟨_, rfl⟩
  have z1 : IntKind.i64.wrap (T1 - T2) = T := by rw [hT]; exact IntWalk.i64_in _ (by omega)
  have z2 : IntKind.i64.wrap (T2 - T1) = T' := by rw [hT']; exact IntWalk.i64_in _ (by omega)
  have hTT : -T = T' := by omega
  rw [← hT, hTT]
  obtain ⟨M, hM⟩ : ∃ x, x = max T T' := ⟨_, rfl⟩
  have HM := Lib.hid hM
  clear ua ub hT hT' hTT hM
  replace f1 := Lib.hid f1
  replace f2 := Lib.hid f2
  replace f3 := Lib.hid f3
  replace f4 := Lib.hid f4
  replace f5 := Lib.hid f5
  have B0 := Lib.hid (Below.refl w.heap.size w)
  go_enter Tryz.func40, Tryz.ntmps40
  have q0 := Has.new w #[.slice a1 m.ways.length (m.ways.length + c1), .slice a2 m.home.length (m.home.length + c2), .int .i64 m.start, .slice a3 m.rocks.length (m.rocks.length + c3), .int .i64 m.speed, .int .i64 m.part, .int .i64 m.flow, .int .i64 m.idle, .int .i64 m.drive, .int .i64 m.battery, .int .i64 m.deadline] 26
  have q0 := q0.below ((Below.refl (w.heap.size + 1) _).alloc (by simp) (.cells #[.slice a1o o.ways.length (o.ways.length + c1o), .slice a2o o.home.length (o.home.length + c2o), .int .i64 o.start, .slice a3o o.rocks.length (o.rocks.length + c3o), .int .i64 o.speed, .int .i64 o.part, .int .i64 o.flow, .int .i64 o.idle, .int .i64 o.drive, .int .i64 o.battery, .int .i64 o.deadline] 26)) (by omega)
  have q0 := q0.below ((Below.refl (w.heap.size + 2) _).alloc (by simp) (.cells #[.int .i64 a, .int .i64 b, .int .i64 R, .int .i64 Wt] 29)) (by omega)
  have q1 := Has.new (w.alloc (.cells #[.slice a1 m.ways.length (m.ways.length + c1), .slice a2 m.home.length (m.home.length + c2), .int .i64 m.start, .slice a3 m.rocks.length (m.rocks.length + c3), .int .i64 m.speed, .int .i64 m.part, .int .i64 m.flow, .int .i64 m.idle, .int .i64 m.drive, .int .i64 m.battery, .int .i64 m.deadline] 26)) #[.slice a1o o.ways.length (o.ways.length + c1o), .slice a2o o.home.length (o.home.length + c2o), .int .i64 o.start, .slice a3o o.rocks.length (o.rocks.length + c3o), .int .i64 o.speed, .int .i64 o.part, .int .i64 o.flow, .int .i64 o.idle, .int .i64 o.drive, .int .i64 o.battery, .int .i64 o.deadline] 26
  rw [World.size_alloc] at q1
  have q1 := q1.below ((Below.refl (w.heap.size + 2) _).alloc (by simp) (.cells #[.int .i64 a, .int .i64 b, .int .i64 R, .int .i64 Wt] 29)) (by omega)
  have q2 := Has.new ((w.alloc (.cells #[.slice a1 m.ways.length (m.ways.length + c1), .slice a2 m.home.length (m.home.length + c2), .int .i64 m.start, .slice a3 m.rocks.length (m.rocks.length + c3), .int .i64 m.speed, .int .i64 m.part, .int .i64 m.flow, .int .i64 m.idle, .int .i64 m.drive, .int .i64 m.battery, .int .i64 m.deadline] 26)).alloc (.cells #[.slice a1o o.ways.length (o.ways.length + c1o), .slice a2o o.home.length (o.home.length + c2o), .int .i64 o.start, .slice a3o o.rocks.length (o.rocks.length + c3o), .int .i64 o.speed, .int .i64 o.part, .int .i64 o.flow, .int .i64 o.idle, .int .i64 o.drive, .int .i64 o.battery, .int .i64 o.deadline] 26)) #[.int .i64 a, .int .i64 b, .int .i64 R, .int .i64 Wt] 29
  rw [World.size_alloc, World.size_alloc] at q2
  go_wp2_with fail
  replace MM := Lib.hid ((MM.out.below ((((Below.refl w.heap.size w).alloc (Nat.le_refl _) (.cells #[.slice a1 m.ways.length (m.ways.length + c1), .slice a2 m.home.length (m.home.length + c2), .int .i64 m.start, .slice a3 m.rocks.length (m.rocks.length + c3), .int .i64 m.speed, .int .i64 m.part, .int .i64 m.flow, .int .i64 m.idle, .int .i64 m.drive, .int .i64 m.battery, .int .i64 m.deadline] 26)).alloc (by simp) (.cells #[.slice a1o o.ways.length (o.ways.length + c1o), .slice a2o o.home.length (o.home.length + c2o), .int .i64 o.start, .slice a3o o.rocks.length (o.rocks.length + c3o), .int .i64 o.speed, .int .i64 o.part, .int .i64 o.flow, .int .i64 o.idle, .int .i64 o.drive, .int .i64 o.battery, .int .i64 o.deadline] 26)).alloc (by simp; omega) (.cells #[.int .i64 a, .int .i64 b, .int .i64 R, .int .i64 Wt] 29))).mono ((((Below.refl w.heap.size w).alloc (Nat.le_refl _) (.cells #[.slice a1 m.ways.length (m.ways.length + c1), .slice a2 m.home.length (m.home.length + c2), .int .i64 m.start, .slice a3 m.rocks.length (m.rocks.length + c3), .int .i64 m.speed, .int .i64 m.part, .int .i64 m.flow, .int .i64 m.idle, .int .i64 m.drive, .int .i64 m.battery, .int .i64 m.deadline] 26)).alloc (by simp) (.cells #[.slice a1o o.ways.length (o.ways.length + c1o), .slice a2o o.home.length (o.home.length + c2o), .int .i64 o.start, .slice a3o o.rocks.length (o.rocks.length + c3o), .int .i64 o.speed, .int .i64 o.part, .int .i64 o.flow, .int .i64 o.idle, .int .i64 o.drive, .int .i64 o.battery, .int .i64 o.deadline] 26)).alloc (by simp; omega) (.cells #[.int .i64 a, .int .i64 b, .int .i64 R, .int .i64 Wt] 29)).size)
  replace ML := Lib.hid ((ML.out.below ((((Below.refl w.heap.size w).alloc (Nat.le_refl _) (.cells #[.slice a1 m.ways.length (m.ways.length + c1), .slice a2 m.home.length (m.home.length + c2), .int .i64 m.start, .slice a3 m.rocks.length (m.rocks.length + c3), .int .i64 m.speed, .int .i64 m.part, .int .i64 m.flow, .int .i64 m.idle, .int .i64 m.drive, .int .i64 m.battery, .int .i64 m.deadline] 26)).alloc (by simp) (.cells #[.slice a1o o.ways.length (o.ways.length + c1o), .slice a2o o.home.length (o.home.length + c2o), .int .i64 o.start, .slice a3o o.rocks.length (o.rocks.length + c3o), .int .i64 o.speed, .int .i64 o.part, .int .i64 o.flow, .int .i64 o.idle, .int .i64 o.drive, .int .i64 o.battery, .int .i64 o.deadline] 26)).alloc (by simp; omega) (.cells #[.int .i64 a, .int .i64 b, .int .i64 R, .int .i64 Wt] 29))).mono ((((Below.refl w.heap.size w).alloc (Nat.le_refl _) (.cells #[.slice a1 m.ways.length (m.ways.length + c1), .slice a2 m.home.length (m.home.length + c2), .int .i64 m.start, .slice a3 m.rocks.length (m.rocks.length + c3), .int .i64 m.speed, .int .i64 m.part, .int .i64 m.flow, .int .i64 m.idle, .int .i64 m.drive, .int .i64 m.battery, .int .i64 m.deadline] 26)).alloc (by simp) (.cells #[.slice a1o o.ways.length (o.ways.length + c1o), .slice a2o o.home.length (o.home.length + c2o), .int .i64 o.start, .slice a3o o.rocks.length (o.rocks.length + c3o), .int .i64 o.speed, .int .i64 o.part, .int .i64 o.flow, .int .i64 o.idle, .int .i64 o.drive, .int .i64 o.battery, .int .i64 o.deadline] 26)).alloc (by simp; omega) (.cells #[.int .i64 a, .int .i64 b, .int .i64 R, .int .i64 Wt] 29)).size)
  replace OM := Lib.hid ((OM.out.below ((((Below.refl w.heap.size w).alloc (Nat.le_refl _) (.cells #[.slice a1 m.ways.length (m.ways.length + c1), .slice a2 m.home.length (m.home.length + c2), .int .i64 m.start, .slice a3 m.rocks.length (m.rocks.length + c3), .int .i64 m.speed, .int .i64 m.part, .int .i64 m.flow, .int .i64 m.idle, .int .i64 m.drive, .int .i64 m.battery, .int .i64 m.deadline] 26)).alloc (by simp) (.cells #[.slice a1o o.ways.length (o.ways.length + c1o), .slice a2o o.home.length (o.home.length + c2o), .int .i64 o.start, .slice a3o o.rocks.length (o.rocks.length + c3o), .int .i64 o.speed, .int .i64 o.part, .int .i64 o.flow, .int .i64 o.idle, .int .i64 o.drive, .int .i64 o.battery, .int .i64 o.deadline] 26)).alloc (by simp; omega) (.cells #[.int .i64 a, .int .i64 b, .int .i64 R, .int .i64 Wt] 29))).mono ((((Below.refl w.heap.size w).alloc (Nat.le_refl _) (.cells #[.slice a1 m.ways.length (m.ways.length + c1), .slice a2 m.home.length (m.home.length + c2), .int .i64 m.start, .slice a3 m.rocks.length (m.rocks.length + c3), .int .i64 m.speed, .int .i64 m.part, .int .i64 m.flow, .int .i64 m.idle, .int .i64 m.drive, .int .i64 m.battery, .int .i64 m.deadline] 26)).alloc (by simp) (.cells #[.slice a1o o.ways.length (o.ways.length + c1o), .slice a2o o.home.length (o.home.length + c2o), .int .i64 o.start, .slice a3o o.rocks.length (o.rocks.length + c3o), .int .i64 o.speed, .int .i64 o.part, .int .i64 o.flow, .int .i64 o.idle, .int .i64 o.drive, .int .i64 o.battery, .int .i64 o.deadline] 26)).alloc (by simp; omega) (.cells #[.int .i64 a, .int .i64 b, .int .i64 R, .int .i64 Wt] 29)).size)
  replace OL := Lib.hid ((OL.out.below ((((Below.refl w.heap.size w).alloc (Nat.le_refl _) (.cells #[.slice a1 m.ways.length (m.ways.length + c1), .slice a2 m.home.length (m.home.length + c2), .int .i64 m.start, .slice a3 m.rocks.length (m.rocks.length + c3), .int .i64 m.speed, .int .i64 m.part, .int .i64 m.flow, .int .i64 m.idle, .int .i64 m.drive, .int .i64 m.battery, .int .i64 m.deadline] 26)).alloc (by simp) (.cells #[.slice a1o o.ways.length (o.ways.length + c1o), .slice a2o o.home.length (o.home.length + c2o), .int .i64 o.start, .slice a3o o.rocks.length (o.rocks.length + c3o), .int .i64 o.speed, .int .i64 o.part, .int .i64 o.flow, .int .i64 o.idle, .int .i64 o.drive, .int .i64 o.battery, .int .i64 o.deadline] 26)).alloc (by simp; omega) (.cells #[.int .i64 a, .int .i64 b, .int .i64 R, .int .i64 Wt] 29))).mono ((((Below.refl w.heap.size w).alloc (Nat.le_refl _) (.cells #[.slice a1 m.ways.length (m.ways.length + c1), .slice a2 m.home.length (m.home.length + c2), .int .i64 m.start, .slice a3 m.rocks.length (m.rocks.length + c3), .int .i64 m.speed, .int .i64 m.part, .int .i64 m.flow, .int .i64 m.idle, .int .i64 m.drive, .int .i64 m.battery, .int .i64 m.deadline] 26)).alloc (by simp) (.cells #[.slice a1o o.ways.length (o.ways.length + c1o), .slice a2o o.home.length (o.home.length + c2o), .int .i64 o.start, .slice a3o o.rocks.length (o.rocks.length + c3o), .int .i64 o.speed, .int .i64 o.part, .int .i64 o.flow, .int .i64 o.idle, .int .i64 o.drive, .int .i64 o.battery, .int .i64 o.deadline] 26)).alloc (by simp; omega) (.cells #[.int .i64 a, .int .i64 b, .int .i64 R, .int .i64 Wt] 29)).size)
  have MB := Lib.hid (show Has (((w.alloc (.cells #[.slice a1 m.ways.length (m.ways.length + c1), .slice a2 m.home.length (m.home.length + c2), .int .i64 m.start, .slice a3 m.rocks.length (m.rocks.length + c3), .int .i64 m.speed, .int .i64 m.part, .int .i64 m.flow, .int .i64 m.idle, .int .i64 m.drive, .int .i64 m.battery, .int .i64 m.deadline] 26)).alloc (.cells #[.slice a1o o.ways.length (o.ways.length + c1o), .slice a2o o.home.length (o.home.length + c2o), .int .i64 o.start, .slice a3o o.rocks.length (o.rocks.length + c3o), .int .i64 o.speed, .int .i64 o.part, .int .i64 o.flow, .int .i64 o.idle, .int .i64 o.drive, .int .i64 o.battery, .int .i64 o.deadline] 26)).alloc (.cells #[.int .i64 a, .int .i64 b, .int .i64 R, .int .i64 Wt] 29)) (w.heap.size) #[.slice a1 m.ways.length (m.ways.length + c1), .slice a2 m.home.length (m.home.length + c2), .int .i64 m.start, .slice a3 m.rocks.length (m.rocks.length + c3), .int .i64 m.speed, .int .i64 m.part, .int .i64 m.flow, .int .i64 m.idle, .int .i64 m.drive, .int .i64 m.battery, .int .i64 m.deadline] 26 from q0)
  have OB := Lib.hid (show Has (((w.alloc (.cells #[.slice a1 m.ways.length (m.ways.length + c1), .slice a2 m.home.length (m.home.length + c2), .int .i64 m.start, .slice a3 m.rocks.length (m.rocks.length + c3), .int .i64 m.speed, .int .i64 m.part, .int .i64 m.flow, .int .i64 m.idle, .int .i64 m.drive, .int .i64 m.battery, .int .i64 m.deadline] 26)).alloc (.cells #[.slice a1o o.ways.length (o.ways.length + c1o), .slice a2o o.home.length (o.home.length + c2o), .int .i64 o.start, .slice a3o o.rocks.length (o.rocks.length + c3o), .int .i64 o.speed, .int .i64 o.part, .int .i64 o.flow, .int .i64 o.idle, .int .i64 o.drive, .int .i64 o.battery, .int .i64 o.deadline] 26)).alloc (.cells #[.int .i64 a, .int .i64 b, .int .i64 R, .int .i64 Wt] 29)) (w.heap.size + 1) #[.slice a1o o.ways.length (o.ways.length + c1o), .slice a2o o.home.length (o.home.length + c2o), .int .i64 o.start, .slice a3o o.rocks.length (o.rocks.length + c3o), .int .i64 o.speed, .int .i64 o.part, .int .i64 o.flow, .int .i64 o.idle, .int .i64 o.drive, .int .i64 o.battery, .int .i64 o.deadline] 26 from q1)
  have TB := Lib.hid (show Has (((w.alloc (.cells #[.slice a1 m.ways.length (m.ways.length + c1), .slice a2 m.home.length (m.home.length + c2), .int .i64 m.start, .slice a3 m.rocks.length (m.rocks.length + c3), .int .i64 m.speed, .int .i64 m.part, .int .i64 m.flow, .int .i64 m.idle, .int .i64 m.drive, .int .i64 m.battery, .int .i64 m.deadline] 26)).alloc (.cells #[.slice a1o o.ways.length (o.ways.length + c1o), .slice a2o o.home.length (o.home.length + c2o), .int .i64 o.start, .slice a3o o.rocks.length (o.rocks.length + c3o), .int .i64 o.speed, .int .i64 o.part, .int .i64 o.flow, .int .i64 o.idle, .int .i64 o.drive, .int .i64 o.battery, .int .i64 o.deadline] 26)).alloc (.cells #[.int .i64 a, .int .i64 b, .int .i64 R, .int .i64 Wt] 29)) (w.heap.size + 1 + 1) #[.int .i64 a, .int .i64 b, .int .i64 R, .int .i64 Wt] 29 from q2)
  have BX0 := Lib.hid (B0.out.trans ((((((Below.refl w.heap.size w).alloc (Nat.le_refl _) (.cells #[.slice a1 m.ways.length (m.ways.length + c1), .slice a2 m.home.length (m.home.length + c2), .int .i64 m.start, .slice a3 m.rocks.length (m.rocks.length + c3), .int .i64 m.speed, .int .i64 m.part, .int .i64 m.flow, .int .i64 m.idle, .int .i64 m.drive, .int .i64 m.battery, .int .i64 m.deadline] 26)).alloc (by simp) (.cells #[.slice a1o o.ways.length (o.ways.length + c1o), .slice a2o o.home.length (o.home.length + c2o), .int .i64 o.start, .slice a3o o.rocks.length (o.rocks.length + c3o), .int .i64 o.speed, .int .i64 o.part, .int .i64 o.flow, .int .i64 o.idle, .int .i64 o.drive, .int .i64 o.battery, .int .i64 o.deadline] 26)).alloc (by simp; omega) (.cells #[.int .i64 a, .int .i64 b, .int .i64 R, .int .i64 Wt] 29))).mono B0.out.size))
  generalize hXX0 : (((w.alloc (.cells #[.slice a1 m.ways.length (m.ways.length + c1), .slice a2 m.home.length (m.home.length + c2), .int .i64 m.start, .slice a3 m.rocks.length (m.rocks.length + c3), .int .i64 m.speed, .int .i64 m.part, .int .i64 m.flow, .int .i64 m.idle, .int .i64 m.drive, .int .i64 m.battery, .int .i64 m.deadline] 26)).alloc (.cells #[.slice a1o o.ways.length (o.ways.length + c1o), .slice a2o o.home.length (o.home.length + c2o), .int .i64 o.start, .slice a3o o.rocks.length (o.rocks.length + c3o), .int .i64 o.speed, .int .i64 o.part, .int .i64 o.flow, .int .i64 o.idle, .int .i64 o.drive, .int .i64 o.battery, .int .i64 o.deadline] 26)).alloc (.cells #[.int .i64 a, .int .i64 b, .int .i64 R, .int .i64 Wt] 29)) = X0 at *
  clear hXX0
  clear q0 q1 q2
  have hz0 := BX0.out.size
  refine (f1.out _ MM.out ML.out).mono ?_
  rintro e w1 ⟨rfl, b1⟩
  have B1 := Lib.hid (BX0.out.trans (b1.mono BX0.out.size))
  replace MM := Lib.hid ((MM.out.below b1).mono b1.size)
  replace ML := Lib.hid ((ML.out.below b1).mono b1.size)
  replace OM := Lib.hid ((OM.out.below b1).mono b1.size)
  replace OL := Lib.hid ((OL.out.below b1).mono b1.size)
  replace MB := Lib.hid (MB.out.below b1 MB.out.lt)
  replace OB := Lib.hid (OB.out.below b1 OB.out.lt)
  replace TB := Lib.hid (TB.out.below b1 TB.out.lt)
  clear b1
  obtain ⟨d0, d1, d2, d3, d4, d5, d6, d7, d8, d9, d10⟩ := msn_cells (m := m) MB.out
  obtain ⟨e0, e1, e2, e3, e4, e5, e6, e7, e8, e9, e10⟩ := msn_cells (m := o) OB.out
  have t0 := TB.out.cell (i := 0) rfl; have t1 := TB.out.cell (i := 1) rfl
  go_wp2_with fail
  refine (f2.out _ OM.out OL.out).mono ?_
  rintro e w2 ⟨rfl, b2⟩
  have B2 := Lib.hid (B1.out.trans (b2.mono B1.out.size))
  replace MM := Lib.hid ((MM.out.below b2).mono b2.size)
  replace ML := Lib.hid ((ML.out.below b2).mono b2.size)
  replace OM := Lib.hid ((OM.out.below b2).mono b2.size)
  replace OL := Lib.hid ((OL.out.below b2).mono b2.size)
  replace MB := Lib.hid (MB.out.below b2 MB.out.lt)
  replace OB := Lib.hid (OB.out.below b2 OB.out.lt)
  replace TB := Lib.hid (TB.out.below b2 TB.out.lt)
  clear b2
  clear d0 d1 d2 d3 d4 d5 d6 d7 d8 d9 d10 e0 e1 e2 e3 e4 e5 e6 e7 e8 e9 e10 t0 t1
  obtain ⟨d0, d1, d2, d3, d4, d5, d6, d7, d8, d9, d10⟩ := msn_cells (m := m) MB.out
  obtain ⟨e0, e1, e2, e3, e4, e5, e6, e7, e8, e9, e10⟩ := msn_cells (m := o) OB.out
  have t0 := TB.out.cell (i := 0) rfl; have t1 := TB.out.cell (i := 1) rfl
  clear d0 d1 d2 d3 d4 d5 d6 d7 d8 d9 d10 e0 e1 e2 e3 e4 e5 e6 e7 e8 e9 e10 t0 t1
  go_wp2_with fail
  have BS := Lib.hid (Below.refl w2.heap.size w2)
  have HT := Lib.hid (fun X (hX : Below w2.heap.size w2 X) => And.intro (MB.out.below hX MB.out.lt) (And.intro (OB.out.below hX OB.out.lt) (TB.out.below hX TB.out.lt)))
  cases d1 : decide (N ≤ R)
  · skip
    refine (wpIn_wide (n := 9)).1 ?_
    refine wpIn_region_sched (lets_wide _) 26 (fun X => Below w2.heap.size w2 X) (by kernel_rfl) (by kernel_rfl) (by kernel_rfl) fun hH inv0 => ?_
    have hD := Below.drew (Below.refl w2.heap.size w2)
    replace MM := Lib.hid ((MM.out.below hD).mono hD.size)
    replace ML := Lib.hid ((ML.out.below hD).mono hD.size)
    replace OM := Lib.hid ((OM.out.below hD).mono hD.size)
    replace OL := Lib.hid ((OL.out.below hD).mono hD.size)
    replace MB := Lib.hid (MB.out.below hD MB.out.lt)
    replace OB := Lib.hid (OB.out.below hD OB.out.lt)
    replace TB := Lib.hid (TB.out.below hD TB.out.lt)
    replace BS := Lib.hid (BS.out.trans (hD.mono BS.out.size))
    have BXD := Lib.hid (B2.out.trans (hD.mono B2.out.size))
    clear hD
    generalize hXXD : w2.drew = XD at *
    clear hXXD
    refine sched_take hH (i := 0) (v := .agg #[.slice a1 m.ways.length (m.ways.length + c1), .slice a2 m.home.length (m.home.length + c2), .int .i64 m.start, .slice a3 m.rocks.length (m.rocks.length + c3), .int .i64 m.speed, .int .i64 m.part, .int .i64 m.flow, .int .i64 m.idle, .int .i64 m.drive, .int .i64 m.battery, .int .i64 m.deadline]) (drop_get rfl) (by omega) inv0 (by kernel_rfl) (by kernel_rfl) rfl (fun X hX => ?_) fun inv1 => ?_
    · obtain ⟨hA, hB, hT⟩ := HT.out X hX; have r0 := hA.cell (i := 0) rfl; have r1 := hA.cell (i := 1) rfl; have r2 := hA.cell (i := 2) rfl; have r3 := hA.cell (i := 3) rfl; have r4 := hA.cell (i := 4) rfl; have r5 := hA.cell (i := 5) rfl; have r6 := hA.cell (i := 6) rfl; have r7 := hA.cell (i := 7) rfl; have r8 := hA.cell (i := 8) rfl; have r9 := hA.cell (i := 9) rfl; have r10 := hA.cell (i := 10) rfl; go_simp
    simp only [Act.put, List.setIfInBounds_toArray, List.set_cons_zero, List.set_cons_succ]
    clear inv0
    refine sched_take hH (i := 1) (v := .slice al l.length (l.length + cl)) (drop_get rfl) (by omega) inv1 (by kernel_rfl) (by kernel_rfl) rfl (fun X hX => ?_) fun inv2 => ?_
    · go_simp
    simp only [Act.put, List.setIfInBounds_toArray, List.set_cons_zero, List.set_cons_succ]
    clear inv1
    refine sched_take hH (i := 2) (v := .pointer (some ⟨w.heap.size + 1 + 1, 0, none⟩)) (drop_get rfl) (by omega) inv2 (by kernel_rfl) (by kernel_rfl) rfl (fun X hX => ?_) fun inv3 => ?_
    · go_simp
    simp only [Act.put, List.setIfInBounds_toArray, List.set_cons_zero, List.set_cons_succ]
    clear inv2
    refine sched_take hH (i := 3) (v := .int .i64 (a : Int)) (drop_get rfl) (by omega) inv3 (by kernel_rfl) (by kernel_rfl) rfl (fun X hX => ?_) fun inv4 => ?_
    · obtain ⟨hA, hB, hT⟩ := HT.out X hX; have r1 := hT.cell (i := 0) rfl; go_simp
    simp only [Act.put, List.setIfInBounds_toArray, List.set_cons_zero, List.set_cons_succ]
    clear inv3
    refine sched_take hH (i := 5) (v := .agg #[.slice a1o o.ways.length (o.ways.length + c1o), .slice a2o o.home.length (o.home.length + c2o), .int .i64 o.start, .slice a3o o.rocks.length (o.rocks.length + c3o), .int .i64 o.speed, .int .i64 o.part, .int .i64 o.flow, .int .i64 o.idle, .int .i64 o.drive, .int .i64 o.battery, .int .i64 o.deadline]) (drop_get rfl) (by omega) inv4 (by kernel_rfl) (by kernel_rfl) rfl (fun X hX => ?_) fun inv5 => ?_
    · obtain ⟨hA, hB, hT⟩ := HT.out X hX; have r0 := hB.cell (i := 0) rfl; have r1 := hB.cell (i := 1) rfl; have r2 := hB.cell (i := 2) rfl; have r3 := hB.cell (i := 3) rfl; have r4 := hB.cell (i := 4) rfl; have r5 := hB.cell (i := 5) rfl; have r6 := hB.cell (i := 6) rfl; have r7 := hB.cell (i := 7) rfl; have r8 := hB.cell (i := 8) rfl; have r9 := hB.cell (i := 9) rfl; have r10 := hB.cell (i := 10) rfl; go_simp
    simp only [Act.put, List.setIfInBounds_toArray, List.set_cons_zero, List.set_cons_succ]
    clear inv4
    refine sched_take hH (i := 6) (v := .slice alo lo.length (lo.length + clo)) (drop_get rfl) (by omega) inv5 (by kernel_rfl) (by kernel_rfl) rfl (fun X hX => ?_) fun inv6 => ?_
    · go_simp
    simp only [Act.put, List.setIfInBounds_toArray, List.set_cons_zero, List.set_cons_succ]
    clear inv5
    refine sched_take hH (i := 7) (v := .pointer (some ⟨w.heap.size + 1 + 1, 1, none⟩)) (drop_get rfl) (by omega) inv6 (by kernel_rfl) (by kernel_rfl) rfl (fun X hX => ?_) fun inv7 => ?_
    · go_simp
    simp only [Act.put, List.setIfInBounds_toArray, List.set_cons_zero, List.set_cons_succ]
    clear inv6
    refine sched_take hH (i := 8) (v := .int .i64 (b : Int)) (drop_get rfl) (by omega) inv7 (by kernel_rfl) (by kernel_rfl) rfl (fun X hX => ?_) fun inv8 => ?_
    · obtain ⟨hA, hB, hT⟩ := HT.out X hX; have r1 := hT.cell (i := 1) rfl; go_simp
    simp only [Act.put, List.setIfInBounds_toArray, List.set_cons_zero, List.set_cons_succ]
    clear inv7
    refine sched_take hH (i := 11) (v := .pointer (some ⟨w.heap.size + 1 + 1, 2, none⟩)) (drop_get rfl) (by omega) inv8 (by kernel_rfl) (by kernel_rfl) rfl (fun X hX => ?_) fun inv9 => ?_
    · go_simp
    simp only [Act.put, List.setIfInBounds_toArray, List.set_cons_zero, List.set_cons_succ]
    clear inv8
    refine sched_take hH (i := 12) (v := .int .i64 R) (drop_get rfl) (by omega) inv9 (by kernel_rfl) (by kernel_rfl) rfl (fun X hX => ?_) fun inv10 => ?_
    · obtain ⟨hA, hB, hT⟩ := HT.out X hX; have r1 := hT.cell (i := 2) rfl; go_simp
    simp only [Act.put, List.setIfInBounds_toArray, List.set_cons_zero, List.set_cons_succ]
    clear inv9
    have inv11 := HeadInv.put inv10 (j := 4) (by kernel_rfl) (by omega)
    clear inv10
    refine sched_all (rs := [4]) (by kernel_rfl) (by simp) BS.out (by simp) (fun i hi' => ?_)
    simp only [List.mem_cons, List.not_mem_nil, or_false] at hi'
    subst hi'
    refine okOp_call (drop_get rfl) rfl (f := 67) (args := #[.agg #[.slice a1 m.ways.length (m.ways.length + c1), .slice a2 m.home.length (m.home.length + c2), .int .i64 m.start, .slice a3 m.rocks.length (m.rocks.length + c3), .int .i64 m.speed, .int .i64 m.part, .int .i64 m.flow, .int .i64 m.idle, .int .i64 m.drive, .int .i64 m.battery, .int .i64 m.deadline], .slice al l.length (l.length + cl), .int .i64 (a : Int)]) (by go_simp) (f3.out XD MM.out ML.out) ?_
    rintro e w3 ⟨v3, rfl, p3, b3⟩
    refine ⟨v3, rfl, ?_⟩
    simp only [Act.put, List.setIfInBounds_toArray, List.set_cons_zero, List.set_cons_succ]
    have B3 := Lib.hid (BXD.out.trans (b3.mono BXD.out.size))
    replace MM := Lib.hid ((MM.out.below b3).mono b3.size)
    replace ML := Lib.hid ((ML.out.below b3).mono b3.size)
    replace OM := Lib.hid ((OM.out.below b3).mono b3.size)
    replace OL := Lib.hid ((OL.out.below b3).mono b3.size)
    replace MB := Lib.hid (MB.out.below b3 MB.out.lt)
    replace OB := Lib.hid (OB.out.below b3 OB.out.lt)
    replace TB := Lib.hid (TB.out.below b3 TB.out.lt)
    replace BS := Lib.hid (BS.out.trans (b3.mono BS.out.size))
    have P1 := Lib.hid p3
    clear p3
    clear b3
    have inv12 := HeadInv.put inv11 (j := 9) (by kernel_rfl) (by omega)
    clear inv11
    refine sched_all (rs := [9]) (by kernel_rfl) (by simp) BS.out (by simp) (fun i hi' => ?_)
    simp only [List.mem_cons, List.not_mem_nil, or_false] at hi'
    subst hi'
    refine okOp_call (drop_get rfl) rfl (f := 67) (args := #[.agg #[.slice a1o o.ways.length (o.ways.length + c1o), .slice a2o o.home.length (o.home.length + c2o), .int .i64 o.start, .slice a3o o.rocks.length (o.rocks.length + c3o), .int .i64 o.speed, .int .i64 o.part, .int .i64 o.flow, .int .i64 o.idle, .int .i64 o.drive, .int .i64 o.battery, .int .i64 o.deadline], .slice alo lo.length (lo.length + clo), .int .i64 (b : Int)]) (by go_simp) (f4.out w3 OM.out OL.out) ?_
    rintro e w4 ⟨v4, rfl, p4, b4⟩
    refine ⟨v4, rfl, ?_⟩
    simp only [Act.put, List.setIfInBounds_toArray, List.set_cons_zero, List.set_cons_succ]
    have B4 := Lib.hid (B3.out.trans (b4.mono B3.out.size))
    replace MM := Lib.hid ((MM.out.below b4).mono b4.size)
    replace ML := Lib.hid ((ML.out.below b4).mono b4.size)
    replace OM := Lib.hid ((OM.out.below b4).mono b4.size)
    replace OL := Lib.hid ((OL.out.below b4).mono b4.size)
    replace MB := Lib.hid (MB.out.below b4 MB.out.lt)
    replace OB := Lib.hid (OB.out.below b4 OB.out.lt)
    replace TB := Lib.hid (TB.out.below b4 TB.out.lt)
    replace BS := Lib.hid (BS.out.trans (b4.mono BS.out.size))
    replace P1 := Lib.hid ((P1.out.below b4).mono b4.size)
    have P2 := Lib.hid p4
    clear p4
    clear b4
    have inv13 := HeadInv.put inv12 (j := 10) (by kernel_rfl) (by omega)
    clear inv12
    refine sched_all (rs := [10]) (by kernel_rfl) (by simp) BS.out (by simp) (fun i hi' => ?_)
    simp only [List.mem_cons, List.not_mem_nil, or_false] at hi'
    subst hi'
    refine okOp_call (drop_get rfl) rfl (f := 34) (args := #[v3, v4]) (by go_simp) (f5.out _ _ w4 P1.out P2.out) ?_
    rintro e w5 ⟨rfl, b5⟩
    refine ⟨_, rfl, ?_⟩
    simp only [Act.put, List.setIfInBounds_toArray, List.set_cons_zero, List.set_cons_succ]
    have B5 := Lib.hid (B4.out.trans (b5.mono B4.out.size))
    replace MM := Lib.hid ((MM.out.below b5).mono b5.size)
    replace ML := Lib.hid ((ML.out.below b5).mono b5.size)
    replace OM := Lib.hid ((OM.out.below b5).mono b5.size)
    replace OL := Lib.hid ((OL.out.below b5).mono b5.size)
    replace MB := Lib.hid (MB.out.below b5 MB.out.lt)
    replace OB := Lib.hid (OB.out.below b5 OB.out.lt)
    replace TB := Lib.hid (TB.out.below b5 TB.out.lt)
    replace BS := Lib.hid (BS.out.trans (b5.mono BS.out.size))
    replace P1 := Lib.hid ((P1.out.below b5).mono b5.size)
    replace P2 := Lib.hid ((P2.out.below b5).mono b5.size)
    clear b5
    refine sched_take hH (i := 13) (v := .bool false) (drop_get rfl) (by omega) inv13 (by kernel_rfl) (by kernel_rfl) rfl (fun X hX => ?_) fun inv14 => ?_
    · go_simp
    simp only [Act.put, List.setIfInBounds_toArray, List.set_cons_zero, List.set_cons_succ]
    clear inv13
    refine sched_take hH (i := 14) (v := .bool false) (drop_get rfl) (by omega) inv14 (by kernel_rfl) (by kernel_rfl) rfl (fun X hX => ?_) fun inv15 => ?_
    · go_simp
    simp only [Act.put, List.setIfInBounds_toArray, List.set_cons_zero, List.set_cons_succ]
    clear inv14
    refine sched_pass hH (i := 15) (drop_get rfl) (by omega) inv15 (by kernel_rfl) (by kernel_rfl) rfl fun inv16 => ?_
    simp only [Act.put, List.setIfInBounds_toArray, List.set_cons_zero, List.set_cons_succ]
    clear inv15
    refine sched_pass hH (i := 16) (drop_get rfl) (by omega) inv16 (by kernel_rfl) (by kernel_rfl) rfl fun inv17 => ?_
    simp only [Act.put, List.setIfInBounds_toArray, List.set_cons_zero, List.set_cons_succ]
    clear inv16
    refine sched_pass hH (i := 17) (drop_get rfl) (by omega) inv17 (by kernel_rfl) (by kernel_rfl) rfl fun inv18 => ?_
    simp only [Act.put, List.setIfInBounds_toArray, List.set_cons_zero, List.set_cons_succ]
    clear inv17
    refine sched_pass hH (i := 18) (drop_get rfl) (by omega) inv18 (by kernel_rfl) (by kernel_rfl) rfl fun inv19 => ?_
    simp only [Act.put, List.setIfInBounds_toArray, List.set_cons_zero, List.set_cons_succ]
    clear inv18
    refine sched_pass hH (i := 19) (drop_get rfl) (by omega) inv19 (by kernel_rfl) (by kernel_rfl) rfl fun inv20 => ?_
    simp only [Act.put, List.setIfInBounds_toArray, List.set_cons_zero, List.set_cons_succ]
    clear inv19
    refine sched_pass hH (i := 20) (drop_get rfl) (by omega) inv20 (by kernel_rfl) (by kernel_rfl) rfl fun inv21 => ?_
    simp only [Act.put, List.setIfInBounds_toArray, List.set_cons_zero, List.set_cons_succ]
    clear inv20
    refine sched_pass hH (i := 21) (drop_get rfl) (by omega) inv21 (by kernel_rfl) (by kernel_rfl) rfl fun inv22 => ?_
    simp only [Act.put, List.setIfInBounds_toArray, List.set_cons_zero, List.set_cons_succ]
    clear inv21
    refine sched_pass hH (i := 22) (drop_get rfl) (by omega) inv22 (by kernel_rfl) (by kernel_rfl) rfl fun inv23 => ?_
    simp only [Act.put, List.setIfInBounds_toArray, List.set_cons_zero, List.set_cons_succ]
    clear inv22
    refine sched_pass hH (i := 23) (drop_get rfl) (by omega) inv23 (by kernel_rfl) (by kernel_rfl) rfl fun inv24 => ?_
    simp only [Act.put, List.setIfInBounds_toArray, List.set_cons_zero, List.set_cons_succ]
    clear inv23
    refine sched_pass hH (i := 24) (drop_get rfl) (by omega) inv24 (by kernel_rfl) (by kernel_rfl) rfl fun inv25 => ?_
    simp only [Act.put, List.setIfInBounds_toArray, List.set_cons_zero, List.set_cons_succ]
    clear inv24
    refine sched_take hH (i := 25) (v := .bool false) (drop_get rfl) (by omega) inv25 (by kernel_rfl) (by kernel_rfl) rfl (fun X hX => ?_) fun inv26 => ?_
    · go_simp
    simp only [Act.put, List.setIfInBounds_toArray, List.set_cons_zero, List.set_cons_succ]
    clear inv25
    clear inv26 hH
    refine sched_done (by kernel_rfl) BS.out ?_
    simp only [List.drop_succ_cons, List.drop_zero]
    gi_wp2
    go_wp2
    go_ret
    exact ⟨by rw [d1]; rfl, B5.out⟩
  · skip
    have hdd : (decide (T ≤ Wt) && decide (T' ≤ Wt)) = decide (M ≤ Wt) := by rw [HM.out, ← Bool.decide_and]; congr 1; rw [eq_iff_iff]; omega
    have HDD := Lib.hid hdd
    clear hdd
    refine (wpIn_wide (n := 9)).1 ?_
    refine wpIn_region_sched (lets_wide _) 26 (fun X => Below w2.heap.size w2 X) (by kernel_rfl) (by kernel_rfl) (by kernel_rfl) fun hH inv0 => ?_
    have hD := Below.drew (Below.refl w2.heap.size w2)
    replace MM := Lib.hid ((MM.out.below hD).mono hD.size)
    replace ML := Lib.hid ((ML.out.below hD).mono hD.size)
    replace OM := Lib.hid ((OM.out.below hD).mono hD.size)
    replace OL := Lib.hid ((OL.out.below hD).mono hD.size)
    replace MB := Lib.hid (MB.out.below hD MB.out.lt)
    replace OB := Lib.hid (OB.out.below hD OB.out.lt)
    replace TB := Lib.hid (TB.out.below hD TB.out.lt)
    replace BS := Lib.hid (BS.out.trans (hD.mono BS.out.size))
    have BXD := Lib.hid (B2.out.trans (hD.mono B2.out.size))
    clear hD
    generalize hXXD : w2.drew = XD at *
    clear hXXD
    refine sched_take hH (i := 0) (v := .agg #[.slice a1 m.ways.length (m.ways.length + c1), .slice a2 m.home.length (m.home.length + c2), .int .i64 m.start, .slice a3 m.rocks.length (m.rocks.length + c3), .int .i64 m.speed, .int .i64 m.part, .int .i64 m.flow, .int .i64 m.idle, .int .i64 m.drive, .int .i64 m.battery, .int .i64 m.deadline]) (drop_get rfl) (by omega) inv0 (by kernel_rfl) (by kernel_rfl) rfl (fun X hX => ?_) fun inv1 => ?_
    · obtain ⟨hA, hB, hT⟩ := HT.out X hX; have r0 := hA.cell (i := 0) rfl; have r1 := hA.cell (i := 1) rfl; have r2 := hA.cell (i := 2) rfl; have r3 := hA.cell (i := 3) rfl; have r4 := hA.cell (i := 4) rfl; have r5 := hA.cell (i := 5) rfl; have r6 := hA.cell (i := 6) rfl; have r7 := hA.cell (i := 7) rfl; have r8 := hA.cell (i := 8) rfl; have r9 := hA.cell (i := 9) rfl; have r10 := hA.cell (i := 10) rfl; go_simp
    simp only [Act.put, List.setIfInBounds_toArray, List.set_cons_zero, List.set_cons_succ]
    clear inv0
    refine sched_take hH (i := 1) (v := .slice al l.length (l.length + cl)) (drop_get rfl) (by omega) inv1 (by kernel_rfl) (by kernel_rfl) rfl (fun X hX => ?_) fun inv2 => ?_
    · go_simp
    simp only [Act.put, List.setIfInBounds_toArray, List.set_cons_zero, List.set_cons_succ]
    clear inv1
    refine sched_take hH (i := 2) (v := .pointer (some ⟨w.heap.size + 1 + 1, 0, none⟩)) (drop_get rfl) (by omega) inv2 (by kernel_rfl) (by kernel_rfl) rfl (fun X hX => ?_) fun inv3 => ?_
    · go_simp
    simp only [Act.put, List.setIfInBounds_toArray, List.set_cons_zero, List.set_cons_succ]
    clear inv2
    refine sched_take hH (i := 3) (v := .int .i64 (a : Int)) (drop_get rfl) (by omega) inv3 (by kernel_rfl) (by kernel_rfl) rfl (fun X hX => ?_) fun inv4 => ?_
    · obtain ⟨hA, hB, hT⟩ := HT.out X hX; have r1 := hT.cell (i := 0) rfl; go_simp
    simp only [Act.put, List.setIfInBounds_toArray, List.set_cons_zero, List.set_cons_succ]
    clear inv3
    refine sched_take hH (i := 5) (v := .agg #[.slice a1o o.ways.length (o.ways.length + c1o), .slice a2o o.home.length (o.home.length + c2o), .int .i64 o.start, .slice a3o o.rocks.length (o.rocks.length + c3o), .int .i64 o.speed, .int .i64 o.part, .int .i64 o.flow, .int .i64 o.idle, .int .i64 o.drive, .int .i64 o.battery, .int .i64 o.deadline]) (drop_get rfl) (by omega) inv4 (by kernel_rfl) (by kernel_rfl) rfl (fun X hX => ?_) fun inv5 => ?_
    · obtain ⟨hA, hB, hT⟩ := HT.out X hX; have r0 := hB.cell (i := 0) rfl; have r1 := hB.cell (i := 1) rfl; have r2 := hB.cell (i := 2) rfl; have r3 := hB.cell (i := 3) rfl; have r4 := hB.cell (i := 4) rfl; have r5 := hB.cell (i := 5) rfl; have r6 := hB.cell (i := 6) rfl; have r7 := hB.cell (i := 7) rfl; have r8 := hB.cell (i := 8) rfl; have r9 := hB.cell (i := 9) rfl; have r10 := hB.cell (i := 10) rfl; go_simp
    simp only [Act.put, List.setIfInBounds_toArray, List.set_cons_zero, List.set_cons_succ]
    clear inv4
    refine sched_take hH (i := 6) (v := .slice alo lo.length (lo.length + clo)) (drop_get rfl) (by omega) inv5 (by kernel_rfl) (by kernel_rfl) rfl (fun X hX => ?_) fun inv6 => ?_
    · go_simp
    simp only [Act.put, List.setIfInBounds_toArray, List.set_cons_zero, List.set_cons_succ]
    clear inv5
    refine sched_take hH (i := 7) (v := .pointer (some ⟨w.heap.size + 1 + 1, 1, none⟩)) (drop_get rfl) (by omega) inv6 (by kernel_rfl) (by kernel_rfl) rfl (fun X hX => ?_) fun inv7 => ?_
    · go_simp
    simp only [Act.put, List.setIfInBounds_toArray, List.set_cons_zero, List.set_cons_succ]
    clear inv6
    refine sched_take hH (i := 8) (v := .int .i64 (b : Int)) (drop_get rfl) (by omega) inv7 (by kernel_rfl) (by kernel_rfl) rfl (fun X hX => ?_) fun inv8 => ?_
    · obtain ⟨hA, hB, hT⟩ := HT.out X hX; have r1 := hT.cell (i := 1) rfl; go_simp
    simp only [Act.put, List.setIfInBounds_toArray, List.set_cons_zero, List.set_cons_succ]
    clear inv7
    refine sched_take hH (i := 11) (v := .pointer (some ⟨w.heap.size + 1 + 1, 2, none⟩)) (drop_get rfl) (by omega) inv8 (by kernel_rfl) (by kernel_rfl) rfl (fun X hX => ?_) fun inv9 => ?_
    · go_simp
    simp only [Act.put, List.setIfInBounds_toArray, List.set_cons_zero, List.set_cons_succ]
    clear inv8
    refine sched_take hH (i := 12) (v := .int .i64 R) (drop_get rfl) (by omega) inv9 (by kernel_rfl) (by kernel_rfl) rfl (fun X hX => ?_) fun inv10 => ?_
    · obtain ⟨hA, hB, hT⟩ := HT.out X hX; have r1 := hT.cell (i := 2) rfl; go_simp
    simp only [Act.put, List.setIfInBounds_toArray, List.set_cons_zero, List.set_cons_succ]
    clear inv9
    have inv11 := HeadInv.put inv10 (j := 4) (by kernel_rfl) (by omega)
    clear inv10
    refine sched_all (rs := [4]) (by kernel_rfl) (by simp) BS.out (by simp) (fun i hi' => ?_)
    simp only [List.mem_cons, List.not_mem_nil, or_false] at hi'
    subst hi'
    refine okOp_call (drop_get rfl) rfl (f := 67) (args := #[.agg #[.slice a1 m.ways.length (m.ways.length + c1), .slice a2 m.home.length (m.home.length + c2), .int .i64 m.start, .slice a3 m.rocks.length (m.rocks.length + c3), .int .i64 m.speed, .int .i64 m.part, .int .i64 m.flow, .int .i64 m.idle, .int .i64 m.drive, .int .i64 m.battery, .int .i64 m.deadline], .slice al l.length (l.length + cl), .int .i64 (a : Int)]) (by go_simp) (f3.out XD MM.out ML.out) ?_
    rintro e w3 ⟨v3, rfl, p3, b3⟩
    refine ⟨v3, rfl, ?_⟩
    simp only [Act.put, List.setIfInBounds_toArray, List.set_cons_zero, List.set_cons_succ]
    have B3 := Lib.hid (BXD.out.trans (b3.mono BXD.out.size))
    replace MM := Lib.hid ((MM.out.below b3).mono b3.size)
    replace ML := Lib.hid ((ML.out.below b3).mono b3.size)
    replace OM := Lib.hid ((OM.out.below b3).mono b3.size)
    replace OL := Lib.hid ((OL.out.below b3).mono b3.size)
    replace MB := Lib.hid (MB.out.below b3 MB.out.lt)
    replace OB := Lib.hid (OB.out.below b3 OB.out.lt)
    replace TB := Lib.hid (TB.out.below b3 TB.out.lt)
    replace BS := Lib.hid (BS.out.trans (b3.mono BS.out.size))
    have P1 := Lib.hid p3
    clear p3
    clear b3
    have inv12 := HeadInv.put inv11 (j := 9) (by kernel_rfl) (by omega)
    clear inv11
    refine sched_all (rs := [9]) (by kernel_rfl) (by simp) BS.out (by simp) (fun i hi' => ?_)
    simp only [List.mem_cons, List.not_mem_nil, or_false] at hi'
    subst hi'
    refine okOp_call (drop_get rfl) rfl (f := 67) (args := #[.agg #[.slice a1o o.ways.length (o.ways.length + c1o), .slice a2o o.home.length (o.home.length + c2o), .int .i64 o.start, .slice a3o o.rocks.length (o.rocks.length + c3o), .int .i64 o.speed, .int .i64 o.part, .int .i64 o.flow, .int .i64 o.idle, .int .i64 o.drive, .int .i64 o.battery, .int .i64 o.deadline], .slice alo lo.length (lo.length + clo), .int .i64 (b : Int)]) (by go_simp) (f4.out w3 OM.out OL.out) ?_
    rintro e w4 ⟨v4, rfl, p4, b4⟩
    refine ⟨v4, rfl, ?_⟩
    simp only [Act.put, List.setIfInBounds_toArray, List.set_cons_zero, List.set_cons_succ]
    have B4 := Lib.hid (B3.out.trans (b4.mono B3.out.size))
    replace MM := Lib.hid ((MM.out.below b4).mono b4.size)
    replace ML := Lib.hid ((ML.out.below b4).mono b4.size)
    replace OM := Lib.hid ((OM.out.below b4).mono b4.size)
    replace OL := Lib.hid ((OL.out.below b4).mono b4.size)
    replace MB := Lib.hid (MB.out.below b4 MB.out.lt)
    replace OB := Lib.hid (OB.out.below b4 OB.out.lt)
    replace TB := Lib.hid (TB.out.below b4 TB.out.lt)
    replace BS := Lib.hid (BS.out.trans (b4.mono BS.out.size))
    replace P1 := Lib.hid ((P1.out.below b4).mono b4.size)
    have P2 := Lib.hid p4
    clear p4
    clear b4
    have inv13 := HeadInv.put inv12 (j := 10) (by kernel_rfl) (by omega)
    clear inv12
    refine sched_all (rs := [10]) (by kernel_rfl) (by simp) BS.out (by simp) (fun i hi' => ?_)
    simp only [List.mem_cons, List.not_mem_nil, or_false] at hi'
    subst hi'
    refine okOp_call (drop_get rfl) rfl (f := 34) (args := #[v3, v4]) (by go_simp) (f5.out _ _ w4 P1.out P2.out) ?_
    rintro e w5 ⟨rfl, b5⟩
    refine ⟨_, rfl, ?_⟩
    simp only [Act.put, List.setIfInBounds_toArray, List.set_cons_zero, List.set_cons_succ]
    have B5 := Lib.hid (B4.out.trans (b5.mono B4.out.size))
    replace MM := Lib.hid ((MM.out.below b5).mono b5.size)
    replace ML := Lib.hid ((ML.out.below b5).mono b5.size)
    replace OM := Lib.hid ((OM.out.below b5).mono b5.size)
    replace OL := Lib.hid ((OL.out.below b5).mono b5.size)
    replace MB := Lib.hid (MB.out.below b5 MB.out.lt)
    replace OB := Lib.hid (OB.out.below b5 OB.out.lt)
    replace TB := Lib.hid (TB.out.below b5 TB.out.lt)
    replace BS := Lib.hid (BS.out.trans (b5.mono BS.out.size))
    replace P1 := Lib.hid ((P1.out.below b5).mono b5.size)
    replace P2 := Lib.hid ((P2.out.below b5).mono b5.size)
    clear b5
    refine sched_take hH (i := 13) (v := .bool true) (drop_get rfl) (by omega) inv13 (by kernel_rfl) (by kernel_rfl) rfl (fun X hX => ?_) fun inv14 => ?_
    · go_simp
    simp only [Act.put, List.setIfInBounds_toArray, List.set_cons_zero, List.set_cons_succ]
    clear inv13
    refine sched_take hH (i := 14) (v := .bool true) (drop_get rfl) (by omega) inv14 (by kernel_rfl) (by kernel_rfl) rfl (fun X hX => ?_) fun inv15 => ?_
    · go_simp
    simp only [Act.put, List.setIfInBounds_toArray, List.set_cons_zero, List.set_cons_succ]
    clear inv14
    refine sched_take hH (i := 15) (v := .int .i64 T1) (drop_get rfl) (by omega) inv15 (by kernel_rfl) (by kernel_rfl) rfl (fun X hX => ?_) fun inv16 => ?_
    · go_simp
    simp only [Act.put, List.setIfInBounds_toArray, List.set_cons_zero, List.set_cons_succ]
    clear inv15
    refine sched_take hH (i := 16) (v := .int .i64 T2) (drop_get rfl) (by omega) inv16 (by kernel_rfl) (by kernel_rfl) rfl (fun X hX => ?_) fun inv17 => ?_
    · go_simp
    simp only [Act.put, List.setIfInBounds_toArray, List.set_cons_zero, List.set_cons_succ]
    clear inv16
    refine sched_take hH (i := 17) (v := .int .i64 T) (drop_get rfl) (by omega) inv17 (by kernel_rfl) (by kernel_rfl) rfl (fun X hX => ?_) fun inv18 => ?_
    · go_simp
    simp only [Act.put, List.setIfInBounds_toArray, List.set_cons_zero, List.set_cons_succ]
    clear inv17
    refine sched_take hH (i := 18) (v := .int .i64 T2) (drop_get rfl) (by omega) inv18 (by kernel_rfl) (by kernel_rfl) rfl (fun X hX => ?_) fun inv19 => ?_
    · go_simp
    simp only [Act.put, List.setIfInBounds_toArray, List.set_cons_zero, List.set_cons_succ]
    clear inv18
    refine sched_take hH (i := 19) (v := .int .i64 T1) (drop_get rfl) (by omega) inv19 (by kernel_rfl) (by kernel_rfl) rfl (fun X hX => ?_) fun inv20 => ?_
    · go_simp
    simp only [Act.put, List.setIfInBounds_toArray, List.set_cons_zero, List.set_cons_succ]
    clear inv19
    refine sched_take hH (i := 20) (v := .int .i64 T') (drop_get rfl) (by omega) inv20 (by kernel_rfl) (by kernel_rfl) rfl (fun X hX => ?_) fun inv21 => ?_
    · go_simp
    simp only [Act.put, List.setIfInBounds_toArray, List.set_cons_zero, List.set_cons_succ]
    clear inv20
    refine sched_take hH (i := 21) (v := .int .i64 M) (drop_get rfl) (by omega) inv21 (by kernel_rfl) (by kernel_rfl) rfl (fun X hX => ?_) fun inv22 => ?_
    · have hMM := HM.out; go_simp
    simp only [Act.put, List.setIfInBounds_toArray, List.set_cons_zero, List.set_cons_succ]
    clear inv21
    refine sched_take hH (i := 22) (v := .pointer (some ⟨w.heap.size + 1 + 1, 3, none⟩)) (drop_get rfl) (by omega) inv22 (by kernel_rfl) (by kernel_rfl) rfl (fun X hX => ?_) fun inv23 => ?_
    · go_simp
    simp only [Act.put, List.setIfInBounds_toArray, List.set_cons_zero, List.set_cons_succ]
    clear inv22
    refine sched_take hH (i := 23) (v := .int .i64 Wt) (drop_get rfl) (by omega) inv23 (by kernel_rfl) (by kernel_rfl) rfl (fun X hX => ?_) fun inv24 => ?_
    · obtain ⟨hA, hB, hT⟩ := HT.out X hX; have r1 := hT.cell (i := 3) rfl; go_simp
    simp only [Act.put, List.setIfInBounds_toArray, List.set_cons_zero, List.set_cons_succ]
    clear inv23
    refine sched_take hH (i := 24) (v := .bool (decide (M ≤ Wt))) (drop_get rfl) (by omega) inv24 (by kernel_rfl) (by kernel_rfl) rfl (fun X hX => ?_) fun inv25 => ?_
    · go_simp
    simp only [Act.put, List.setIfInBounds_toArray, List.set_cons_zero, List.set_cons_succ]
    clear inv24
    refine sched_take hH (i := 25) (v := .bool (decide (M ≤ Wt))) (drop_get rfl) (by omega) inv25 (by kernel_rfl) (by kernel_rfl) rfl (fun X hX => ?_) fun inv26 => ?_
    · go_simp
    simp only [Act.put, List.setIfInBounds_toArray, List.set_cons_zero, List.set_cons_succ]
    clear inv25
    clear inv26 hH
    refine sched_done (by kernel_rfl) BS.out ?_
    simp only [List.drop_succ_cons, List.drop_zero]
    gi_wp2
    go_wp2
    go_ret
    exact ⟨by rw [d1, HDD.out]; rfl, B5.out⟩
end Go.Proofs.YtdpnhckbabjagaaGreat
