/- The corridor of a leg has both ways. No condition. -/
import Derived.Test.YtoekcefhphcjjaaGreatBin38
import Derived.Test.YtoekcefhphcjjaaGreatBin40
import Derived.Test.YtoekcefhphcjjaaGreatBin31
import Derived.Test.YtoekcefhphcjjaaGreatBin41
import Derived.Test.YtoekcefhphcjjaaGreatBin30
import Derived.Test.YtoekcefhphcjjaaGreatBin12
namespace Go.Proofs.YtoekcefhphcjjaaGreat.spreadLegs
open Go.ChangeShapes Go.WideShapes Go.ChangeAt Go.RowKit
set_option linter.unusedVariables false
theorem own : ownKnob Tryz.prog.godebug = none := by kernel_rfl
theorem laidOut : laidOutB Tryz.prog = true := by kernel_rfl
attribute [local irreducible] wpQuiet

/-- how far the vehicle is off, as the law reckons it: at most as far as it can be -/
theorem ints_cells {n0 : Nat} {W : World} {v : Value} {l : List Int} (h : IntsAt n0 W v l) (h0 : 0 < l.length) : ∃ b o cap, v = .slice (some ⟨b, o, none⟩) l.length (l.length + cap) ∧ b < n0 ∧ ∀ j, j < l.length → W.cell? ⟨b, o + j, none⟩ = some (.int .i64 (l.getD j 0)) := by
  obtain ⟨_, a, cap, e, hc⟩ := h
  rcases hc with rfl | ⟨b, o, rfl, hb, hc⟩
  · simp at h0
  · exact ⟨b, o, cap, e, hb, hc⟩
theorem upto_getD (f : Nat → Int) {n j : Nat} (h : j < n) : (upto f n).getD j 0 = f j := by simp [upto, List.getD, h]
theorem ints_row {n0 : Nat} {W : World} {b o n cap : Nat} {f : Nat → Int} (h : IntsAt n0 W (.slice (some ⟨b, o, none⟩) n cap) (upto f n)) {j : Nat} (hj : j < n) : W.cell? ⟨b, o + j, none⟩ = some (.int .i64 (f j)) := by
  obtain ⟨b', o', c', e, _, hc⟩ := ints_cells h (by rw [upto_length]; omega)
  simp only [Value.slice.injEq, Option.some.injEq, Addr.mk.injEq, and_true] at e
  obtain ⟨⟨rfl, rfl⟩, _⟩ := e
  rw [hc j (by rw [upto_length]; exact hj), upto_getD f hj]

theorem way_placed {m : Msn} (V : VMsn m) {k : Nat} (h : k < m.ways.length) : (-400000 ≤ (wy m.ways k).x ∧ (wy m.ways k).x ≤ 400000 ∧ -400000 ≤ (wy m.ways k).y ∧ (wy m.ways k).y ≤ 400000) := by
  have := wayB_true (waysB_at V.ways h)
  omega
/-- the corridor of two ways has both -/
theorem cor_has {a b : Pt} {u v : Int} (ha : -400000 ≤ a.x ∧ a.x ≤ 400000 ∧ -400000 ≤ a.y ∧ a.y ≤ 400000) (hb : -400000 ≤ b.x ∧ b.x ≤ 400000 ∧ -400000 ≤ b.y ∧ b.y ≤ 400000) (hu : 0 ≤ u ∧ u ≤ 100000) (hv : 0 ≤ v ∧ v ≤ 100000) :
    corE a u b v = 0 ∧ (hasB (corL a u b v) a = true ∧ hasE (corL a u b v) a = 0) ∧ (hasB (corL a u b v) b = true ∧ hasE (corL a u b v) b = 0) := by
  have e := cor_near ha hb hu hv
  have l : corL a u b v = corH a u.toNat b v.toNat := if_pos e
  have V := cor_valid e
  have g := goValid_of V
  have pa : placeP a = true := place_iff.2 (by omega)
  have pb : placeP b = true := place_iff.2 (by omega)
  have i1 := inside_of_inH V.1 (x := a) (by
    have := cor_fst e (x := ⟨0, 0⟩) (circle_has (n := u.toNat) (by have := Int.mul_nonneg (show (0 : Int) ≤ (u.toNat : Int) by omega) (show (0 : Int) ≤ (u.toNat : Int) by omega); show (0 : Int) * 0 + 0 * 0 ≤ _; omega))
    simpa using this)
  have i2 := inside_of_inH V.1 (x := b) (by
    have := cor_snd e (x := ⟨0, 0⟩) (circle_has (n := v.toNat) (by have := Int.mul_nonneg (show (0 : Int) ≤ (v.toNat : Int) by omega) (show (0 : Int) ≤ (v.toNat : Int) by omega); show (0 : Int) * 0 + 0 * 0 ≤ _; omega))
    simpa using this)
  rw [l]
  refine ⟨e, ⟨?_, ?_⟩, ⟨?_, ?_⟩⟩
  · simp [hasB, g, pa, i1]
  · simp [hasE, g, pa]
  · simp [hasB, g, pb, i2]
  · simp [hasE, g, pb]
set_option linter.unusedSimpArgs false in
set_option linter.unusedVariables false in
set_option maxRecDepth 8000 in
set_option maxHeartbeats 4000000 in
theorem walk (w : World) (m : Msn) (vw vh vr vl : Value) (l : List Int) (wh : Int) (hm : MsnAt w.heap.size w m vw vh vr) (hl : IntsAt w.heap.size w vl l) (hwh : (Lit.int .u8 wh).wf = true) :
    Calls Tryz.prog 5 #[.agg (msnCells m vw vh vr), vl, .int .u8 wh] w fun e w' => e = .returned (.bool true) ∧ Below w.heap.size w w' := by
  have f3 := fun w1 h1 h2 => radii_all m vw vh vr vl l w1 h1 h2
  have fv := fun w1 h => rValid31_any m vw vh vr w1 h
  have fs := fun (hV : validB m = true) w1 (h1 : MsnAt w1.heap.size w1 m vw vh vr) h2 => rstops32_any m vw vh vr vl l w1 (fun k hk => (wayB_true (waysB_at ((validB_iff m).1 hV).ways hk)).2.2.2.2.1) h1.1 h2
  have ff := fun w1 h => few_any m vw vh vr w1 h
  have hd := Lib.hid (fun w1 => head32_any w1)
  have M0 := Lib.hid hm
  have L0 := Lib.hid hl
  obtain ⟨⟨-, a1, cap1, rfl, -⟩, ⟨-, a2, cap2, rfl, -⟩, ⟨-, a3, cap3, rfl, -⟩⟩ := hm
  obtain ⟨-, al, capl, rfl, -⟩ := hl
  unfold msnCells at *
  replace ff := Lib.hid ff
  have B0 := Lib.hid (Below.refl w.heap.size w)
  cases hV : validB m
  · have hok : radOkB m l = false := by simp [radOkB, hV]
    rw [hV] at fv
    clear fs
    have e1 : rdBL m l = [] := by simp [rdBL, hok]
    have e2 : rdAL m l = [] := by simp [rdAL, hok]
    have e3 : rdE m l = 1 := by simp [rdE, hok]
    rw [e1, e2, e3] at f3
    replace f3 := Lib.hid f3
    replace fv := Lib.hid fv
    clear e1 e2 e3 hok
    clear hV
    go_enter Tryz.func5, Tryz.ntmps5
    have q0 := Has.new w #[.slice a1 m.ways.length (m.ways.length + cap1), .slice a2 m.home.length (m.home.length + cap2), .int .i64 m.start, .slice a3 m.rocks.length (m.rocks.length + cap3), .int .i64 m.speed, .int .i64 m.part, .int .i64 m.flow, .int .i64 m.idle, .int .i64 m.drive, .int .i64 m.battery, .int .i64 m.deadline] 28
    go_wp2_with fail
    replace M0 := Lib.hid ((M0.out.below ((Below.refl w.heap.size w).alloc (Nat.le_refl _) (.cells #[.slice a1 m.ways.length (m.ways.length + cap1), .slice a2 m.home.length (m.home.length + cap2), .int .i64 m.start, .slice a3 m.rocks.length (m.rocks.length + cap3), .int .i64 m.speed, .int .i64 m.part, .int .i64 m.flow, .int .i64 m.idle, .int .i64 m.drive, .int .i64 m.battery, .int .i64 m.deadline] 28))).mono ((Below.refl w.heap.size w).alloc (Nat.le_refl _) (.cells #[.slice a1 m.ways.length (m.ways.length + cap1), .slice a2 m.home.length (m.home.length + cap2), .int .i64 m.start, .slice a3 m.rocks.length (m.rocks.length + cap3), .int .i64 m.speed, .int .i64 m.part, .int .i64 m.flow, .int .i64 m.idle, .int .i64 m.drive, .int .i64 m.battery, .int .i64 m.deadline] 28)).size)
    replace L0 := Lib.hid ((L0.out.below ((Below.refl w.heap.size w).alloc (Nat.le_refl _) (.cells #[.slice a1 m.ways.length (m.ways.length + cap1), .slice a2 m.home.length (m.home.length + cap2), .int .i64 m.start, .slice a3 m.rocks.length (m.rocks.length + cap3), .int .i64 m.speed, .int .i64 m.part, .int .i64 m.flow, .int .i64 m.idle, .int .i64 m.drive, .int .i64 m.battery, .int .i64 m.deadline] 28))).mono ((Below.refl w.heap.size w).alloc (Nat.le_refl _) (.cells #[.slice a1 m.ways.length (m.ways.length + cap1), .slice a2 m.home.length (m.home.length + cap2), .int .i64 m.start, .slice a3 m.rocks.length (m.rocks.length + cap3), .int .i64 m.speed, .int .i64 m.part, .int .i64 m.flow, .int .i64 m.idle, .int .i64 m.drive, .int .i64 m.battery, .int .i64 m.deadline] 28)).size)
    have MB := Lib.hid (show Has (w.alloc (.cells #[.slice a1 m.ways.length (m.ways.length + cap1), .slice a2 m.home.length (m.home.length + cap2), .int .i64 m.start, .slice a3 m.rocks.length (m.rocks.length + cap3), .int .i64 m.speed, .int .i64 m.part, .int .i64 m.flow, .int .i64 m.idle, .int .i64 m.drive, .int .i64 m.battery, .int .i64 m.deadline] 28)) (w.heap.size) #[.slice a1 m.ways.length (m.ways.length + cap1), .slice a2 m.home.length (m.home.length + cap2), .int .i64 m.start, .slice a3 m.rocks.length (m.rocks.length + cap3), .int .i64 m.speed, .int .i64 m.part, .int .i64 m.flow, .int .i64 m.idle, .int .i64 m.drive, .int .i64 m.battery, .int .i64 m.deadline] 28 from q0)
    have BX0 := Lib.hid (B0.out.trans ((((Below.refl w.heap.size w).alloc (Nat.le_refl _) (.cells #[.slice a1 m.ways.length (m.ways.length + cap1), .slice a2 m.home.length (m.home.length + cap2), .int .i64 m.start, .slice a3 m.rocks.length (m.rocks.length + cap3), .int .i64 m.speed, .int .i64 m.part, .int .i64 m.flow, .int .i64 m.idle, .int .i64 m.drive, .int .i64 m.battery, .int .i64 m.deadline] 28))).mono B0.out.size))
    generalize hXX0 : (w.alloc (.cells #[.slice a1 m.ways.length (m.ways.length + cap1), .slice a2 m.home.length (m.home.length + cap2), .int .i64 m.start, .slice a3 m.rocks.length (m.rocks.length + cap3), .int .i64 m.speed, .int .i64 m.part, .int .i64 m.flow, .int .i64 m.idle, .int .i64 m.drive, .int .i64 m.battery, .int .i64 m.deadline] 28)) = X0 at *
    clear hXX0
    obtain ⟨c0, c1, c2, c3, c4, c5, c6, c7, c8, c9, c10⟩ := msn_cells (m := m) MB.out
    clear q0
    have hz0 := BX0.out.size
    refine (hd.out _).mono ?_
    rintro e w1 ⟨rfl, b1⟩
    have B1 := Lib.hid (BX0.out.trans (b1.mono BX0.out.size))
    replace M0 := Lib.hid ((M0.out.below b1).mono b1.size)
    replace L0 := Lib.hid ((L0.out.below b1).mono b1.size)
    replace MB := Lib.hid (MB.out.below b1 MB.out.lt)
    clear b1
    clear c0 c1 c2 c3 c4 c5 c6 c7 c8 c9 c10
    obtain ⟨c0, c1, c2, c3, c4, c5, c6, c7, c8, c9, c10⟩ := msn_cells (m := m) MB.out
    go_wp2_with fail
    refine (ff.out _ M0.out).mono ?_
    rintro e w2 ⟨rfl, b2⟩
    have B2 := Lib.hid (B1.out.trans (b2.mono B1.out.size))
    replace M0 := Lib.hid ((M0.out.below b2).mono b2.size)
    replace L0 := Lib.hid ((L0.out.below b2).mono b2.size)
    replace MB := Lib.hid (MB.out.below b2 MB.out.lt)
    clear b2
    clear c0 c1 c2 c3 c4 c5 c6 c7 c8 c9 c10
    obtain ⟨c0, c1, c2, c3, c4, c5, c6, c7, c8, c9, c10⟩ := msn_cells (m := m) MB.out
    cases hfew : fewB m
    · go_wp2
      go_ret
      exact ⟨rfl, B2.out⟩
    clear hfew
    by_cases hln : (60 : Int) < l.length
    · have dl : decide ((l.length : Int) > 60) = true := by rw [decide_eq_true_eq]; omega
      go_wp2
      go_ret
      exact ⟨rfl, B2.out⟩
    have dl : decide ((l.length : Int) > 60) = false := by rw [decide_eq_false_iff_not]; omega
    go_wp2_with fail
    refine (f3.out _ M0.out L0.out).mono ?_
    rintro e w3 ⟨v3, u3, rfl, p3, q3, b3⟩
    have B3 := Lib.hid (B2.out.trans (b3.mono B2.out.size))
    replace M0 := Lib.hid ((M0.out.below b3).mono b3.size)
    replace L0 := Lib.hid ((L0.out.below b3).mono b3.size)
    replace MB := Lib.hid (MB.out.below b3 MB.out.lt)
    have BE := Lib.hid p3
    have AF := Lib.hid q3
    obtain ⟨-, ga3, gc3, hv3, -⟩ := p3
    obtain ⟨-, ga3', gc3', hv3', -⟩ := q3
    subst hv3
    subst hv3'
    clear b3
    clear c0 c1 c2 c3 c4 c5 c6 c7 c8 c9 c10
    obtain ⟨c0, c1, c2, c3, c4, c5, c6, c7, c8, c9, c10⟩ := msn_cells (m := m) MB.out
    go_wp2_with fail
    refine (fv.out _ M0.out).mono ?_
    rintro e w4 ⟨rfl, b4⟩
    have B4 := Lib.hid (B3.out.trans (b4.mono B3.out.size))
    replace M0 := Lib.hid ((M0.out.below b4).mono b4.size)
    replace L0 := Lib.hid ((L0.out.below b4).mono b4.size)
    replace MB := Lib.hid (MB.out.below b4 MB.out.lt)
    replace BE := Lib.hid ((BE.out.below b4).mono b4.size)
    replace AF := Lib.hid ((AF.out.below b4).mono b4.size)
    clear b4
    clear c0 c1 c2 c3 c4 c5 c6 c7 c8 c9 c10
    obtain ⟨c0, c1, c2, c3, c4, c5, c6, c7, c8, c9, c10⟩ := msn_cells (m := m) MB.out
    go_wp2
    go_ret
    exact ⟨rfl, B4.out⟩
  rw [hV] at fv
  replace fs := fs hV
  cases hst : stopsB m l
  · have hok : radOkB m l = false := by simp [radOkB, hV, hst]
    rw [hst] at fs
    replace fs := Lib.hid fs
    have e1 : rdBL m l = [] := by simp [rdBL, hok]
    have e2 : rdAL m l = [] := by simp [rdAL, hok]
    have e3 : rdE m l = 1 := by simp [rdE, hok]
    rw [e1, e2, e3] at f3
    replace f3 := Lib.hid f3
    replace fv := Lib.hid fv
    clear e1 e2 e3 hok
    clear hV hst
    go_enter Tryz.func5, Tryz.ntmps5
    have q0 := Has.new w #[.slice a1 m.ways.length (m.ways.length + cap1), .slice a2 m.home.length (m.home.length + cap2), .int .i64 m.start, .slice a3 m.rocks.length (m.rocks.length + cap3), .int .i64 m.speed, .int .i64 m.part, .int .i64 m.flow, .int .i64 m.idle, .int .i64 m.drive, .int .i64 m.battery, .int .i64 m.deadline] 28
    go_wp2_with fail
    replace M0 := Lib.hid ((M0.out.below ((Below.refl w.heap.size w).alloc (Nat.le_refl _) (.cells #[.slice a1 m.ways.length (m.ways.length + cap1), .slice a2 m.home.length (m.home.length + cap2), .int .i64 m.start, .slice a3 m.rocks.length (m.rocks.length + cap3), .int .i64 m.speed, .int .i64 m.part, .int .i64 m.flow, .int .i64 m.idle, .int .i64 m.drive, .int .i64 m.battery, .int .i64 m.deadline] 28))).mono ((Below.refl w.heap.size w).alloc (Nat.le_refl _) (.cells #[.slice a1 m.ways.length (m.ways.length + cap1), .slice a2 m.home.length (m.home.length + cap2), .int .i64 m.start, .slice a3 m.rocks.length (m.rocks.length + cap3), .int .i64 m.speed, .int .i64 m.part, .int .i64 m.flow, .int .i64 m.idle, .int .i64 m.drive, .int .i64 m.battery, .int .i64 m.deadline] 28)).size)
    replace L0 := Lib.hid ((L0.out.below ((Below.refl w.heap.size w).alloc (Nat.le_refl _) (.cells #[.slice a1 m.ways.length (m.ways.length + cap1), .slice a2 m.home.length (m.home.length + cap2), .int .i64 m.start, .slice a3 m.rocks.length (m.rocks.length + cap3), .int .i64 m.speed, .int .i64 m.part, .int .i64 m.flow, .int .i64 m.idle, .int .i64 m.drive, .int .i64 m.battery, .int .i64 m.deadline] 28))).mono ((Below.refl w.heap.size w).alloc (Nat.le_refl _) (.cells #[.slice a1 m.ways.length (m.ways.length + cap1), .slice a2 m.home.length (m.home.length + cap2), .int .i64 m.start, .slice a3 m.rocks.length (m.rocks.length + cap3), .int .i64 m.speed, .int .i64 m.part, .int .i64 m.flow, .int .i64 m.idle, .int .i64 m.drive, .int .i64 m.battery, .int .i64 m.deadline] 28)).size)
    have MB := Lib.hid (show Has (w.alloc (.cells #[.slice a1 m.ways.length (m.ways.length + cap1), .slice a2 m.home.length (m.home.length + cap2), .int .i64 m.start, .slice a3 m.rocks.length (m.rocks.length + cap3), .int .i64 m.speed, .int .i64 m.part, .int .i64 m.flow, .int .i64 m.idle, .int .i64 m.drive, .int .i64 m.battery, .int .i64 m.deadline] 28)) (w.heap.size) #[.slice a1 m.ways.length (m.ways.length + cap1), .slice a2 m.home.length (m.home.length + cap2), .int .i64 m.start, .slice a3 m.rocks.length (m.rocks.length + cap3), .int .i64 m.speed, .int .i64 m.part, .int .i64 m.flow, .int .i64 m.idle, .int .i64 m.drive, .int .i64 m.battery, .int .i64 m.deadline] 28 from q0)
    have BX0 := Lib.hid (B0.out.trans ((((Below.refl w.heap.size w).alloc (Nat.le_refl _) (.cells #[.slice a1 m.ways.length (m.ways.length + cap1), .slice a2 m.home.length (m.home.length + cap2), .int .i64 m.start, .slice a3 m.rocks.length (m.rocks.length + cap3), .int .i64 m.speed, .int .i64 m.part, .int .i64 m.flow, .int .i64 m.idle, .int .i64 m.drive, .int .i64 m.battery, .int .i64 m.deadline] 28))).mono B0.out.size))
    generalize hXX0 : (w.alloc (.cells #[.slice a1 m.ways.length (m.ways.length + cap1), .slice a2 m.home.length (m.home.length + cap2), .int .i64 m.start, .slice a3 m.rocks.length (m.rocks.length + cap3), .int .i64 m.speed, .int .i64 m.part, .int .i64 m.flow, .int .i64 m.idle, .int .i64 m.drive, .int .i64 m.battery, .int .i64 m.deadline] 28)) = X0 at *
    clear hXX0
    obtain ⟨c0, c1, c2, c3, c4, c5, c6, c7, c8, c9, c10⟩ := msn_cells (m := m) MB.out
    clear q0
    have hz0 := BX0.out.size
    refine (hd.out _).mono ?_
    rintro e w1 ⟨rfl, b1⟩
    have B1 := Lib.hid (BX0.out.trans (b1.mono BX0.out.size))
    replace M0 := Lib.hid ((M0.out.below b1).mono b1.size)
    replace L0 := Lib.hid ((L0.out.below b1).mono b1.size)
    replace MB := Lib.hid (MB.out.below b1 MB.out.lt)
    clear b1
    clear c0 c1 c2 c3 c4 c5 c6 c7 c8 c9 c10
    obtain ⟨c0, c1, c2, c3, c4, c5, c6, c7, c8, c9, c10⟩ := msn_cells (m := m) MB.out
    go_wp2_with fail
    refine (ff.out _ M0.out).mono ?_
    rintro e w2 ⟨rfl, b2⟩
    have B2 := Lib.hid (B1.out.trans (b2.mono B1.out.size))
    replace M0 := Lib.hid ((M0.out.below b2).mono b2.size)
    replace L0 := Lib.hid ((L0.out.below b2).mono b2.size)
    replace MB := Lib.hid (MB.out.below b2 MB.out.lt)
    clear b2
    clear c0 c1 c2 c3 c4 c5 c6 c7 c8 c9 c10
    obtain ⟨c0, c1, c2, c3, c4, c5, c6, c7, c8, c9, c10⟩ := msn_cells (m := m) MB.out
    cases hfew : fewB m
    · go_wp2
      go_ret
      exact ⟨rfl, B2.out⟩
    clear hfew
    by_cases hln : (60 : Int) < l.length
    · have dl : decide ((l.length : Int) > 60) = true := by rw [decide_eq_true_eq]; omega
      go_wp2
      go_ret
      exact ⟨rfl, B2.out⟩
    have dl : decide ((l.length : Int) > 60) = false := by rw [decide_eq_false_iff_not]; omega
    go_wp2_with fail
    refine (f3.out _ M0.out L0.out).mono ?_
    rintro e w3 ⟨v3, u3, rfl, p3, q3, b3⟩
    have B3 := Lib.hid (B2.out.trans (b3.mono B2.out.size))
    replace M0 := Lib.hid ((M0.out.below b3).mono b3.size)
    replace L0 := Lib.hid ((L0.out.below b3).mono b3.size)
    replace MB := Lib.hid (MB.out.below b3 MB.out.lt)
    have BE := Lib.hid p3
    have AF := Lib.hid q3
    obtain ⟨-, ga3, gc3, hv3, -⟩ := p3
    obtain ⟨-, ga3', gc3', hv3', -⟩ := q3
    subst hv3
    subst hv3'
    clear b3
    clear c0 c1 c2 c3 c4 c5 c6 c7 c8 c9 c10
    obtain ⟨c0, c1, c2, c3, c4, c5, c6, c7, c8, c9, c10⟩ := msn_cells (m := m) MB.out
    go_wp2_with fail
    refine (fv.out _ M0.out).mono ?_
    rintro e w4 ⟨rfl, b4⟩
    have B4 := Lib.hid (B3.out.trans (b4.mono B3.out.size))
    replace M0 := Lib.hid ((M0.out.below b4).mono b4.size)
    replace L0 := Lib.hid ((L0.out.below b4).mono b4.size)
    replace MB := Lib.hid (MB.out.below b4 MB.out.lt)
    replace BE := Lib.hid ((BE.out.below b4).mono b4.size)
    replace AF := Lib.hid ((AF.out.below b4).mono b4.size)
    clear b4
    clear c0 c1 c2 c3 c4 c5 c6 c7 c8 c9 c10
    obtain ⟨c0, c1, c2, c3, c4, c5, c6, c7, c8, c9, c10⟩ := msn_cells (m := m) MB.out
    go_wp2_with fail
    refine (fs.out _ M0.out L0.out).mono ?_
    rintro e w5 ⟨rfl, b5⟩
    have B5 := Lib.hid (B4.out.trans (b5.mono B4.out.size))
    replace M0 := Lib.hid ((M0.out.below b5).mono b5.size)
    replace L0 := Lib.hid ((L0.out.below b5).mono b5.size)
    replace MB := Lib.hid (MB.out.below b5 MB.out.lt)
    replace BE := Lib.hid ((BE.out.below b5).mono b5.size)
    replace AF := Lib.hid ((AF.out.below b5).mono b5.size)
    clear b5
    clear c0 c1 c2 c3 c4 c5 c6 c7 c8 c9 c10
    obtain ⟨c0, c1, c2, c3, c4, c5, c6, c7, c8, c9, c10⟩ := msn_cells (m := m) MB.out
    go_wp2
    go_ret
    exact ⟨rfl, B5.out⟩
  rw [hst] at fs
  have hok : radOkB m l = true := by simp [radOkB, hV, hst]
  have e1 : rdBL m l = upto (rdB m l) m.ways.length := by simp [rdBL, hok]
  have e2 : rdAL m l = upto (rdA m l) m.ways.length := by simp [rdAL, hok]
  have e3 : rdE m l = 0 := by simp [rdE, hok]
  rw [e1, e2, e3] at f3
  have VV := Lib.hid ((validB_iff m).1 hV)
  have n2 := VV.out.n2
  have n41 := VV.out.n41
  have hne : ¬ m.ways = [] := by intro h; rw [h] at n2; simp at n2
  obtain ⟨j, rfl, hj⟩ := u8_bd hwh
  obtain ⟨q, hq, hql, -⟩ := mod_at (i := j) (n := m.ways.length - 1) (by omega)
  have hcast : ((m.ways.length - 1 : Nat) : Int) = (m.ways.length : Int) - 1 := by omega
  rw [hcast] at hq
  have ca := way_placed VV.out (k := q) (by omega)
  have cb := way_placed VV.out (k := q + 1) (by omega)
  have ra := rd_le VV.out l (k := q) (by omega)
  have rb := rd_le VV.out l (k := q + 1) (by omega)
  obtain ⟨e4, e5, e6⟩ := cor_has (a := ⟨(wy m.ways q).x, (wy m.ways q).y⟩) (b := ⟨(wy m.ways (q + 1)).x, (wy m.ways (q + 1)).y⟩) ca cb ra.2.2 ⟨rb.1, rb.2.1⟩
  have g1 := fun w1 => corridor_any ⟨(wy m.ways q).x, (wy m.ways q).y⟩ ⟨(wy m.ways (q + 1)).x, (wy m.ways (q + 1)).y⟩ (rdA m l q) (rdB m l (q + 1)) w1
  rw [e4] at g1
  generalize corL ⟨(wy m.ways q).x, (wy m.ways q).y⟩ (rdA m l q) ⟨(wy m.ways (q + 1)).x, (wy m.ways (q + 1)).y⟩ (rdB m l (q + 1)) = cl at *
  have g2 := fun v w1 h => has_any v cl ⟨(wy m.ways q).x, (wy m.ways q).y⟩ w1 h
  rw [e5.1, e5.2] at g2
  have g3 := fun v w1 h => has_any v cl ⟨(wy m.ways (q + 1)).x, (wy m.ways (q + 1)).y⟩ w1 h
  rw [e6.1, e6.2] at g3
  replace g1 := Lib.hid g1
  replace g2 := Lib.hid g2
  replace g3 := Lib.hid g3
  replace f3 := Lib.hid f3
  replace fv := Lib.hid fv
  replace fs := Lib.hid fs
  have z1 : IntKind.i64.wrap ((m.ways.length : Int) - 1) = (m.ways.length : Int) - 1 := IntWalk.i64_in _ (by omega)
  have z2 : ¬ (m.ways.length : Int) - 1 = 0 := by omega
  have z3 : IntKind.i64.wrap (q : Int) = q := IntWalk.i64_in _ (by omega)
  have z4 : IntKind.i64.wrap (j : Int) = j := IntWalk.i64_in _ (by omega)
  have z5 : IntKind.i64.wrap ((q : Int) + 1) = (q : Int) + 1 := IntWalk.i64_in _ (by omega)
  have q1 : (q : Int) < m.ways.length := by omega
  have q2 : (q : Int) + 1 < m.ways.length := by omega
  have q3 : (0 : Int) ≤ q := by omega
  have q4 : (0 : Int) ≤ (q : Int) + 1 := by omega
  have q5 : ((q : Int) + 1).toNat = q + 1 := by omega
  have q6 : q + 1 < m.ways.length := by omega
  have q7 : q < m.ways.length := by omega
  obtain ⟨bw, ow, cw, hw1, hbw, hcw⟩ := M0.out.1.cells (by omega)
  simp only [Value.slice.injEq, true_and] at hw1
  obtain ⟨hw1, -⟩ := hw1
  subst hw1
  obtain ⟨k0, k1, -⟩ := hcw q q7
  obtain ⟨k2, k3, -⟩ := hcw (q + 1) q6
  have CW := Lib.hid (And.intro k0 (And.intro k1 (And.intro k2 k3)))
  clear e1 e2 e3 e4 e5 e6 hok hV hst hcast ca cb ra rb hcw hwh k0 k1 k2 k3
  have dne : ((m.ways.length : Int) != (m.ways.length : Int)) = false := by simp
  go_enter Tryz.func5, Tryz.ntmps5
  have q0 := Has.new w #[.slice (some ⟨bw, ow, none⟩) m.ways.length (m.ways.length + cap1), .slice a2 m.home.length (m.home.length + cap2), .int .i64 m.start, .slice a3 m.rocks.length (m.rocks.length + cap3), .int .i64 m.speed, .int .i64 m.part, .int .i64 m.flow, .int .i64 m.idle, .int .i64 m.drive, .int .i64 m.battery, .int .i64 m.deadline] 28
  go_wp2_with fail
  replace M0 := Lib.hid ((M0.out.below ((Below.refl w.heap.size w).alloc (Nat.le_refl _) (.cells #[.slice (some ⟨bw, ow, none⟩) m.ways.length (m.ways.length + cap1), .slice a2 m.home.length (m.home.length + cap2), .int .i64 m.start, .slice a3 m.rocks.length (m.rocks.length + cap3), .int .i64 m.speed, .int .i64 m.part, .int .i64 m.flow, .int .i64 m.idle, .int .i64 m.drive, .int .i64 m.battery, .int .i64 m.deadline] 28))).mono ((Below.refl w.heap.size w).alloc (Nat.le_refl _) (.cells #[.slice (some ⟨bw, ow, none⟩) m.ways.length (m.ways.length + cap1), .slice a2 m.home.length (m.home.length + cap2), .int .i64 m.start, .slice a3 m.rocks.length (m.rocks.length + cap3), .int .i64 m.speed, .int .i64 m.part, .int .i64 m.flow, .int .i64 m.idle, .int .i64 m.drive, .int .i64 m.battery, .int .i64 m.deadline] 28)).size)
  replace L0 := Lib.hid ((L0.out.below ((Below.refl w.heap.size w).alloc (Nat.le_refl _) (.cells #[.slice (some ⟨bw, ow, none⟩) m.ways.length (m.ways.length + cap1), .slice a2 m.home.length (m.home.length + cap2), .int .i64 m.start, .slice a3 m.rocks.length (m.rocks.length + cap3), .int .i64 m.speed, .int .i64 m.part, .int .i64 m.flow, .int .i64 m.idle, .int .i64 m.drive, .int .i64 m.battery, .int .i64 m.deadline] 28))).mono ((Below.refl w.heap.size w).alloc (Nat.le_refl _) (.cells #[.slice (some ⟨bw, ow, none⟩) m.ways.length (m.ways.length + cap1), .slice a2 m.home.length (m.home.length + cap2), .int .i64 m.start, .slice a3 m.rocks.length (m.rocks.length + cap3), .int .i64 m.speed, .int .i64 m.part, .int .i64 m.flow, .int .i64 m.idle, .int .i64 m.drive, .int .i64 m.battery, .int .i64 m.deadline] 28)).size)
  have MB := Lib.hid (show Has (w.alloc (.cells #[.slice (some ⟨bw, ow, none⟩) m.ways.length (m.ways.length + cap1), .slice a2 m.home.length (m.home.length + cap2), .int .i64 m.start, .slice a3 m.rocks.length (m.rocks.length + cap3), .int .i64 m.speed, .int .i64 m.part, .int .i64 m.flow, .int .i64 m.idle, .int .i64 m.drive, .int .i64 m.battery, .int .i64 m.deadline] 28)) (w.heap.size) #[.slice (some ⟨bw, ow, none⟩) m.ways.length (m.ways.length + cap1), .slice a2 m.home.length (m.home.length + cap2), .int .i64 m.start, .slice a3 m.rocks.length (m.rocks.length + cap3), .int .i64 m.speed, .int .i64 m.part, .int .i64 m.flow, .int .i64 m.idle, .int .i64 m.drive, .int .i64 m.battery, .int .i64 m.deadline] 28 from q0)
  have BX0 := Lib.hid (B0.out.trans ((((Below.refl w.heap.size w).alloc (Nat.le_refl _) (.cells #[.slice (some ⟨bw, ow, none⟩) m.ways.length (m.ways.length + cap1), .slice a2 m.home.length (m.home.length + cap2), .int .i64 m.start, .slice a3 m.rocks.length (m.rocks.length + cap3), .int .i64 m.speed, .int .i64 m.part, .int .i64 m.flow, .int .i64 m.idle, .int .i64 m.drive, .int .i64 m.battery, .int .i64 m.deadline] 28))).mono B0.out.size))
  generalize hXX0 : (w.alloc (.cells #[.slice (some ⟨bw, ow, none⟩) m.ways.length (m.ways.length + cap1), .slice a2 m.home.length (m.home.length + cap2), .int .i64 m.start, .slice a3 m.rocks.length (m.rocks.length + cap3), .int .i64 m.speed, .int .i64 m.part, .int .i64 m.flow, .int .i64 m.idle, .int .i64 m.drive, .int .i64 m.battery, .int .i64 m.deadline] 28)) = X0 at *
  clear hXX0
  obtain ⟨c0, c1, c2, c3, c4, c5, c6, c7, c8, c9, c10⟩ := msn_cells (m := m) MB.out
  clear q0
  have hz0 := BX0.out.size
  refine (hd.out _).mono ?_
  rintro e w1 ⟨rfl, b1⟩
  have B1 := Lib.hid (BX0.out.trans (b1.mono BX0.out.size))
  replace M0 := Lib.hid ((M0.out.below b1).mono b1.size)
  replace L0 := Lib.hid ((L0.out.below b1).mono b1.size)
  replace MB := Lib.hid (MB.out.below b1 MB.out.lt)
  clear b1
  clear c0 c1 c2 c3 c4 c5 c6 c7 c8 c9 c10
  obtain ⟨c0, c1, c2, c3, c4, c5, c6, c7, c8, c9, c10⟩ := msn_cells (m := m) MB.out
  go_wp2_with fail
  refine (ff.out _ M0.out).mono ?_
  rintro e w2 ⟨rfl, b2⟩
  have B2 := Lib.hid (B1.out.trans (b2.mono B1.out.size))
  replace M0 := Lib.hid ((M0.out.below b2).mono b2.size)
  replace L0 := Lib.hid ((L0.out.below b2).mono b2.size)
  replace MB := Lib.hid (MB.out.below b2 MB.out.lt)
  clear b2
  clear c0 c1 c2 c3 c4 c5 c6 c7 c8 c9 c10
  obtain ⟨c0, c1, c2, c3, c4, c5, c6, c7, c8, c9, c10⟩ := msn_cells (m := m) MB.out
  cases hfew : fewB m
  · go_wp2
    go_ret
    exact ⟨rfl, B2.out⟩
  clear hfew
  by_cases hln : (60 : Int) < l.length
  · have dl : decide ((l.length : Int) > 60) = true := by rw [decide_eq_true_eq]; omega
    go_wp2
    go_ret
    exact ⟨rfl, B2.out⟩
  have dl : decide ((l.length : Int) > 60) = false := by rw [decide_eq_false_iff_not]; omega
  go_wp2_with fail
  refine (f3.out _ M0.out L0.out).mono ?_
  rintro e w3 ⟨v3, u3, rfl, p3, q3, b3⟩
  have B3 := Lib.hid (B2.out.trans (b3.mono B2.out.size))
  replace M0 := Lib.hid ((M0.out.below b3).mono b3.size)
  replace L0 := Lib.hid ((L0.out.below b3).mono b3.size)
  replace MB := Lib.hid (MB.out.below b3 MB.out.lt)
  obtain ⟨bb, ob, gb, hv3, -, -⟩ := ints_cells p3 (by rw [upto_length]; omega)
  obtain ⟨ba, oa, ga, hv3', -, -⟩ := ints_cells q3 (by rw [upto_length]; omega)
  rw [upto_length] at hv3 hv3'
  subst hv3
  subst hv3'
  have BE := Lib.hid p3
  have AF := Lib.hid q3
  clear p3 q3
  clear b3
  clear c0 c1 c2 c3 c4 c5 c6 c7 c8 c9 c10
  obtain ⟨c0, c1, c2, c3, c4, c5, c6, c7, c8, c9, c10⟩ := msn_cells (m := m) MB.out
  go_wp2_with fail
  refine (fv.out _ M0.out).mono ?_
  rintro e w4 ⟨rfl, b4⟩
  have B4 := Lib.hid (B3.out.trans (b4.mono B3.out.size))
  replace M0 := Lib.hid ((M0.out.below b4).mono b4.size)
  replace L0 := Lib.hid ((L0.out.below b4).mono b4.size)
  replace MB := Lib.hid (MB.out.below b4 MB.out.lt)
  replace BE := Lib.hid ((BE.out.below b4).mono b4.size)
  replace AF := Lib.hid ((AF.out.below b4).mono b4.size)
  clear b4
  clear c0 c1 c2 c3 c4 c5 c6 c7 c8 c9 c10
  obtain ⟨c0, c1, c2, c3, c4, c5, c6, c7, c8, c9, c10⟩ := msn_cells (m := m) MB.out
  go_wp2_with fail
  refine (fs.out _ M0.out L0.out).mono ?_
  rintro e w5 ⟨rfl, b5⟩
  have B5 := Lib.hid (B4.out.trans (b5.mono B4.out.size))
  replace M0 := Lib.hid ((M0.out.below b5).mono b5.size)
  replace L0 := Lib.hid ((L0.out.below b5).mono b5.size)
  replace MB := Lib.hid (MB.out.below b5 MB.out.lt)
  replace BE := Lib.hid ((BE.out.below b5).mono b5.size)
  replace AF := Lib.hid ((AF.out.below b5).mono b5.size)
  clear b5
  clear c0 c1 c2 c3 c4 c5 c6 c7 c8 c9 c10
  obtain ⟨c0, c1, c2, c3, c4, c5, c6, c7, c8, c9, c10⟩ := msn_cells (m := m) MB.out
  have t0 := (B5.out.cell (p := ⟨bw, ow + q * 5, none⟩) hbw).trans CW.out.1
  have t1 := (B5.out.cell (p := ⟨bw, ow + q * 5 + 1, none⟩) hbw).trans CW.out.2.1
  have t2 := (B5.out.cell (p := ⟨bw, ow + (q + 1) * 5, none⟩) hbw).trans CW.out.2.2.1
  have t3 := (B5.out.cell (p := ⟨bw, ow + (q + 1) * 5 + 1, none⟩) hbw).trans CW.out.2.2.2
  have HT := Lib.hid (fun X (hX : Below w5.heap.size w5 X) => And.intro (hX.cell (p := ⟨w.heap.size, 0, none⟩) MB.out.lt) (And.intro (hX.cell (p := ⟨bw, ow + q * 5, none⟩) (World.block_lt_of_cell? _ _ t0)) (And.intro (hX.cell (p := ⟨bw, ow + q * 5 + 1, none⟩) (World.block_lt_of_cell? _ _ t1)) (And.intro (hX.cell (p := ⟨bw, ow + (q + 1) * 5, none⟩) (World.block_lt_of_cell? _ _ t2)) (hX.cell (p := ⟨bw, ow + (q + 1) * 5 + 1, none⟩) (World.block_lt_of_cell? _ _ t3))))))
  have CC0 := Lib.hid c0
  go_upto_region 10 with fail
  go_cut [12, 13] from 76 (fun b1 b2 wx => ∃ x y, b1 = .pointer (some ⟨x, 0, none⟩) ∧ b2 = .pointer (some ⟨y, 0, none⟩) ∧ x ≠ y ∧ w5.heap.size ≤ x ∧ w5.heap.size ≤ y ∧ Has wx x #[.int .i64 (wy m.ways q).x, .int .i64 (wy m.ways q).y] 23 ∧ Has wx y #[.int .i64 (wy m.ways (q + 1)).x, .int .i64 (wy m.ways (q + 1)).y] 23 ∧ Below w5.heap.size w5 wx)
  case first =>
    refine (wpIn_wide (n := 9)).1 ?_
    refine wpIn_region_sched (lets_wide _) 16 (fun X => Below w5.heap.size w5 X) (by kernel_rfl) (by kernel_rfl) (by kernel_rfl) fun hH inv0 => ?_
    refine sched_take hH (i := 0) (v := .pointer (some ⟨w.heap.size, 0, none⟩)) (drop_get rfl) (by omega) inv0 (by kernel_rfl) (by kernel_rfl) rfl (fun X hX => ?_) fun inv1 => ?_
    · go_simp
    simp only [Act.put, List.setIfInBounds_toArray, List.set_cons_zero, List.set_cons_succ]
    clear inv0
    refine sched_take hH (i := 1) (v := .slice (some ⟨bw, ow, none⟩) m.ways.length (m.ways.length + cap1)) (drop_get rfl) (by omega) inv1 (by kernel_rfl) (by kernel_rfl) rfl (fun X hX => ?_) fun inv2 => ?_
    · obtain ⟨r0, r1, r2, r3, r4⟩ := HT.out X hX; have s0 := r0.trans CC0.out; have s1 := r1.trans t0; have s2 := r2.trans t1; have s3 := r3.trans t2; have s4 := r4.trans t3; clear r0 r1 r2 r3 r4; go_simp
    simp only [Act.put, List.setIfInBounds_toArray, List.set_cons_zero, List.set_cons_succ]
    clear inv1
    refine sched_take hH (i := 2) (v := .int .i64 (q : Int)) (drop_get rfl) (by omega) inv2 (by kernel_rfl) (by kernel_rfl) rfl (fun X hX => ?_) fun inv3 => ?_
    · go_simp
    simp only [Act.put, List.setIfInBounds_toArray, List.set_cons_zero, List.set_cons_succ]
    clear inv2
    refine sched_take hH (i := 3) (v := .pointer (some ⟨bw, ow + q * 5, none⟩)) (drop_get rfl) (by omega) inv3 (by kernel_rfl) (by kernel_rfl) rfl (fun X hX => ?_) fun inv4 => ?_
    · go_simp
    simp only [Act.put, List.setIfInBounds_toArray, List.set_cons_zero, List.set_cons_succ]
    clear inv3
    refine sched_take hH (i := 4) (v := .pointer (some ⟨bw, ow + q * 5, none⟩)) (drop_get rfl) (by omega) inv4 (by kernel_rfl) (by kernel_rfl) rfl (fun X hX => ?_) fun inv5 => ?_
    · go_simp
    simp only [Act.put, List.setIfInBounds_toArray, List.set_cons_zero, List.set_cons_succ]
    clear inv4
    refine sched_take hH (i := 5) (v := .agg #[.int .i64 (wy m.ways q).x, .int .i64 (wy m.ways q).y]) (drop_get rfl) (by omega) inv5 (by kernel_rfl) (by kernel_rfl) rfl (fun X hX => ?_) fun inv6 => ?_
    · obtain ⟨r0, r1, r2, r3, r4⟩ := HT.out X hX; have s0 := r0.trans CC0.out; have s1 := r1.trans t0; have s2 := r2.trans t1; have s3 := r3.trans t2; have s4 := r4.trans t3; clear r0 r1 r2 r3 r4; go_simp
    simp only [Act.put, List.setIfInBounds_toArray, List.set_cons_zero, List.set_cons_succ]
    clear inv5
    refine sched_take hH (i := 6) (v := .pointer (some ⟨w.heap.size, 0, none⟩)) (drop_get rfl) (by omega) inv6 (by kernel_rfl) (by kernel_rfl) rfl (fun X hX => ?_) fun inv7 => ?_
    · go_simp
    simp only [Act.put, List.setIfInBounds_toArray, List.set_cons_zero, List.set_cons_succ]
    clear inv6
    refine sched_take hH (i := 7) (v := .slice (some ⟨bw, ow, none⟩) m.ways.length (m.ways.length + cap1)) (drop_get rfl) (by omega) inv7 (by kernel_rfl) (by kernel_rfl) rfl (fun X hX => ?_) fun inv8 => ?_
    · obtain ⟨r0, r1, r2, r3, r4⟩ := HT.out X hX; have s0 := r0.trans CC0.out; have s1 := r1.trans t0; have s2 := r2.trans t1; have s3 := r3.trans t2; have s4 := r4.trans t3; clear r0 r1 r2 r3 r4; go_simp
    simp only [Act.put, List.setIfInBounds_toArray, List.set_cons_zero, List.set_cons_succ]
    clear inv7
    refine sched_take hH (i := 8) (v := .int .i64 (q : Int)) (drop_get rfl) (by omega) inv8 (by kernel_rfl) (by kernel_rfl) rfl (fun X hX => ?_) fun inv9 => ?_
    · go_simp
    simp only [Act.put, List.setIfInBounds_toArray, List.set_cons_zero, List.set_cons_succ]
    clear inv8
    refine sched_take hH (i := 9) (v := .int .i64 ((q : Int) + 1)) (drop_get rfl) (by omega) inv9 (by kernel_rfl) (by kernel_rfl) rfl (fun X hX => ?_) fun inv10 => ?_
    · go_simp
    simp only [Act.put, List.setIfInBounds_toArray, List.set_cons_zero, List.set_cons_succ]
    clear inv9
    refine sched_take hH (i := 10) (v := .pointer (some ⟨bw, ow + (q + 1) * 5, none⟩)) (drop_get rfl) (by omega) inv10 (by kernel_rfl) (by kernel_rfl) rfl (fun X hX => ?_) fun inv11 => ?_
    · go_simp
    simp only [Act.put, List.setIfInBounds_toArray, List.set_cons_zero, List.set_cons_succ]
    clear inv10
    refine sched_take hH (i := 11) (v := .pointer (some ⟨bw, ow + (q + 1) * 5, none⟩)) (drop_get rfl) (by omega) inv11 (by kernel_rfl) (by kernel_rfl) rfl (fun X hX => ?_) fun inv12 => ?_
    · go_simp
    simp only [Act.put, List.setIfInBounds_toArray, List.set_cons_zero, List.set_cons_succ]
    clear inv11
    refine sched_take hH (i := 12) (v := .agg #[.int .i64 (wy m.ways (q + 1)).x, .int .i64 (wy m.ways (q + 1)).y]) (drop_get rfl) (by omega) inv12 (by kernel_rfl) (by kernel_rfl) rfl (fun X hX => ?_) fun inv13 => ?_
    · obtain ⟨r0, r1, r2, r3, r4⟩ := HT.out X hX; have s0 := r0.trans CC0.out; have s1 := r1.trans t0; have s2 := r2.trans t1; have s3 := r3.trans t2; have s4 := r4.trans t3; clear r0 r1 r2 r3 r4; go_simp
    simp only [Act.put, List.setIfInBounds_toArray, List.set_cons_zero, List.set_cons_succ]
    clear inv12
    clear inv13 hH
    have hS0 : Below w5.heap.size w5 w5.drew := Below.drew (Below.refl _ _)
    have hz0 := hS0.size
    generalize w5.drew = X0 at *
    refine sched_all (rs := [13, 14]) (by kernel_rfl) (by simp) hS0 (by simp) (fun i hi' => ?_)
    simp only [List.mem_cons, List.not_mem_nil, or_false] at hi'
    rcases hi' with rfl | rfl
    · skip
      refine okOp_run (drop_get rfl) rfl (v := .pointer (some ⟨X0.heap.size, 0, none⟩)) (w' := X0.alloc (.cells #[.int .i64 0, .int .i64 0] 23)) (by go_simp) ?_
      simp only [Act.put, List.setIfInBounds_toArray, List.set_cons_zero, List.set_cons_succ]
      have hNX0 := Has.new X0 #[.int .i64 0, .int .i64 0] 23
      have hS1 := hS0.alloc (by omega) (.cells #[.int .i64 0, .int .i64 0] 23)
      have hz1 : X0.heap.size < (X0.alloc (.cells #[.int .i64 0, .int .i64 0] 23)).heap.size := by simp
      generalize X0.alloc (.cells #[.int .i64 0, .int .i64 0] 23) = X1 at *
      refine sched_all (rs := [14]) (by kernel_rfl) (by simp) hS1 (by simp) (fun i hi' => ?_)
      simp only [List.mem_cons, List.not_mem_nil, or_false] at hi'
      subst hi'
      refine okOp_run (drop_get rfl) rfl (v := .pointer (some ⟨X1.heap.size, 0, none⟩)) (w' := X1.alloc (.cells #[.int .i64 0, .int .i64 0] 23)) (by go_simp) ?_
      simp only [Act.put, List.setIfInBounds_toArray, List.set_cons_zero, List.set_cons_succ]
      have hNX1 := Has.new X1 #[.int .i64 0, .int .i64 0] 23
      replace hNX0 := hNX0.below ((Below.refl X1.heap.size X1).alloc (Nat.le_refl _) (.cells #[.int .i64 0, .int .i64 0] 23)) hNX0.lt
      have hS2 := hS1.alloc (by omega) (.cells #[.int .i64 0, .int .i64 0] 23)
      have hz2 : X1.heap.size < (X1.alloc (.cells #[.int .i64 0, .int .i64 0] 23)).heap.size := by simp
      generalize X1.alloc (.cells #[.int .i64 0, .int .i64 0] 23) = X2 at *
      refine sched_all (rs := [15]) (by kernel_rfl) (by simp) hS2 (by simp) (fun i hi' => ?_)
      simp only [List.mem_cons, List.not_mem_nil, or_false] at hi'
      subst hi'
      refine okOp_row (drop_get rfl) rfl rfl (g := X0.heap.size) (cells := #[.int .i64 (wy m.ways q).x, .int .i64 (wy m.ways q).y]) rfl rfl hNX0 (by kernel_rfl) rfl (by simp [Value.oneCell']) ?_
      simp only [Act.put, List.setIfInBounds_toArray, List.set_cons_zero, List.set_cons_succ]
      have hP := Has.put (cells := #[.int .i64 (wy m.ways q).x, .int .i64 (wy m.ways q).y]) hNX0
      have hO := Has.keep (cells := #[.int .i64 (wy m.ways q).x, .int .i64 (wy m.ways q).y]) (C := X0.heap.size) hNX1 (by omega)
      have hS3 := Below.setRow hS2 (C := X0.heap.size) (by omega) #[.int .i64 (wy m.ways q).x, .int .i64 (wy m.ways q).y]
      generalize X2.setRow X0.heap.size #[.int .i64 (wy m.ways q).x, .int .i64 (wy m.ways q).y] = X3 at *
      refine sched_done (by kernel_rfl) hS3 ?_
      simp only [List.drop_succ_cons, List.drop_zero]
      refine wpListIn_row rfl rfl (g := X1.heap.size) (cells := #[.int .i64 (wy m.ways (q + 1)).x, .int .i64 (wy m.ways (q + 1)).y]) rfl rfl hO (by kernel_rfl) rfl (by simp [Value.oneCell']) ?_
      have hP2 := Has.put (cells := #[.int .i64 (wy m.ways (q + 1)).x, .int .i64 (wy m.ways (q + 1)).y]) hO
      have hP1 := Has.keep (cells := #[.int .i64 (wy m.ways (q + 1)).x, .int .i64 (wy m.ways (q + 1)).y]) (C := X1.heap.size) hP (by omega)
      have hS4 := Below.setRow hS3 (C := X1.heap.size) (by omega) #[.int .i64 (wy m.ways (q + 1)).x, .int .i64 (wy m.ways (q + 1)).y]
      generalize X3.setRow X1.heap.size #[.int .i64 (wy m.ways (q + 1)).x, .int .i64 (wy m.ways (q + 1)).y] = X4 at *
      gi_wp2
      go_meet
      exact ⟨_, _, rfl, rfl, by omega, by omega, by omega, hP1, hP2, hS4⟩
    · skip
      refine okOp_run (drop_get rfl) rfl (v := .pointer (some ⟨X0.heap.size, 0, none⟩)) (w' := X0.alloc (.cells #[.int .i64 0, .int .i64 0] 23)) (by go_simp) ?_
      simp only [Act.put, List.setIfInBounds_toArray, List.set_cons_zero, List.set_cons_succ]
      have hNX0 := Has.new X0 #[.int .i64 0, .int .i64 0] 23
      have hS1 := hS0.alloc (by omega) (.cells #[.int .i64 0, .int .i64 0] 23)
      have hz1 : X0.heap.size < (X0.alloc (.cells #[.int .i64 0, .int .i64 0] 23)).heap.size := by simp
      generalize X0.alloc (.cells #[.int .i64 0, .int .i64 0] 23) = X1 at *
      refine sched_all (rs := [13]) (by kernel_rfl) (by simp) hS1 (by simp) (fun i hi' => ?_)
      simp only [List.mem_cons, List.not_mem_nil, or_false] at hi'
      subst hi'
      refine okOp_run (drop_get rfl) rfl (v := .pointer (some ⟨X1.heap.size, 0, none⟩)) (w' := X1.alloc (.cells #[.int .i64 0, .int .i64 0] 23)) (by go_simp) ?_
      simp only [Act.put, List.setIfInBounds_toArray, List.set_cons_zero, List.set_cons_succ]
      have hNX1 := Has.new X1 #[.int .i64 0, .int .i64 0] 23
      replace hNX0 := hNX0.below ((Below.refl X1.heap.size X1).alloc (Nat.le_refl _) (.cells #[.int .i64 0, .int .i64 0] 23)) hNX0.lt
      have hS2 := hS1.alloc (by omega) (.cells #[.int .i64 0, .int .i64 0] 23)
      have hz2 : X1.heap.size < (X1.alloc (.cells #[.int .i64 0, .int .i64 0] 23)).heap.size := by simp
      generalize X1.alloc (.cells #[.int .i64 0, .int .i64 0] 23) = X2 at *
      refine sched_all (rs := [15]) (by kernel_rfl) (by simp) hS2 (by simp) (fun i hi' => ?_)
      simp only [List.mem_cons, List.not_mem_nil, or_false] at hi'
      subst hi'
      refine okOp_row (drop_get rfl) rfl rfl (g := X1.heap.size) (cells := #[.int .i64 (wy m.ways q).x, .int .i64 (wy m.ways q).y]) rfl rfl hNX1 (by kernel_rfl) rfl (by simp [Value.oneCell']) ?_
      simp only [Act.put, List.setIfInBounds_toArray, List.set_cons_zero, List.set_cons_succ]
      have hP := Has.put (cells := #[.int .i64 (wy m.ways q).x, .int .i64 (wy m.ways q).y]) hNX1
      have hO := Has.keep (cells := #[.int .i64 (wy m.ways q).x, .int .i64 (wy m.ways q).y]) (C := X1.heap.size) hNX0 (by omega)
      have hS3 := Below.setRow hS2 (C := X1.heap.size) (by omega) #[.int .i64 (wy m.ways q).x, .int .i64 (wy m.ways q).y]
      generalize X2.setRow X1.heap.size #[.int .i64 (wy m.ways q).x, .int .i64 (wy m.ways q).y] = X3 at *
      refine sched_done (by kernel_rfl) hS3 ?_
      simp only [List.drop_succ_cons, List.drop_zero]
      refine wpListIn_row rfl rfl (g := X0.heap.size) (cells := #[.int .i64 (wy m.ways (q + 1)).x, .int .i64 (wy m.ways (q + 1)).y]) rfl rfl hO (by kernel_rfl) rfl (by simp [Value.oneCell']) ?_
      have hP2 := Has.put (cells := #[.int .i64 (wy m.ways (q + 1)).x, .int .i64 (wy m.ways (q + 1)).y]) hO
      have hP1 := Has.keep (cells := #[.int .i64 (wy m.ways (q + 1)).x, .int .i64 (wy m.ways (q + 1)).y]) (C := X0.heap.size) hP (by omega)
      have hS4 := Below.setRow hS3 (C := X0.heap.size) (by omega) #[.int .i64 (wy m.ways (q + 1)).x, .int .i64 (wy m.ways (q + 1)).y]
      generalize X3.setRow X0.heap.size #[.int .i64 (wy m.ways (q + 1)).x, .int .i64 (wy m.ways (q + 1)).y] = X4 at *
      gi_wp2
      go_meet
      exact ⟨_, _, rfl, rfl, by omega, by omega, by omega, hP1, hP2, hS4⟩
  case rest =>
    obtain ⟨bx, by', rfl, rfl, hxy, hbx, hby, HX0, HY0, hC⟩ := hcut
    have Bwc := Lib.hid (B5.out.trans (hC.mono B5.out.size))
    replace M0 := Lib.hid ((M0.out.below hC).mono hC.size)
    replace L0 := Lib.hid ((L0.out.below hC).mono hC.size)
    replace MB := Lib.hid (MB.out.below hC MB.out.lt)
    replace BE := Lib.hid ((BE.out.below hC).mono hC.size)
    replace AF := Lib.hid ((AF.out.below hC).mono hC.size)
    have BX := Lib.hid HX0
    have BY := Lib.hid HY0
    clear hC HX0 HY0
    clear c0 c1 c2 c3 c4 c5 c6 c7 c8 c9 c10
    obtain ⟨c0, c1, c2, c3, c4, c5, c6, c7, c8, c9, c10⟩ := msn_cells (m := m) MB.out
    clear t0 t1 t2 t3 HT CC0
    have BS := Lib.hid (Below.refl wc.heap.size wc)
    have t0 := BX.out.cell (i := 0) rfl
    have t1 := BX.out.cell (i := 1) rfl
    have t2 := BY.out.cell (i := 0) rfl
    have t3 := BY.out.cell (i := 1) rfl
    have t4 := ints_row AF.out q7
    have t5 := ints_row BE.out q6
    go_wp2
    clear MB L0 M0 AF BE c0 c1 c2 c3 c4 c5 c6 c7 c8 c9 c10
    refine (wpIn_wide (n := 9)).1 ?_
    refine wpIn_region_sched (lets_wide _) 16 (fun X => Below wc.heap.size wc X) (by kernel_rfl) (by kernel_rfl) (by kernel_rfl) fun hH inv0 => ?_
    have hD := Below.drew (Below.refl wc.heap.size wc)
    replace BX := Lib.hid (BX.out.below hD BX.out.lt)
    replace BY := Lib.hid (BY.out.below hD BY.out.lt)
    replace BS := Lib.hid (BS.out.trans (hD.mono BS.out.size))
    have BXD := Lib.hid (Bwc.out.trans (hD.mono Bwc.out.size))
    clear hD
    generalize hXXD : wc.drew = XD at *
    clear hXXD
    refine sched_take hH (i := 0) (v := .agg #[.int .i64 (wy m.ways q).x, .int .i64 (wy m.ways q).y]) (drop_get rfl) (by omega) inv0 (by kernel_rfl) (by kernel_rfl) rfl (fun X hX => ?_) fun inv1 => ?_
    · have s0 := (hX.cell (p := ⟨bx, 0, none⟩) (World.block_lt_of_cell? _ _ t0)).trans t0; have s1 := (hX.cell (p := ⟨bx, 1, none⟩) (World.block_lt_of_cell? _ _ t1)).trans t1; go_simp
    simp only [Act.put, List.setIfInBounds_toArray, List.set_cons_zero, List.set_cons_succ]
    clear inv0
    refine sched_take hH (i := 1) (v := .slice (some ⟨ba, oa, none⟩) m.ways.length (m.ways.length + ga)) (drop_get rfl) (by omega) inv1 (by kernel_rfl) (by kernel_rfl) rfl (fun X hX => ?_) fun inv2 => ?_
    · go_simp
    simp only [Act.put, List.setIfInBounds_toArray, List.set_cons_zero, List.set_cons_succ]
    clear inv1
    refine sched_take hH (i := 2) (v := .int .i64 (q : Int)) (drop_get rfl) (by omega) inv2 (by kernel_rfl) (by kernel_rfl) rfl (fun X hX => ?_) fun inv3 => ?_
    · go_simp
    simp only [Act.put, List.setIfInBounds_toArray, List.set_cons_zero, List.set_cons_succ]
    clear inv2
    refine sched_take hH (i := 3) (v := .pointer (some ⟨ba, oa + q, none⟩)) (drop_get rfl) (by omega) inv3 (by kernel_rfl) (by kernel_rfl) rfl (fun X hX => ?_) fun inv4 => ?_
    · go_simp
    simp only [Act.put, List.setIfInBounds_toArray, List.set_cons_zero, List.set_cons_succ]
    clear inv3
    refine sched_take hH (i := 4) (v := .int .i64 (rdA m l q)) (drop_get rfl) (by omega) inv4 (by kernel_rfl) (by kernel_rfl) rfl (fun X hX => ?_) fun inv5 => ?_
    · have s4 := (hX.cell (p := ⟨ba, oa + q, none⟩) (World.block_lt_of_cell? _ _ t4)).trans t4; go_simp
    simp only [Act.put, List.setIfInBounds_toArray, List.set_cons_zero, List.set_cons_succ]
    clear inv4
    refine sched_take hH (i := 5) (v := .agg #[.int .i64 (wy m.ways (q + 1)).x, .int .i64 (wy m.ways (q + 1)).y]) (drop_get rfl) (by omega) inv5 (by kernel_rfl) (by kernel_rfl) rfl (fun X hX => ?_) fun inv6 => ?_
    · have s2 := (hX.cell (p := ⟨by', 0, none⟩) (World.block_lt_of_cell? _ _ t2)).trans t2; have s3 := (hX.cell (p := ⟨by', 1, none⟩) (World.block_lt_of_cell? _ _ t3)).trans t3; go_simp
    simp only [Act.put, List.setIfInBounds_toArray, List.set_cons_zero, List.set_cons_succ]
    clear inv5
    refine sched_take hH (i := 6) (v := .slice (some ⟨bb, ob, none⟩) m.ways.length (m.ways.length + gb)) (drop_get rfl) (by omega) inv6 (by kernel_rfl) (by kernel_rfl) rfl (fun X hX => ?_) fun inv7 => ?_
    · go_simp
    simp only [Act.put, List.setIfInBounds_toArray, List.set_cons_zero, List.set_cons_succ]
    clear inv6
    refine sched_take hH (i := 7) (v := .int .i64 (q : Int)) (drop_get rfl) (by omega) inv7 (by kernel_rfl) (by kernel_rfl) rfl (fun X hX => ?_) fun inv8 => ?_
    · go_simp
    simp only [Act.put, List.setIfInBounds_toArray, List.set_cons_zero, List.set_cons_succ]
    clear inv7
    refine sched_take hH (i := 8) (v := .int .i64 ((q : Int) + 1)) (drop_get rfl) (by omega) inv8 (by kernel_rfl) (by kernel_rfl) rfl (fun X hX => ?_) fun inv9 => ?_
    · go_simp
    simp only [Act.put, List.setIfInBounds_toArray, List.set_cons_zero, List.set_cons_succ]
    clear inv8
    refine sched_take hH (i := 9) (v := .pointer (some ⟨bb, ob + (q + 1), none⟩)) (drop_get rfl) (by omega) inv9 (by kernel_rfl) (by kernel_rfl) rfl (fun X hX => ?_) fun inv10 => ?_
    · go_simp
    simp only [Act.put, List.setIfInBounds_toArray, List.set_cons_zero, List.set_cons_succ]
    clear inv9
    refine sched_take hH (i := 10) (v := .int .i64 (rdB m l (q + 1))) (drop_get rfl) (by omega) inv10 (by kernel_rfl) (by kernel_rfl) rfl (fun X hX => ?_) fun inv11 => ?_
    · have s5 := (hX.cell (p := ⟨bb, ob + (q + 1), none⟩) (World.block_lt_of_cell? _ _ t5)).trans t5; go_simp
    simp only [Act.put, List.setIfInBounds_toArray, List.set_cons_zero, List.set_cons_succ]
    clear inv10
    clear t0 t1 t2 t3 t4 t5
    have inv12 := HeadInv.put inv11 (j := 11) (by kernel_rfl) (by omega)
    clear inv11
    refine sched_all (rs := [11]) (by kernel_rfl) (by simp) BS.out (by simp) (fun i hi' => ?_)
    simp only [List.mem_cons, List.not_mem_nil, or_false] at hi'
    subst hi'
    refine okOp_call (drop_get rfl) rfl (f := 15) (args := #[.agg #[.int .i64 (wy m.ways q).x, .int .i64 (wy m.ways q).y], .int .i64 (rdA m l q), .agg #[.int .i64 (wy m.ways (q + 1)).x, .int .i64 (wy m.ways (q + 1)).y], .int .i64 (rdB m l (q + 1))]) (by go_simp) (g1.out XD) ?_
    rintro e w6 ⟨v6, rfl, p6, b6⟩
    refine ⟨_, rfl, ?_⟩
    simp only [Act.put, List.setIfInBounds_toArray, List.set_cons_zero, List.set_cons_succ]
    have B6 := Lib.hid (BXD.out.trans (b6.mono BXD.out.size))
    replace BX := Lib.hid (BX.out.below b6 BX.out.lt)
    replace BY := Lib.hid (BY.out.below b6 BY.out.lt)
    replace BS := Lib.hid (BS.out.trans (b6.mono BS.out.size))
    have PC := Lib.hid p6
    obtain ⟨gc, hc, hvc⟩ := p6.len
    subst hvc
    clear p6
    clear b6
    refine sched_take hH (i := 12) (v := .tuple #[.slice gc cl.length (cl.length + hc), .int .i64 0]) (drop_get rfl) (by omega) inv12 (by kernel_rfl) (by kernel_rfl) rfl (fun X hX => ?_) fun inv13 => ?_
    · go_simp
    simp only [Act.put, List.setIfInBounds_toArray, List.set_cons_zero, List.set_cons_succ]
    clear inv12
    refine sched_take hH (i := 13) (v := .slice gc cl.length (cl.length + hc)) (drop_get rfl) (by omega) inv13 (by kernel_rfl) (by kernel_rfl) rfl (fun X hX => ?_) fun inv14 => ?_
    · go_simp
    simp only [Act.put, List.setIfInBounds_toArray, List.set_cons_zero, List.set_cons_succ]
    clear inv13
    refine sched_take hH (i := 14) (v := .int .i64 0) (drop_get rfl) (by omega) inv14 (by kernel_rfl) (by kernel_rfl) rfl (fun X hX => ?_) fun inv15 => ?_
    · go_simp
    simp only [Act.put, List.setIfInBounds_toArray, List.set_cons_zero, List.set_cons_succ]
    clear inv14
    have inv16 := HeadInv.put inv15 (j := 15) (by kernel_rfl) (by omega)
    clear inv15
    refine sched_all (rs := [15]) (by kernel_rfl) (by simp) BS.out (by simp) (fun i hi' => ?_)
    simp only [List.mem_cons, List.not_mem_nil, or_false] at hi'
    subst hi'
    refine okOp_run (drop_get rfl) rfl (v := .slice gc cl.length (cl.length + hc)) (w' := w6) (by go_simp) ?_
    simp only [Act.put, List.setIfInBounds_toArray, List.set_cons_zero, List.set_cons_succ]
    clear inv16 hH
    refine sched_done (by kernel_rfl) BS.out ?_
    simp only [List.drop_succ_cons, List.drop_zero]
    clear BS
    gi_wp2
    have x0 := BX.out.cell (i := 0) rfl; have x1 := BX.out.cell (i := 1) rfl
    have y0 := BY.out.cell (i := 0) rfl; have y1 := BY.out.cell (i := 1) rfl
    go_wp2_with fail
    refine (g2.out _ _ PC.out).mono ?_
    rintro e w7 ⟨rfl, b7⟩
    have B7 := Lib.hid (B6.out.trans (b7.mono B6.out.size))
    replace BX := Lib.hid (BX.out.below b7 BX.out.lt)
    replace BY := Lib.hid (BY.out.below b7 BY.out.lt)
    replace PC := Lib.hid ((PC.out.below b7).mono b7.size)
    clear b7
    clear x0 x1 y0 y1
    have x0 := BX.out.cell (i := 0) rfl; have x1 := BX.out.cell (i := 1) rfl
    have y0 := BY.out.cell (i := 0) rfl; have y1 := BY.out.cell (i := 1) rfl
    go_wp2_with fail
    refine (g3.out _ _ PC.out).mono ?_
    rintro e w8 ⟨rfl, b8⟩
    have B8 := Lib.hid (B7.out.trans (b8.mono B7.out.size))
    replace BX := Lib.hid (BX.out.below b8 BX.out.lt)
    replace BY := Lib.hid (BY.out.below b8 BY.out.lt)
    replace PC := Lib.hid ((PC.out.below b8).mono b8.size)
    clear b8
    clear x0 x1 y0 y1
    have x0 := BX.out.cell (i := 0) rfl; have x1 := BX.out.cell (i := 1) rfl
    have y0 := BY.out.cell (i := 0) rfl; have y1 := BY.out.cell (i := 1) rfl
    go_wp2
    go_ret
    exact ⟨rfl, B8.out⟩

set_option maxRecDepth 100000 in
theorem lifted (os : Os) (started : os.Started) (H : Type) (enc : TypeId × Value → H) :
    ReturnsInHanded {} Tryz.checked os 5 .any (Rows.spreadLegsSpec.pre6 enc Tryz.prog Tryz.f5 Rows.spreadLegsRow.domain false) (Rows.spreadLegsSpec.post enc Tryz.prog Tryz.f5 false true false false) := by
  refine returnsInHanded_of_change_sized (C := Tryz.checked) own started (by kernel_rfl) Tryz.func5
    (ChangeSpec.witness6 (enc := enc) (C := Tryz.checked) false ⟨#[], #[.agg #[.slice none 0 0, .slice none 0 0, .int .i64 0, .slice none 0 0, .int .i64 0, .int .i64 0, .int .i64 0, .int .i64 0, .int .i64 0, .int .i64 0, .int .i64 0], .slice none 0 0, .int .u8 0], []⟩ 8 (by kernel_rfl) (by kernel_rfl) (by kernel_rfl) (by kernel_rfl)) ?_
  intro W base args ds gs before hval0 hW hcnd hsz0 _
  have hval : ∀ (j : Nat) t v, Tryz.f5.params[j]? = some t → args[j]? = some v → Value.okWide Tryz.prog W .any base t v := hval0
  have hW' := hW
  obtain ⟨p, q, hA0, hV, rfl, hfz, hnd⟩ := hW
  have hA : DataW.TrodAll enc Tryz.prog W 0 (fun _ => true) true Tryz.f5.params.toList args.toList ds p := hA0
  have hsz : (DataW.weightsEach Tryz.prog (Tryz.f5.params.toList ++ Rows.spreadLegsSpec.plain.varTypes Tryz.prog) (ds ++ gs)).all (· ≤ reachBytes) = true := hsz0
  rw [Tryz.params5] at hA hval hsz
  obtain ⟨v0, vs0, d0, ds0, p0, q0, hargs, rfl, rfl, h0, r0⟩ := trodAll_cons hA
  obtain ⟨v1, vs1, d1, ds1, p1, q1, rfl, rfl, rfl, h1, r1⟩ := trodAll_cons r0
  obtain ⟨v2, vs2, d2, ds2, p2, q2, rfl, rfl, rfl, h2, r2⟩ := trodAll_cons r1
  obtain ⟨rfl, rfl, rfl⟩ := trodAll_nil r2
  obtain rfl : args = #[v0, v1, v2] := by cases args; simp_all
  obtain ⟨rfl, rfl⟩ := trodVars_none hV
  have k0 := h0
  have lt0 : ∀ x ∈ p0, x.block < W.heap.size := by obtain ⟨m, hm⟩ := k0; exact DataW.trod_lt m _ _ _ hm
  have z0 : ∀ n ∈ d0.weights Tryz.prog 28, n ≤ reachBytes := fun n hn => by have := List.all_eq_true.1 hsz n (DataW.weights_mem_each (j := 0) (t := 28) (d := d0) rfl rfl n hn); simpa using this
  obtain ⟨a0, vw0, vh0, vr0, rfl, w0⟩ := open_msn (hval 0 28 v0 rfl rfl) h0 z0
  have k1 := h1
  have lt1 : ∀ x ∈ p1, x.block < W.heap.size := by obtain ⟨m, hm⟩ := k1; exact DataW.trod_lt m _ _ _ hm
  have z1 : ∀ n ∈ d1.weights Tryz.prog 29, n ≤ reachBytes := fun n hn => by have := List.all_eq_true.1 hsz n (DataW.weights_mem_each (j := 1) (t := 29) (d := d1) rfl rfl n hn); simpa using this
  obtain ⟨a1, w1⟩ := open_ints_arg (hval 1 29 v1 rfl rfl) h1 z1
  obtain ⟨a2, rfl, rfl, rfl, w2⟩ := open_int Tryz.underlying5 (hval 2 5 v2 rfl rfl) h2
  clear hA0 hval0
  refine (walk W a0 vw0 vh0 vr0 v1 a1 a2 w0 w1 w2).mono fun e W' ⟨he, bel⟩ => ?_
  subst he
  exact ⟨_, rfl, _, _, _, [], _, [], hW', trodAll_mk1 (shut_bool Tryz.underlying4 _), (trodAll_cons_mk (Below.trod laidOut (by kernel_rfl) (of_decide_eq_true (by kernel_rfl)) k0 bel lt0) (trodAll_cons_mk (Below.trod laidOut (by kernel_rfl) (of_decide_eq_true (by kernel_rfl)) k1 bel lt1) (trodAll_cons_mk (shut_int Tryz.underlying5 w2) trodAll_mk0))), rfl, bel.frame _, fun h => by cases h⟩

theorem over : Rows.spreadLegsRow.holds Tryz.pinned (OpenSpec.ofChange Rows.spreadLegsSpec) :=
  OpenClaim.holds_of_wide 5 Tryz.f5 rfl rfl rfl rfl rfl rfl rfl ⟨rfl, rfl, rfl, rfl, rfl⟩ rfl rfl rfl rfl rfl (by kernel_rfl) Tryz.func5 (by kernel_rfl)
    (of_decide_eq_true (by kernel_rfl)) (by unfold Func.isWrapper; first | (rw [if_pos (by decide +kernel)]; kernel_rfl) | (rw [if_neg (by decide +kernel)]; exact ⟨rfl, rfl⟩))
    (fun os started H enc _ => lifted os started H enc)

/-- the statement -/
theorem proved : Rows.SpreadLegsSaid := over
#print axioms proved
end Go.Proofs.YtoekcefhphcjjaaGreat.spreadLegs
