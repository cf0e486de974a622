/- If a vehicle is not farther from way 0 than Start, gets off by at most the growth of each leg, and is not farther off after a stop than its Fix, it is never farther from a way than the radius before it, or after it. No condition. -/
import Derived.Test.YtoekcefhphcjjaaGreatBin38
import Derived.Test.YtoekcefhphcjjaaGreatBin40
import Derived.Test.YtoekcefhphcjjaaGreatBin31
import Derived.Test.YtoekcefhphcjjaaGreatBin41
import Derived.Test.YtoekcefhphcjjaaGreatBin30
namespace Go.Proofs.YtoekcefhphcjjaaGreat.spreadRadii
open Go.ChangeShapes Go.WideShapes Go.ChangeAt Go.RowKit
set_option linter.unusedVariables false
theorem own : ownKnob Tryz.prog.godebug = none := by kernel_rfl
theorem laidOut : laidOutB Tryz.prog = true := by kernel_rfl
attribute [local irreducible] wpQuiet

/-- how far the vehicle is off, as the law reckons it: at most as far as it can be -/
theorem ints_cells {n0 : Nat} {W : World} {v : Value} {l : List Int} (h : IntsAt n0 W v l) (h0 : 0 < l.length) : ∃ b o cap, v = .slice (some ⟨b, o, none⟩) l.length (l.length + cap) ∧ b < n0 ∧ ∀ j, j < l.length → W.cell? ⟨b, o + j, none⟩ = some (.int .i64 (l.getD j 0)) := by
  obtain ⟨_, a, cap, e, hc⟩ := h
  rcases hc with rfl | ⟨b, o, rfl, hb, hc⟩
  · simp at h0
  · exact ⟨b, o, cap, e, hb, hc⟩
theorem upto_getD (f : Nat → Int) {n j : Nat} (h : j < n) : (upto f n).getD j 0 = f j := by simp [upto, List.getD, h]
theorem ints_row {n0 : Nat} {W : World} {b o n cap : Nat} {f : Nat → Int} (h : IntsAt n0 W (.slice (some ⟨b, o, none⟩) n cap) (upto f n)) {j : Nat} (hj : j < n) : W.cell? ⟨b, o + j, none⟩ = some (.int .i64 (f j)) := by
  obtain ⟨b', o', c', e, _, hc⟩ := ints_cells h (by rw [upto_length]; omega)
  simp only [Value.slice.injEq, Option.some.injEq, Addr.mk.injEq, and_true] at e
  obtain ⟨⟨rfl, rfl⟩, _⟩ := e
  rw [hc j (by rw [upto_length]; exact hj), upto_getD f hj]
theorem off_any (Bo : Nat) (vo : Value) (lo : List Int) (i : Nat) (most : Int) (w : World) (hi : i ≤ 1000000) (HB : Has w Bo #[vo] 29) (ho : IntsAt w.heap.size w vo lo) (hm : 0 ≤ most) :
    Calls Tryz.prog 22 #[.int .i64 i, .int .i64 most, .pointer (some ⟨Bo, 0, none⟩)] w fun e w' => ∃ r, e = .returned (.int .i64 r) ∧ 0 ≤ r ∧ r ≤ most ∧ Below w.heap.size w w' := by
  by_cases h0 : lo.length = 0
  · obtain ⟨_, a, cap, rfl, _⟩ := ho
    rw [h0] at HB
    have c0 := HB.cell (i := 0) rfl
    clear HB h0
    go_enter Tryz.func22, Tryz.ntmps22
    go_wp2
    go_ret
    exact ⟨_, rfl, hm, Int.le_refl _, Below.refl _ _⟩
  · obtain ⟨b, o, cap, rfl, hb, hc⟩ := ints_cells ho (by omega)
    have c0 := HB.cell (i := 0) rfl
    have l0 := Low.fact c0
    have d0 : ((lo.length : Int) == 0) = false := by rw [beq_eq_false_iff_ne]; omega
    have hlen : lo.length ≤ 70368744177663 := ho.1
    obtain ⟨q, hq, hql, _⟩ := mod_at (i := i) (n := lo.length) (by omega)
    have lq := Low.fact (hc q hql)
    have qi : (q : Int) < lo.length := by omega
    have q0 : (0 : Int) ≤ q := by omega
    have hne : ¬ (lo.length : Int) = 0 := by omega
    have hlne : ¬ lo = [] := by intro h; rw [h] at h0; simp at h0
    have wq : IntKind.i64.wrap (q : Int) = q := IntWalk.i64_in _ (by omega)
    obtain ⟨x, hx⟩ : ∃ x, lo.getD q 0 = x := ⟨_, rfl⟩
    rw [hx] at lq
    clear ho hc HB hx
    by_cases h1 : x < 0
    · have d1 : decide (x < 0) = true := by simpa using h1
      go_enter Tryz.func22, Tryz.ntmps22
      go_wp2
      (refine wp_region_low (by kernel_rfl) (by kernel_rfl) ?_; (iterate 8 (apply quiet_want; (case hw => rfl); (case hval => (intro w1 hw1; have hcx := Low.cells hw1; simp only [Oper.quietAt]; go_simp; first | done | (first | fail) | rfl | exact ⟨rfl, rfl⟩)); simp only [Act.put, List.setIfInBounds_toArray, List.set_cons_zero, List.set_cons_succ])); refine wpQuiet_nil ?_; intro w2 hw2)
      go_wp2
      go_ret
      exact ⟨_, rfl, hm, Int.le_refl _, hw2.out⟩
    · have d1 : decide (x < 0) = false := by simpa using h1
      by_cases h2 : most < x
      · have d2 : decide (x > most) = true := by simpa using h2
        go_enter Tryz.func22, Tryz.ntmps22
        go_wp2
        (refine wp_region_low (by kernel_rfl) (by kernel_rfl) ?_; (iterate 8 (apply quiet_want; (case hw => rfl); (case hval => (intro w1 hw1; have hcx := Low.cells hw1; simp only [Oper.quietAt]; go_simp; first | done | (first | fail) | rfl | exact ⟨rfl, rfl⟩)); simp only [Act.put, List.setIfInBounds_toArray, List.set_cons_zero, List.set_cons_succ])); refine wpQuiet_nil ?_; intro w2 hw2)
        go_wp2
        go_ret
        exact ⟨_, rfl, hm, Int.le_refl _, hw2.out⟩
      · have d2 : decide (x > most) = false := by simpa using h2
        go_enter Tryz.func22, Tryz.ntmps22
        go_wp2
        (refine wp_region_low (by kernel_rfl) (by kernel_rfl) ?_; (iterate 8 (apply quiet_want; (case hw => rfl); (case hval => (intro w1 hw1; have hcx := Low.cells hw1; simp only [Oper.quietAt]; go_simp; first | done | (first | fail) | rfl | exact ⟨rfl, rfl⟩)); simp only [Act.put, List.setIfInBounds_toArray, List.set_cons_zero, List.set_cons_succ])); refine wpQuiet_nil ?_; intro w2 hw2)
        go_wp2
        go_ret
        exact ⟨_, rfl, by omega, by omega, hw2.out⟩

set_option linter.unusedSimpArgs false in
set_option linter.unusedVariables false in
set_option maxRecDepth 8000 in
set_option maxHeartbeats 4000000 in
theorem walk (w : World) (m : Msn) (vw vh vr vl : Value) (l : List Int) (vo : Value) (lo : List Int) (hm : MsnAt w.heap.size w m vw vh vr) (hl : IntsAt w.heap.size w vl l) (ho : IntsAt w.heap.size w vo lo) :
    Calls Tryz.prog 4 #[.agg (msnCells m vw vh vr), vl, vo] w fun e w' => e = .returned (.bool true) ∧ Below w.heap.size w w' := by
  have f3 := fun w1 h1 h2 => radii_all m vw vh vr vl l w1 h1 h2
  have fv := fun w1 h => rValid31_any m vw vh vr w1 h
  have ff := fun w1 h => few_any m vw vh vr w1 h
  have fl := fun (hV : validB m = true) (i j : Nat) (hi : i < m.ways.length) (hj : j < m.ways.length) w1 h => leg_yes m vw vh vr i j w1 h hV hi hj
  have fh := fun s w1 h => rhas32_any vl l s w1 h
  have fo := fun Bo i most w1 h1 h2 h3 h4 => off_any Bo vo lo i most w1 h1 h2 h3 h4
  have hd := Lib.hid (fun w1 => head32_any w1)
  have M0 := Lib.hid hm
  have L0 := Lib.hid hl
  have O0 := Lib.hid ho
  obtain ⟨⟨-, a1, cap1, rfl, -⟩, ⟨-, a2, cap2, rfl, -⟩, ⟨-, a3, cap3, rfl, -⟩⟩ := hm
  obtain ⟨-, al, capl, rfl, -⟩ := hl
  obtain ⟨-, ao, capo, rfl, -⟩ := ho
  unfold msnCells at *
  replace ff := Lib.hid ff
  replace fl := Lib.hid fl
  replace fh := Lib.hid fh
  replace fo := Lib.hid fo
  have B0 := Lib.hid (Below.refl w.heap.size w)
  cases hok : radOkB m l
  · have e1 : rdBL m l = [] := by simp [rdBL, hok]
    have e2 : rdAL m l = [] := by simp [rdAL, hok]
    have e3 : rdE m l = 1 := by simp [rdE, hok]
    rw [e1, e2, e3] at f3
    clear e1 e2 e3 hok
    replace f3 := Lib.hid f3
    replace fv := Lib.hid fv
    go_enter Tryz.func4, Tryz.ntmps4
    have q0 := Has.new w #[.slice a1 m.ways.length (m.ways.length + cap1), .slice a2 m.home.length (m.home.length + cap2), .int .i64 m.start, .slice a3 m.rocks.length (m.rocks.length + cap3), .int .i64 m.speed, .int .i64 m.part, .int .i64 m.flow, .int .i64 m.idle, .int .i64 m.drive, .int .i64 m.battery, .int .i64 m.deadline] 28
    have q0 := q0.below ((Below.refl (w.heap.size + 1) _).alloc (by simp) (.cells #[.slice ao lo.length (lo.length + capo)] 29)) (by omega)
    have q1 := Has.new (w.alloc (.cells #[.slice a1 m.ways.length (m.ways.length + cap1), .slice a2 m.home.length (m.home.length + cap2), .int .i64 m.start, .slice a3 m.rocks.length (m.rocks.length + cap3), .int .i64 m.speed, .int .i64 m.part, .int .i64 m.flow, .int .i64 m.idle, .int .i64 m.drive, .int .i64 m.battery, .int .i64 m.deadline] 28)) #[.slice ao lo.length (lo.length + capo)] 29
    rw [World.size_alloc] at q1
    go_wp2_with fail
    replace M0 := Lib.hid ((M0.out.below (((Below.refl w.heap.size w).alloc (Nat.le_refl _) (.cells #[.slice a1 m.ways.length (m.ways.length + cap1), .slice a2 m.home.length (m.home.length + cap2), .int .i64 m.start, .slice a3 m.rocks.length (m.rocks.length + cap3), .int .i64 m.speed, .int .i64 m.part, .int .i64 m.flow, .int .i64 m.idle, .int .i64 m.drive, .int .i64 m.battery, .int .i64 m.deadline] 28)).alloc (by simp) (.cells #[.slice ao lo.length (lo.length + capo)] 29))).mono (((Below.refl w.heap.size w).alloc (Nat.le_refl _) (.cells #[.slice a1 m.ways.length (m.ways.length + cap1), .slice a2 m.home.length (m.home.length + cap2), .int .i64 m.start, .slice a3 m.rocks.length (m.rocks.length + cap3), .int .i64 m.speed, .int .i64 m.part, .int .i64 m.flow, .int .i64 m.idle, .int .i64 m.drive, .int .i64 m.battery, .int .i64 m.deadline] 28)).alloc (by simp) (.cells #[.slice ao lo.length (lo.length + capo)] 29)).size)
    replace L0 := Lib.hid ((L0.out.below (((Below.refl w.heap.size w).alloc (Nat.le_refl _) (.cells #[.slice a1 m.ways.length (m.ways.length + cap1), .slice a2 m.home.length (m.home.length + cap2), .int .i64 m.start, .slice a3 m.rocks.length (m.rocks.length + cap3), .int .i64 m.speed, .int .i64 m.part, .int .i64 m.flow, .int .i64 m.idle, .int .i64 m.drive, .int .i64 m.battery, .int .i64 m.deadline] 28)).alloc (by simp) (.cells #[.slice ao lo.length (lo.length + capo)] 29))).mono (((Below.refl w.heap.size w).alloc (Nat.le_refl _) (.cells #[.slice a1 m.ways.length (m.ways.length + cap1), .slice a2 m.home.length (m.home.length + cap2), .int .i64 m.start, .slice a3 m.rocks.length (m.rocks.length + cap3), .int .i64 m.speed, .int .i64 m.part, .int .i64 m.flow, .int .i64 m.idle, .int .i64 m.drive, .int .i64 m.battery, .int .i64 m.deadline] 28)).alloc (by simp) (.cells #[.slice ao lo.length (lo.length + capo)] 29)).size)
    replace O0 := Lib.hid ((O0.out.below (((Below.refl w.heap.size w).alloc (Nat.le_refl _) (.cells #[.slice a1 m.ways.length (m.ways.length + cap1), .slice a2 m.home.length (m.home.length + cap2), .int .i64 m.start, .slice a3 m.rocks.length (m.rocks.length + cap3), .int .i64 m.speed, .int .i64 m.part, .int .i64 m.flow, .int .i64 m.idle, .int .i64 m.drive, .int .i64 m.battery, .int .i64 m.deadline] 28)).alloc (by simp) (.cells #[.slice ao lo.length (lo.length + capo)] 29))).mono (((Below.refl w.heap.size w).alloc (Nat.le_refl _) (.cells #[.slice a1 m.ways.length (m.ways.length + cap1), .slice a2 m.home.length (m.home.length + cap2), .int .i64 m.start, .slice a3 m.rocks.length (m.rocks.length + cap3), .int .i64 m.speed, .int .i64 m.part, .int .i64 m.flow, .int .i64 m.idle, .int .i64 m.drive, .int .i64 m.battery, .int .i64 m.deadline] 28)).alloc (by simp) (.cells #[.slice ao lo.length (lo.length + capo)] 29)).size)
    have MB := Lib.hid (show Has ((w.alloc (.cells #[.slice a1 m.ways.length (m.ways.length + cap1), .slice a2 m.home.length (m.home.length + cap2), .int .i64 m.start, .slice a3 m.rocks.length (m.rocks.length + cap3), .int .i64 m.speed, .int .i64 m.part, .int .i64 m.flow, .int .i64 m.idle, .int .i64 m.drive, .int .i64 m.battery, .int .i64 m.deadline] 28)).alloc (.cells #[.slice ao lo.length (lo.length + capo)] 29)) (w.heap.size) #[.slice a1 m.ways.length (m.ways.length + cap1), .slice a2 m.home.length (m.home.length + cap2), .int .i64 m.start, .slice a3 m.rocks.length (m.rocks.length + cap3), .int .i64 m.speed, .int .i64 m.part, .int .i64 m.flow, .int .i64 m.idle, .int .i64 m.drive, .int .i64 m.battery, .int .i64 m.deadline] 28 from q0)
    have OB := Lib.hid (show Has ((w.alloc (.cells #[.slice a1 m.ways.length (m.ways.length + cap1), .slice a2 m.home.length (m.home.length + cap2), .int .i64 m.start, .slice a3 m.rocks.length (m.rocks.length + cap3), .int .i64 m.speed, .int .i64 m.part, .int .i64 m.flow, .int .i64 m.idle, .int .i64 m.drive, .int .i64 m.battery, .int .i64 m.deadline] 28)).alloc (.cells #[.slice ao lo.length (lo.length + capo)] 29)) (w.heap.size + 1) #[.slice ao lo.length (lo.length + capo)] 29 from q1)
    have BX0 := Lib.hid (B0.out.trans (((((Below.refl w.heap.size w).alloc (Nat.le_refl _) (.cells #[.slice a1 m.ways.length (m.ways.length + cap1), .slice a2 m.home.length (m.home.length + cap2), .int .i64 m.start, .slice a3 m.rocks.length (m.rocks.length + cap3), .int .i64 m.speed, .int .i64 m.part, .int .i64 m.flow, .int .i64 m.idle, .int .i64 m.drive, .int .i64 m.battery, .int .i64 m.deadline] 28)).alloc (by simp) (.cells #[.slice ao lo.length (lo.length + capo)] 29))).mono B0.out.size))
    generalize hXX0 : ((w.alloc (.cells #[.slice a1 m.ways.length (m.ways.length + cap1), .slice a2 m.home.length (m.home.length + cap2), .int .i64 m.start, .slice a3 m.rocks.length (m.rocks.length + cap3), .int .i64 m.speed, .int .i64 m.part, .int .i64 m.flow, .int .i64 m.idle, .int .i64 m.drive, .int .i64 m.battery, .int .i64 m.deadline] 28)).alloc (.cells #[.slice ao lo.length (lo.length + capo)] 29)) = X0 at *
    clear hXX0
    obtain ⟨c0, c1, c2, c3, c4, c5, c6, c7, c8, c9, c10⟩ := msn_cells (m := m) MB.out
    clear q0 q1
    have hz0 := BX0.out.size
    refine (hd.out _).mono ?_
    rintro e w1 ⟨rfl, b1⟩
    have B1 := Lib.hid (BX0.out.trans (b1.mono BX0.out.size))
    replace M0 := Lib.hid ((M0.out.below b1).mono b1.size)
    replace L0 := Lib.hid ((L0.out.below b1).mono b1.size)
    replace O0 := Lib.hid ((O0.out.below b1).mono b1.size)
    replace MB := Lib.hid (MB.out.below b1 MB.out.lt)
    replace OB := Lib.hid (OB.out.below b1 OB.out.lt)
    clear b1
    clear c0 c1 c2 c3 c4 c5 c6 c7 c8 c9 c10
    obtain ⟨c0, c1, c2, c3, c4, c5, c6, c7, c8, c9, c10⟩ := msn_cells (m := m) MB.out
    go_wp2_with fail
    refine (ff.out _ M0.out).mono ?_
    rintro e w2 ⟨rfl, b2⟩
    have B2 := Lib.hid (B1.out.trans (b2.mono B1.out.size))
    replace M0 := Lib.hid ((M0.out.below b2).mono b2.size)
    replace L0 := Lib.hid ((L0.out.below b2).mono b2.size)
    replace O0 := Lib.hid ((O0.out.below b2).mono b2.size)
    replace MB := Lib.hid (MB.out.below b2 MB.out.lt)
    replace OB := Lib.hid (OB.out.below b2 OB.out.lt)
    clear b2
    clear c0 c1 c2 c3 c4 c5 c6 c7 c8 c9 c10
    obtain ⟨c0, c1, c2, c3, c4, c5, c6, c7, c8, c9, c10⟩ := msn_cells (m := m) MB.out
    cases hfew : fewB m
    · go_wp2
      go_ret
      exact ⟨rfl, B2.out⟩
    clear hfew
    by_cases hln : (60 : Int) < l.length
    · have dl : decide ((l.length : Int) > 60) = true := by rw [decide_eq_true_eq]; omega
      go_wp2
      go_ret
      exact ⟨rfl, B2.out⟩
    have dl : decide ((l.length : Int) > 60) = false := by rw [decide_eq_false_iff_not]; omega
    go_wp2_with fail
    refine (f3.out _ M0.out L0.out).mono ?_
    rintro e w3 ⟨v3, u3, rfl, p3, q3, b3⟩
    have B3 := Lib.hid (B2.out.trans (b3.mono B2.out.size))
    replace M0 := Lib.hid ((M0.out.below b3).mono b3.size)
    replace L0 := Lib.hid ((L0.out.below b3).mono b3.size)
    replace O0 := Lib.hid ((O0.out.below b3).mono b3.size)
    replace MB := Lib.hid (MB.out.below b3 MB.out.lt)
    replace OB := Lib.hid (OB.out.below b3 OB.out.lt)
    have BE := Lib.hid p3
    have AF := Lib.hid q3
    obtain ⟨-, ga3, gc3, hv3, -⟩ := p3
    obtain ⟨-, ga3', gc3', hv3', -⟩ := q3
    subst hv3
    subst hv3'
    clear b3
    clear c0 c1 c2 c3 c4 c5 c6 c7 c8 c9 c10
    obtain ⟨c0, c1, c2, c3, c4, c5, c6, c7, c8, c9, c10⟩ := msn_cells (m := m) MB.out
    simp only [List.length_nil]
    go_wp2
    go_ret
    exact ⟨rfl, B3.out⟩
  have hV : validB m = true ∧ stopsB m l = true := by simpa [radOkB] using hok
  have e1 : rdBL m l = upto (rdB m l) m.ways.length := by simp [rdBL, hok]
  have e2 : rdAL m l = upto (rdA m l) m.ways.length := by simp [rdAL, hok]
  have e3 : rdE m l = 0 := by simp [rdE, hok]
  rw [e1, e2, e3] at f3
  rw [hV.1] at fv
  have HV := Lib.hid hV.1
  have VV := Lib.hid ((validB_iff m).1 hV.1)
  have n2 := VV.out.n2
  have n41 := VV.out.n41
  have hne : ¬ m.ways = [] := by intro h; rw [h] at n2; simp at n2
  have h0l : (0 : Int) < m.ways.length := by omega
  have st := VV.out.start
  clear e1 e2 e3 hok hV
  replace f3 := Lib.hid f3
  replace fv := Lib.hid fv
  go_enter Tryz.func4, Tryz.ntmps4
  have q0 := Has.new w #[.slice a1 m.ways.length (m.ways.length + cap1), .slice a2 m.home.length (m.home.length + cap2), .int .i64 m.start, .slice a3 m.rocks.length (m.rocks.length + cap3), .int .i64 m.speed, .int .i64 m.part, .int .i64 m.flow, .int .i64 m.idle, .int .i64 m.drive, .int .i64 m.battery, .int .i64 m.deadline] 28
  have q0 := q0.below ((Below.refl (w.heap.size + 1) _).alloc (by simp) (.cells #[.slice ao lo.length (lo.length + capo)] 29)) (by omega)
  have q1 := Has.new (w.alloc (.cells #[.slice a1 m.ways.length (m.ways.length + cap1), .slice a2 m.home.length (m.home.length + cap2), .int .i64 m.start, .slice a3 m.rocks.length (m.rocks.length + cap3), .int .i64 m.speed, .int .i64 m.part, .int .i64 m.flow, .int .i64 m.idle, .int .i64 m.drive, .int .i64 m.battery, .int .i64 m.deadline] 28)) #[.slice ao lo.length (lo.length + capo)] 29
  rw [World.size_alloc] at q1
  go_wp2_with fail
  replace M0 := Lib.hid ((M0.out.below (((Below.refl w.heap.size w).alloc (Nat.le_refl _) (.cells #[.slice a1 m.ways.length (m.ways.length + cap1), .slice a2 m.home.length (m.home.length + cap2), .int .i64 m.start, .slice a3 m.rocks.length (m.rocks.length + cap3), .int .i64 m.speed, .int .i64 m.part, .int .i64 m.flow, .int .i64 m.idle, .int .i64 m.drive, .int .i64 m.battery, .int .i64 m.deadline] 28)).alloc (by simp) (.cells #[.slice ao lo.length (lo.length + capo)] 29))).mono (((Below.refl w.heap.size w).alloc (Nat.le_refl _) (.cells #[.slice a1 m.ways.length (m.ways.length + cap1), .slice a2 m.home.length (m.home.length + cap2), .int .i64 m.start, .slice a3 m.rocks.length (m.rocks.length + cap3), .int .i64 m.speed, .int .i64 m.part, .int .i64 m.flow, .int .i64 m.idle, .int .i64 m.drive, .int .i64 m.battery, .int .i64 m.deadline] 28)).alloc (by simp) (.cells #[.slice ao lo.length (lo.length + capo)] 29)).size)
  replace L0 := Lib.hid ((L0.out.below (((Below.refl w.heap.size w).alloc (Nat.le_refl _) (.cells #[.slice a1 m.ways.length (m.ways.length + cap1), .slice a2 m.home.length (m.home.length + cap2), .int .i64 m.start, .slice a3 m.rocks.length (m.rocks.length + cap3), .int .i64 m.speed, .int .i64 m.part, .int .i64 m.flow, .int .i64 m.idle, .int .i64 m.drive, .int .i64 m.battery, .int .i64 m.deadline] 28)).alloc (by simp) (.cells #[.slice ao lo.length (lo.length + capo)] 29))).mono (((Below.refl w.heap.size w).alloc (Nat.le_refl _) (.cells #[.slice a1 m.ways.length (m.ways.length + cap1), .slice a2 m.home.length (m.home.length + cap2), .int .i64 m.start, .slice a3 m.rocks.length (m.rocks.length + cap3), .int .i64 m.speed, .int .i64 m.part, .int .i64 m.flow, .int .i64 m.idle, .int .i64 m.drive, .int .i64 m.battery, .int .i64 m.deadline] 28)).alloc (by simp) (.cells #[.slice ao lo.length (lo.length + capo)] 29)).size)
  replace O0 := Lib.hid ((O0.out.below (((Below.refl w.heap.size w).alloc (Nat.le_refl _) (.cells #[.slice a1 m.ways.length (m.ways.length + cap1), .slice a2 m.home.length (m.home.length + cap2), .int .i64 m.start, .slice a3 m.rocks.length (m.rocks.length + cap3), .int .i64 m.speed, .int .i64 m.part, .int .i64 m.flow, .int .i64 m.idle, .int .i64 m.drive, .int .i64 m.battery, .int .i64 m.deadline] 28)).alloc (by simp) (.cells #[.slice ao lo.length (lo.length + capo)] 29))).mono (((Below.refl w.heap.size w).alloc (Nat.le_refl _) (.cells #[.slice a1 m.ways.length (m.ways.length + cap1), .slice a2 m.home.length (m.home.length + cap2), .int .i64 m.start, .slice a3 m.rocks.length (m.rocks.length + cap3), .int .i64 m.speed, .int .i64 m.part, .int .i64 m.flow, .int .i64 m.idle, .int .i64 m.drive, .int .i64 m.battery, .int .i64 m.deadline] 28)).alloc (by simp) (.cells #[.slice ao lo.length (lo.length + capo)] 29)).size)
  have MB := Lib.hid (show Has ((w.alloc (.cells #[.slice a1 m.ways.length (m.ways.length + cap1), .slice a2 m.home.length (m.home.length + cap2), .int .i64 m.start, .slice a3 m.rocks.length (m.rocks.length + cap3), .int .i64 m.speed, .int .i64 m.part, .int .i64 m.flow, .int .i64 m.idle, .int .i64 m.drive, .int .i64 m.battery, .int .i64 m.deadline] 28)).alloc (.cells #[.slice ao lo.length (lo.length + capo)] 29)) (w.heap.size) #[.slice a1 m.ways.length (m.ways.length + cap1), .slice a2 m.home.length (m.home.length + cap2), .int .i64 m.start, .slice a3 m.rocks.length (m.rocks.length + cap3), .int .i64 m.speed, .int .i64 m.part, .int .i64 m.flow, .int .i64 m.idle, .int .i64 m.drive, .int .i64 m.battery, .int .i64 m.deadline] 28 from q0)
  have OB := Lib.hid (show Has ((w.alloc (.cells #[.slice a1 m.ways.length (m.ways.length + cap1), .slice a2 m.home.length (m.home.length + cap2), .int .i64 m.start, .slice a3 m.rocks.length (m.rocks.length + cap3), .int .i64 m.speed, .int .i64 m.part, .int .i64 m.flow, .int .i64 m.idle, .int .i64 m.drive, .int .i64 m.battery, .int .i64 m.deadline] 28)).alloc (.cells #[.slice ao lo.length (lo.length + capo)] 29)) (w.heap.size + 1) #[.slice ao lo.length (lo.length + capo)] 29 from q1)
  have BX0 := Lib.hid (B0.out.trans (((((Below.refl w.heap.size w).alloc (Nat.le_refl _) (.cells #[.slice a1 m.ways.length (m.ways.length + cap1), .slice a2 m.home.length (m.home.length + cap2), .int .i64 m.start, .slice a3 m.rocks.length (m.rocks.length + cap3), .int .i64 m.speed, .int .i64 m.part, .int .i64 m.flow, .int .i64 m.idle, .int .i64 m.drive, .int .i64 m.battery, .int .i64 m.deadline] 28)).alloc (by simp) (.cells #[.slice ao lo.length (lo.length + capo)] 29))).mono B0.out.size))
  generalize hXX0 : ((w.alloc (.cells #[.slice a1 m.ways.length (m.ways.length + cap1), .slice a2 m.home.length (m.home.length + cap2), .int .i64 m.start, .slice a3 m.rocks.length (m.rocks.length + cap3), .int .i64 m.speed, .int .i64 m.part, .int .i64 m.flow, .int .i64 m.idle, .int .i64 m.drive, .int .i64 m.battery, .int .i64 m.deadline] 28)).alloc (.cells #[.slice ao lo.length (lo.length + capo)] 29)) = X0 at *
  clear hXX0
  obtain ⟨c0, c1, c2, c3, c4, c5, c6, c7, c8, c9, c10⟩ := msn_cells (m := m) MB.out
  clear q0 q1
  have hz0 := BX0.out.size
  refine (hd.out _).mono ?_
  rintro e w1 ⟨rfl, b1⟩
  have B1 := Lib.hid (BX0.out.trans (b1.mono BX0.out.size))
  replace M0 := Lib.hid ((M0.out.below b1).mono b1.size)
  replace L0 := Lib.hid ((L0.out.below b1).mono b1.size)
  replace O0 := Lib.hid ((O0.out.below b1).mono b1.size)
  replace MB := Lib.hid (MB.out.below b1 MB.out.lt)
  replace OB := Lib.hid (OB.out.below b1 OB.out.lt)
  clear b1
  clear c0 c1 c2 c3 c4 c5 c6 c7 c8 c9 c10
  obtain ⟨c0, c1, c2, c3, c4, c5, c6, c7, c8, c9, c10⟩ := msn_cells (m := m) MB.out
  go_wp2_with fail
  refine (ff.out _ M0.out).mono ?_
  rintro e w2 ⟨rfl, b2⟩
  have B2 := Lib.hid (B1.out.trans (b2.mono B1.out.size))
  replace M0 := Lib.hid ((M0.out.below b2).mono b2.size)
  replace L0 := Lib.hid ((L0.out.below b2).mono b2.size)
  replace O0 := Lib.hid ((O0.out.below b2).mono b2.size)
  replace MB := Lib.hid (MB.out.below b2 MB.out.lt)
  replace OB := Lib.hid (OB.out.below b2 OB.out.lt)
  clear b2
  clear c0 c1 c2 c3 c4 c5 c6 c7 c8 c9 c10
  obtain ⟨c0, c1, c2, c3, c4, c5, c6, c7, c8, c9, c10⟩ := msn_cells (m := m) MB.out
  cases hfew : fewB m
  · go_wp2
    go_ret
    exact ⟨rfl, B2.out⟩
  clear hfew
  by_cases hln : (60 : Int) < l.length
  · have dl : decide ((l.length : Int) > 60) = true := by rw [decide_eq_true_eq]; omega
    go_wp2
    go_ret
    exact ⟨rfl, B2.out⟩
  have dl : decide ((l.length : Int) > 60) = false := by rw [decide_eq_false_iff_not]; omega
  go_wp2_with fail
  refine (f3.out _ M0.out L0.out).mono ?_
  rintro e w3 ⟨v3, u3, rfl, p3, q3, b3⟩
  have B3 := Lib.hid (B2.out.trans (b3.mono B2.out.size))
  replace M0 := Lib.hid ((M0.out.below b3).mono b3.size)
  replace L0 := Lib.hid ((L0.out.below b3).mono b3.size)
  replace O0 := Lib.hid ((O0.out.below b3).mono b3.size)
  replace MB := Lib.hid (MB.out.below b3 MB.out.lt)
  replace OB := Lib.hid (OB.out.below b3 OB.out.lt)
  obtain ⟨bb, ob, gb, hv3, hbb, hcb⟩ := ints_cells p3 (by rw [upto_length]; omega)
  obtain ⟨ba, oa, ga, hv3', hba, hca⟩ := ints_cells q3 (by rw [upto_length]; omega)
  rw [upto_length] at hv3 hv3'
  subst hv3
  subst hv3'
  have BE := Lib.hid p3
  have AF := Lib.hid q3
  clear p3 q3 hbb hcb hba hca
  clear b3
  clear c0 c1 c2 c3 c4 c5 c6 c7 c8 c9 c10
  obtain ⟨c0, c1, c2, c3, c4, c5, c6, c7, c8, c9, c10⟩ := msn_cells (m := m) MB.out
  go_wp2_with fail
  refine (fv.out _ M0.out).mono ?_
  rintro e w4 ⟨rfl, b4⟩
  have B4 := Lib.hid (B3.out.trans (b4.mono B3.out.size))
  replace M0 := Lib.hid ((M0.out.below b4).mono b4.size)
  replace L0 := Lib.hid ((L0.out.below b4).mono b4.size)
  replace O0 := Lib.hid ((O0.out.below b4).mono b4.size)
  replace MB := Lib.hid (MB.out.below b4 MB.out.lt)
  replace OB := Lib.hid (OB.out.below b4 OB.out.lt)
  replace BE := Lib.hid ((BE.out.below b4).mono b4.size)
  replace AF := Lib.hid ((AF.out.below b4).mono b4.size)
  clear b4
  clear c0 c1 c2 c3 c4 c5 c6 c7 c8 c9 c10
  obtain ⟨c0, c1, c2, c3, c4, c5, c6, c7, c8, c9, c10⟩ := msn_cells (m := m) MB.out
  have dne : ((m.ways.length : Int) != (m.ways.length : Int)) = false := by simp
  go_wp2_with fail
  refine (fo.out _ 0 _ _ (by omega) OB.out O0.out st.1).mono ?_
  rintro e w5 ⟨r0, rfl, hr0, hr1, b5⟩
  have B5 := Lib.hid (B4.out.trans (b5.mono B4.out.size))
  replace M0 := Lib.hid ((M0.out.below b5).mono b5.size)
  replace L0 := Lib.hid ((L0.out.below b5).mono b5.size)
  replace O0 := Lib.hid ((O0.out.below b5).mono b5.size)
  replace MB := Lib.hid (MB.out.below b5 MB.out.lt)
  replace OB := Lib.hid (OB.out.below b5 OB.out.lt)
  replace BE := Lib.hid ((BE.out.below b5).mono b5.size)
  replace AF := Lib.hid ((AF.out.below b5).mono b5.size)
  clear b5
  clear c0 c1 c2 c3 c4 c5 c6 c7 c8 c9 c10
  obtain ⟨c0, c1, c2, c3, c4, c5, c6, c7, c8, c9, c10⟩ := msn_cells (m := m) MB.out
  go_wp2
  obtain ⟨wL, hwL⟩ : ∃ x, x = w5 := ⟨_, rfl⟩
  subst hwL
  clear c0 c1 c2 c3 c4 c5 c6 c7 c8 c9 c10
  go_loopw [7, 12, 13] (fun vu vs vi wr => ∃ k : Nat, ∃ s : Int, k + 1 ≤ m.ways.length ∧ vi = .int .i64 ((k : Int) + 1) ∧ vs = .int .i64 s ∧ vu = .bool true ∧ 0 ≤ s ∧ s ≤ rdA m l k ∧ Below wL.heap.size wL wr) (fun _ _ vi _ => m.ways.length - (intOf vi).toNat)
  case atStart => exact ⟨0, r0, by omega, rfl, rfl, rfl, hr0, hr1, Below.refl _ _⟩
  case round =>
    obtain ⟨k, s, hk, rfl, rfl, rfl, hs0, hs1, hB⟩ := hrel
    have hzB := hB.size
    have BR := Lib.hid hB
    have M0r := Lib.hid ((M0.out.below hB).mono hzB)
    have L0r := Lib.hid ((L0.out.below hB).mono hzB)
    have O0r := Lib.hid ((O0.out.below hB).mono hzB)
    have MBr := Lib.hid (MB.out.below hB MB.out.lt)
    have OBr := Lib.hid (OB.out.below hB OB.out.lt)
    have BEr := Lib.hid ((BE.out.below hB).mono hzB)
    have AFr := Lib.hid ((AF.out.below hB).mono hzB)
    clear hB
    by_cases hlt : k + 1 < m.ways.length
    · have d1 : decide ((k : Int) + 1 < (m.ways.length : Int)) = true := by rw [decide_eq_true_eq]; omega
      obtain ⟨c0, c1, c2, c3, c4, c5, c6, c7, c8, c9, c10⟩ := msn_cells (m := m) MBr.out
      have V := VV.out
      have g1 := gLeg_bd V.leg V.ways (i := k) (j := k + 1) (by omega) hlt
      have rb := rd_le V l hlt
      have rk := rd_le V l (k := k) (by omega)
      have hfix := (wayB_true (waysB_at V.ways hlt)).2.2.2.2.1
      have hBs : rdB m l (k + 1) = rdA m l k + gLeg m k (k + 1) := rfl
      have hAs := rdA_succ m l k
      have n3 : IntKind.i64.wrap (k : Int) = k := IntWalk.i64_in _ (by omega)
      have kl : (k : Int) + 1 < (m.ways.length : Int) := by omega
      have k0 : (0 : Int) ≤ (k : Int) + 1 := by omega
      have k1 : ((k : Int) + 1).toNat = k + 1 := by omega
      have hdl := fl.out HV.out k (k + 1) (by omega) hlt
      obtain ⟨dl1, hd1⟩ : ∃ x, dLeg m k (k + 1) = x := ⟨_, rfl⟩
      obtain ⟨tl1, ht1⟩ : ∃ x, tLeg m k (k + 1) = x := ⟨_, rfl⟩
      obtain ⟨gl1, hg1⟩ : ∃ x, gLeg m k (k + 1) = x := ⟨_, rfl⟩
      rw [hd1, ht1, hg1] at hdl
      rw [hg1] at g1 hBs
      replace hdl := Lib.hid hdl
      obtain ⟨fx, hfx⟩ : ∃ x, (wy m.ways (k + 1)).fix = x := ⟨_, rfl⟩
      rw [hfx] at hfix hAs
      obtain ⟨Bv, hBv⟩ : ∃ x, rdB m l (k + 1) = x := ⟨_, rfl⟩
      rw [hBv] at rb hBs hAs
      obtain ⟨Av, hAv⟩ : ∃ x, rdA m l (k + 1) = x := ⟨_, rfl⟩
      rw [hAv] at rb hAs
      obtain ⟨bw, ow, cw, hw1, hw2', hw3⟩ := M0r.out.1.cells (by omega)
      simp only [Value.slice.injEq, true_and] at hw1
      obtain ⟨hw1, -⟩ := hw1
      subst hw1
      have HF := Lib.hid (fun X (B : Below wr.heap.size wr X) => (B.cell (p := ⟨bw, ow + (k + 1) * 5 + 2, none⟩) hw2').trans ((hw3 (k + 1) hlt).2.2.1.trans (by rw [hfx])))
      have HRB := Lib.hid (And.intro hBv hAv)
      have HAS := Lib.hid hAs
      have HB2 := Lib.hid hBs
      clear hd1 ht1 hg1 hw3 hAs V hBs hfx hw2'
      go_wp2_with fail
      refine (hdl.out _ M0r.out).mono ?_
      rintro e w101 ⟨rfl, b101⟩
      have B101 := Lib.hid (BR.out.trans (b101.mono BR.out.size))
      replace M0r := Lib.hid ((M0r.out.below b101).mono b101.size)
      replace L0r := Lib.hid ((L0r.out.below b101).mono b101.size)
      replace O0r := Lib.hid ((O0r.out.below b101).mono b101.size)
      replace MBr := Lib.hid (MBr.out.below b101 MBr.out.lt)
      replace OBr := Lib.hid (OBr.out.below b101 OBr.out.lt)
      replace BEr := Lib.hid ((BEr.out.below b101).mono b101.size)
      replace AFr := Lib.hid ((AFr.out.below b101).mono b101.size)
      have HX := Lib.hid b101
      clear b101
      clear c0 c1 c2 c3 c4 c5 c6 c7 c8 c9 c10
      obtain ⟨c0, c1, c2, c3, c4, c5, c6, c7, c8, c9, c10⟩ := msn_cells (m := m) MBr.out
      go_wp2_with fail
      refine (fo.out _ (k + 1) gl1 _ (by omega) OBr.out O0r.out g1.1).mono ?_
      rintro e w102 ⟨r1, rfl, hr2, hr3, b102⟩
      have B102 := Lib.hid (B101.out.trans (b102.mono B101.out.size))
      replace M0r := Lib.hid ((M0r.out.below b102).mono b102.size)
      replace L0r := Lib.hid ((L0r.out.below b102).mono b102.size)
      replace O0r := Lib.hid ((O0r.out.below b102).mono b102.size)
      replace MBr := Lib.hid (MBr.out.below b102 MBr.out.lt)
      replace OBr := Lib.hid (OBr.out.below b102 OBr.out.lt)
      replace BEr := Lib.hid ((BEr.out.below b102).mono b102.size)
      replace AFr := Lib.hid ((AFr.out.below b102).mono b102.size)
      replace HX := Lib.hid (HX.out.trans (b102.mono HX.out.size))
      clear b102
      clear c0 c1 c2 c3 c4 c5 c6 c7 c8 c9 c10
      obtain ⟨c0, c1, c2, c3, c4, c5, c6, c7, c8, c9, c10⟩ := msn_cells (m := m) MBr.out
      have w1 : IntKind.i64.wrap (s + r1) = s + r1 := IntWalk.i64_in _ (by omega)
      have e1 := ints_row BEr.out hlt
      rw [HRB.out.1] at e1
      have d2 : decide (s + r1 ≤ Bv) = true := by rw [decide_eq_true_eq]; have := HB2.out; omega
      have hin2 : (((k + 1 : Nat) : Int) ∈ l) = ((k : Int) + 1 ∈ l) := rfl
      have hh := fh.out ((k : Int) + 1)
      by_cases hin : (k : Int) + 1 ∈ l
      · have dl2 : decide ((k : Int) + 1 ∈ l) = true := by simpa using hin
        rw [dl2] at hh
        replace hh := Lib.hid hh
        have hA2 : Hid (Av = min2 Bv fx) := HAS.out.trans (if_pos (hin2 ▸ hin))
        clear hin hin2 dl2
        go_wp2_with fail
        refine (hh.out _ L0r.out).mono ?_
        rintro e w103 ⟨rfl, b103⟩
        have B103 := Lib.hid (B102.out.trans (b103.mono B102.out.size))
        replace M0r := Lib.hid ((M0r.out.below b103).mono b103.size)
        replace L0r := Lib.hid ((L0r.out.below b103).mono b103.size)
        replace O0r := Lib.hid ((O0r.out.below b103).mono b103.size)
        replace MBr := Lib.hid (MBr.out.below b103 MBr.out.lt)
        replace OBr := Lib.hid (OBr.out.below b103 OBr.out.lt)
        replace BEr := Lib.hid ((BEr.out.below b103).mono b103.size)
        replace AFr := Lib.hid ((AFr.out.below b103).mono b103.size)
        replace HX := Lib.hid (HX.out.trans (b103.mono HX.out.size))
        clear b103
        clear c0 c1 c2 c3 c4 c5 c6 c7 c8 c9 c10
        obtain ⟨c0, c1, c2, c3, c4, c5, c6, c7, c8, c9, c10⟩ := msn_cells (m := m) MBr.out
        have q2 := HF.out _ HX.out
        have n4 : IntKind.i64.wrap ((k : Int) + 1 + 1) = (k : Int) + 1 + 1 := IntWalk.i64_in _ (by omega)
        go_wp2_with fail
        refine (fo.out _ (k + 1 + 1) fx _ (by omega) OBr.out O0r.out hfix).mono ?_
        rintro e w104 ⟨r2, rfl, hr4, hr5, b104⟩
        have B104 := Lib.hid (B103.out.trans (b104.mono B103.out.size))
        replace M0r := Lib.hid ((M0r.out.below b104).mono b104.size)
        replace L0r := Lib.hid ((L0r.out.below b104).mono b104.size)
        replace O0r := Lib.hid ((O0r.out.below b104).mono b104.size)
        replace MBr := Lib.hid (MBr.out.below b104 MBr.out.lt)
        replace OBr := Lib.hid (OBr.out.below b104 OBr.out.lt)
        replace BEr := Lib.hid ((BEr.out.below b104).mono b104.size)
        replace AFr := Lib.hid ((AFr.out.below b104).mono b104.size)
        replace HX := Lib.hid (HX.out.trans (b104.mono HX.out.size))
        clear b104
        clear c0 c1 c2 c3 c4 c5 c6 c7 c8 c9 c10
        obtain ⟨c0, c1, c2, c3, c4, c5, c6, c7, c8, c9, c10⟩ := msn_cells (m := m) MBr.out
        by_cases hmn : r2 < s + r1
        · skip
          have hmm : min (s + r1) r2 = r2 := by omega
          have e2 := ints_row AFr.out hlt
          rw [HRB.out.2] at e2
          have d3 : decide (r2 ≤ Av) = true := by rw [decide_eq_true_eq, hA2.out]; have := HB2.out; unfold min2; split <;> omega
          go_wp2
          go_roundw
          case rel =>
            exact ⟨k + 1, r2, by omega, by go_num, rfl, rfl, by omega, by have := d3; rw [decide_eq_true_eq] at this; rw [HRB.out.2]; exact this, BR.out.trans (HX.out.mono BR.out.size)⟩
          case measure => simp [intOf]; omega
        · skip
          have hmm : min (s + r1) r2 = (s + r1) := by omega
          have e2 := ints_row AFr.out hlt
          rw [HRB.out.2] at e2
          have d3 : decide ((s + r1) ≤ Av) = true := by rw [decide_eq_true_eq, hA2.out]; have := HB2.out; unfold min2; split <;> omega
          go_wp2
          go_roundw
          case rel =>
            exact ⟨k + 1, (s + r1), by omega, by go_num, rfl, rfl, by omega, by have := d3; rw [decide_eq_true_eq] at this; rw [HRB.out.2]; exact this, BR.out.trans (HX.out.mono BR.out.size)⟩
          case measure => simp [intOf]; omega
      · have dl2 : decide ((k : Int) + 1 ∈ l) = false := by simpa using hin
        rw [dl2] at hh
        replace hh := Lib.hid hh
        have hA2 : Hid (Av = Bv) := HAS.out.trans (if_neg (fun h => hin (hin2 ▸ h)))
        clear hin hin2 dl2
        go_wp2_with fail
        refine (hh.out _ L0r.out).mono ?_
        rintro e w103 ⟨rfl, b103⟩
        have B103 := Lib.hid (B102.out.trans (b103.mono B102.out.size))
        replace M0r := Lib.hid ((M0r.out.below b103).mono b103.size)
        replace L0r := Lib.hid ((L0r.out.below b103).mono b103.size)
        replace O0r := Lib.hid ((O0r.out.below b103).mono b103.size)
        replace MBr := Lib.hid (MBr.out.below b103 MBr.out.lt)
        replace OBr := Lib.hid (OBr.out.below b103 OBr.out.lt)
        replace BEr := Lib.hid ((BEr.out.below b103).mono b103.size)
        replace AFr := Lib.hid ((AFr.out.below b103).mono b103.size)
        replace HX := Lib.hid (HX.out.trans (b103.mono HX.out.size))
        clear b103
        clear c0 c1 c2 c3 c4 c5 c6 c7 c8 c9 c10
        obtain ⟨c0, c1, c2, c3, c4, c5, c6, c7, c8, c9, c10⟩ := msn_cells (m := m) MBr.out
        have e2 := ints_row AFr.out hlt
        rw [HRB.out.2] at e2
        have d3 : decide ((s + r1) ≤ Av) = true := by rw [decide_eq_true_eq, hA2.out]; have := HB2.out; omega
        go_wp2
        go_roundw
        case rel =>
          exact ⟨k + 1, (s + r1), by omega, by go_num, rfl, rfl, by omega, by have := d3; rw [decide_eq_true_eq] at this; rw [HRB.out.2]; exact this, BR.out.trans (HX.out.mono BR.out.size)⟩
        case measure => simp [intOf]; omega
    · obtain hke : m.ways.length = k + 1 := by omega
      have d1 : decide ((k : Int) + 1 < (m.ways.length : Int)) = false := by rw [decide_eq_false_iff_not]; omega
      have e1 : wr.cell? ⟨bb, ob, none⟩ = some (.int .i64 m.start) := ints_row BEr.out (j := 0) (by omega)
      have e2 : wr.cell? ⟨ba, oa, none⟩ = some (.int .i64 m.start) := ints_row AFr.out (j := 0) (by omega)
      have l1 := Low.fact e1
      have l2 := Low.fact e2
      have l3 := Low.fact (MBr.out.cell (i := 2) rfl)
      have c0 := MBr.out.cell (i := 0) rfl
      have h0n : 0 < m.ways.length := by omega
      clear hke e1 e2
      go_wp2
      (refine wp_region_low (by kernel_rfl) (by kernel_rfl) ?_; (iterate 18 (apply quiet_want; (case hw => rfl); (case hval => (intro w1 hw1; have hcx := Low.cells hw1; simp only [Oper.quietAt]; go_simp; first | done | (first | fail) | rfl | exact ⟨rfl, rfl⟩)); simp only [Act.put, List.setIfInBounds_toArray, List.set_cons_zero, List.set_cons_succ])); refine wpQuiet_nil ?_; intro w2 hw2)
      go_wp2
      go_ret
      exact ⟨rfl, B5.out.trans ((BR.out.trans (hw2.out.mono BR.out.size)).mono B5.out.size)⟩

set_option maxRecDepth 100000 in
theorem lifted (os : Os) (started : os.Started) (H : Type) (enc : TypeId × Value → H) :
    ReturnsInHanded {} Tryz.checked os 4 .any (Rows.spreadRadiiSpec.pre6 enc Tryz.prog Tryz.f4 Rows.spreadRadiiRow.domain false) (Rows.spreadRadiiSpec.post enc Tryz.prog Tryz.f4 false true false false) := by
  refine returnsInHanded_of_change_sized (C := Tryz.checked) own started (by kernel_rfl) Tryz.func4
    (ChangeSpec.witness6 (enc := enc) (C := Tryz.checked) false ⟨#[], #[.agg #[.slice none 0 0, .slice none 0 0, .int .i64 0, .slice none 0 0, .int .i64 0, .int .i64 0, .int .i64 0, .int .i64 0, .int .i64 0, .int .i64 0, .int .i64 0], .slice none 0 0, .slice none 0 0], []⟩ 8 (by kernel_rfl) (by kernel_rfl) (by kernel_rfl) (by kernel_rfl)) ?_
  intro W base args ds gs before hval0 hW hcnd hsz0 _
  have hval : ∀ (j : Nat) t v, Tryz.f4.params[j]? = some t → args[j]? = some v → Value.okWide Tryz.prog W .any base t v := hval0
  have hW' := hW
  obtain ⟨p, q, hA0, hV, rfl, hfz, hnd⟩ := hW
  have hA : DataW.TrodAll enc Tryz.prog W 0 (fun _ => true) true Tryz.f4.params.toList args.toList ds p := hA0
  have hsz : (DataW.weightsEach Tryz.prog (Tryz.f4.params.toList ++ Rows.spreadRadiiSpec.plain.varTypes Tryz.prog) (ds ++ gs)).all (· ≤ reachBytes) = true := hsz0
  rw [Tryz.params4] at hA hval hsz
  obtain ⟨v0, vs0, d0, ds0, p0, q0, hargs, rfl, rfl, h0, r0⟩ := trodAll_cons hA
  obtain ⟨v1, vs1, d1, ds1, p1, q1, rfl, rfl, rfl, h1, r1⟩ := trodAll_cons r0
  obtain ⟨v2, vs2, d2, ds2, p2, q2, rfl, rfl, rfl, h2, r2⟩ := trodAll_cons r1
  obtain ⟨rfl, rfl, rfl⟩ := trodAll_nil r2
  obtain rfl : args = #[v0, v1, v2] := by cases args; simp_all
  obtain ⟨rfl, rfl⟩ := trodVars_none hV
  have k0 := h0
  have lt0 : ∀ x ∈ p0, x.block < W.heap.size := by obtain ⟨m, hm⟩ := k0; exact DataW.trod_lt m _ _ _ hm
  have z0 : ∀ n ∈ d0.weights Tryz.prog 28, n ≤ reachBytes := fun n hn => by have := List.all_eq_true.1 hsz n (DataW.weights_mem_each (j := 0) (t := 28) (d := d0) rfl rfl n hn); simpa using this
  obtain ⟨a0, vw0, vh0, vr0, rfl, w0⟩ := open_msn (hval 0 28 v0 rfl rfl) h0 z0
  have k1 := h1
  have lt1 : ∀ x ∈ p1, x.block < W.heap.size := by obtain ⟨m, hm⟩ := k1; exact DataW.trod_lt m _ _ _ hm
  have z1 : ∀ n ∈ d1.weights Tryz.prog 29, n ≤ reachBytes := fun n hn => by have := List.all_eq_true.1 hsz n (DataW.weights_mem_each (j := 1) (t := 29) (d := d1) rfl rfl n hn); simpa using this
  obtain ⟨a1, w1⟩ := open_ints_arg (hval 1 29 v1 rfl rfl) h1 z1
  have k2 := h2
  have lt2 : ∀ x ∈ p2, x.block < W.heap.size := by obtain ⟨m, hm⟩ := k2; exact DataW.trod_lt m _ _ _ hm
  have z2 : ∀ n ∈ d2.weights Tryz.prog 29, n ≤ reachBytes := fun n hn => by have := List.all_eq_true.1 hsz n (DataW.weights_mem_each (j := 2) (t := 29) (d := d2) rfl rfl n hn); simpa using this
  obtain ⟨a2, w2⟩ := open_ints_arg (hval 2 29 v2 rfl rfl) h2 z2
  clear hA0 hval0
  refine (walk W a0 vw0 vh0 vr0 v1 a1 v2 a2 w0 w1 w2).mono fun e W' ⟨he, bel⟩ => ?_
  subst he
  exact ⟨_, rfl, _, _, _, [], _, [], hW', trodAll_mk1 (shut_bool Tryz.underlying4 _), (trodAll_cons_mk (Below.trod laidOut (by kernel_rfl) (of_decide_eq_true (by kernel_rfl)) k0 bel lt0) (trodAll_cons_mk (Below.trod laidOut (by kernel_rfl) (of_decide_eq_true (by kernel_rfl)) k1 bel lt1) (trodAll_cons_mk (Below.trod laidOut (by kernel_rfl) (of_decide_eq_true (by kernel_rfl)) k2 bel lt2) trodAll_mk0))), rfl, bel.frame _, fun h => by cases h⟩

theorem over : Rows.spreadRadiiRow.holds Tryz.pinned (OpenSpec.ofChange Rows.spreadRadiiSpec) :=
  OpenClaim.holds_of_wide 4 Tryz.f4 rfl rfl rfl rfl rfl rfl rfl ⟨rfl, rfl, rfl, rfl, rfl⟩ rfl rfl rfl rfl rfl (by kernel_rfl) Tryz.func4 (by kernel_rfl)
    (of_decide_eq_true (by kernel_rfl)) (by unfold Func.isWrapper; first | (rw [if_pos (by decide +kernel)]; kernel_rfl) | (rw [if_neg (by decide +kernel)]; exact ⟨rfl, rfl⟩))
    (fun os started H enc _ => lifted os started H enc)

/-- the statement -/
theorem proved : Rows.SpreadRadiiSaid := over
#print axioms proved
end Go.Proofs.YtoekcefhphcjjaaGreat.spreadRadii
