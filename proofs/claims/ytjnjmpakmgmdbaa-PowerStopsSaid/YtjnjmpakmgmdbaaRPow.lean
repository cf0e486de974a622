/- package power: Home. | The reference of package power: Between, Cost, Back, Home. -/
import Derived.Test.YtjnjmpakmgmdbaaPow
import Derived.Test.YtjnjmpakmgmdbaaHead31
namespace Go.Proofs.Ytjnjmpakmgmdbaa
open Go.RowKit
attribute [local irreducible] wpQuiet

/-- times and energies of the first legs of the route home -/
def homeT (m : Msn) (a : Nat) : Nat → Int
  | 0 => 0
  | j + 1 => homeT m a j + tLeg m (itB m a j) (itB m a (j + 1))
def homeE (m : Msn) (a : Nat) : Nat → Int
  | 0 => 0
  | j + 1 => homeE m a j + eLeg m (itB m a j) (itB m a (j + 1))
theorem homeTE_bd {m : Msn} (V : VMsn m) {a : Nat} (ha : a < m.ways.length) : ∀ j, j ≤ dep m a → 0 ≤ homeT m a j ∧ homeT m a j ≤ j * 90000000 ∧ 0 ≤ homeE m a j ∧ homeE m a j ≤ j * 90900000000
  | 0, _ => by simp [homeT, homeE]
  | j + 1, h => by
    have ih := homeTE_bd V ha j (by omega)
    have x1 := itB_lt V.ways ha (j := j) (by omega)
    have x2 := itB_lt V.ways ha h
    have t := tLeg_bd V.leg V.ways x1 x2
    have e := eLeg_bd V x1 x2
    simp only [homeT, homeE]; omega
noncomputable def hT (m : Msn) (i : Int) : Int := if okR m i = true then homeT m i.toNat (dep m i.toNat) else 0
noncomputable def hE (m : Msn) (i : Int) : Int := if okR m i = true then homeE m i.toNat (dep m i.toNat) else 0

/-- a list that is not empty, by its cells -/
theorem ints_cells {n0 : Nat} {W : World} {v : Value} {l : List Int} {n : Nat} (h : IntsAt n0 W v l) (hl : l.length = n + 1) : ∃ b o cap, v = .slice (some ⟨b, o, none⟩) (n + 1) (n + 1 + cap) ∧ b < n0 ∧ ∀ j, j < n + 1 → W.cell? ⟨b, o + j, none⟩ = some (.int .i64 (l.getD j 0)) := by
  obtain ⟨_, a, cap, rfl, hc⟩ := h
  rcases hc with h0 | ⟨b, o, rfl, hb, hc⟩
  · rw [h0] at hl; simp at hl
  · rw [hl] at hc ⊢
    exact ⟨b, o, cap, rfl, hb, hc⟩
theorem route_get {m : Msn} {a n j : Nat} (hj : j < n + 1) : (intL (upto (itB m a) (n + 1))).getD j 0 = (itB m a j : Int) := by
  simp [intL, upto, List.getD, hj]

theorem phome_no (m : Msn) (vw vh vr : Value) (i : Int) (w : World) (hm : MsnAt w.heap.size w m vw vh vr) (hE : okR m i = false) :
    Calls Try.prog 29 #[.agg (msnCells m vw vh vr), .int .i64 i] w fun e w' => e = .returned (.tuple #[.int .i64 0, .int .i64 0, .int .i64 1]) ∧ Below w.heap.size w w' := by
  have W1 : Below w.heap.size w (w.alloc (.cells (msnCells m vw vh vr) 26)) := (Below.refl _ _).alloc (Nat.le_refl _) _
  have hr := route_all m vw vh vr i _ ((hm.below W1).mono W1.size)
  simp only [routeR, routeE, hE, Bool.false_eq_true, if_false] at hr
  have hr := Lib.hid hr
  clear hm hE W1
  unfold msnCells at *
  go_enter Try.func29, Try.ntmps29
  go_wp2_with fail
  refine hr.out.mono ?_
  rintro e w1 ⟨v1, rfl, _, hb1⟩
  have B1 : Below w.heap.size w w1 := ((Below.refl _ w).alloc (Nat.le_refl _) _).trans (hb1.mono (by simp))
  clear hb1
  go_wp2
  go_ret3
  exact ⟨rfl, B1⟩

set_option maxRecDepth 8000 in
set_option maxHeartbeats 1600000 in
theorem phome_yes (m : Msn) (vw vh vr : Value) (a : Nat) (w : World) (hm : MsnAt w.heap.size w m vw vh vr) (hV : validB m = true) (ha : a < m.ways.length) :
    Calls Try.prog 29 #[.agg (msnCells m vw vh vr), .int .i64 a] w fun e w' => e = .returned (.tuple #[.int .i64 (homeT m a (dep m a)), .int .i64 (homeE m a (dep m a)), .int .i64 0]) ∧ Below w.heap.size w w' := by
  have W1 : Below w.heap.size w (w.alloc (.cells (msnCells m vw vh vr) 26)) := (Below.refl _ _).alloc (Nat.le_refl _) _
  have hr := route_all m vw vh vr a _ ((hm.below W1).mono W1.size)
  rw [(route_nat hV ha).1, (route_nat hV ha).2] at hr
  have V := (validB_iff m).1 hV
  have hd := dep_le V.ways ha
  have n41 := V.n41
  obtain ⟨n, hn⟩ : ∃ n, dep m a = n := ⟨_, rfl⟩
  rw [hn] at hr hd ⊢
  have hlen : (intL (upto (itB m a) (n + 1))).length = n + 1 := by simp [intL, upto]
  have hr := Lib.hid hr
  have HM := Lib.hid hm
  have HV := Lib.hid (And.intro hV (And.intro V (And.intro hlen hn)))
  have H0 := Has.new w (msnCells m vw vh vr) 26
  have H0' := Lib.hid H0
  obtain ⟨⟨_, a1, cap1, rfl, _⟩, ⟨_, a2, cap2, rfl, _⟩, ⟨_, a3, cap3, rfl, _⟩⟩ := hm
  clear hV V hlen hn W1 H0
  unfold msnCells at *
  go_enter Try.func29, Try.ntmps29
  go_wp2_with fail
  refine hr.out.mono ?_
  rintro e w1 ⟨v1, rfl, hI, hb1⟩
  obtain ⟨b2, o2, cap4, rfl, hb2', hcell⟩ := ints_cells hI HV.out.2.2.1
  have B1 : Below w.heap.size w w1 := ((Below.refl _ w).alloc (Nat.le_refl _) _).trans (hb1.mono (by simp))
  have H1 := H0'.out.below (hb1.mono (by simp) : Below (w.heap.size + 1) _ w1) (by omega)
  obtain ⟨c0, c1, c2, c3, c4, c5, c6, c7, c8, c9, c10⟩ := msn_cells (m := m) (vw := .slice a1 m.ways.length (m.ways.length + cap1)) (vh := .slice a2 m.home.length (m.home.length + cap2)) (vr := .slice a3 m.rocks.length (m.rocks.length + cap3)) H1
  have z1 := H1.lt
  have HCL := Lib.hid hcell
  have HS := Lib.hid (Has.new w1 (spentCells m (.slice a1 m.ways.length (m.ways.length + cap1)) (.slice a2 m.home.length (m.home.length + cap2)) (.slice a3 m.rocks.length (m.rocks.length + cap3)) 0 0) 89)
  clear hI hb1 hcell H1
  by_cases hc4 : n + 1 + cap4 = 1
  all_goals
    go_wp2
    have HX := Lib.hid (Only.of_below (b := w1.heap.size) ((Below.refl _ w1).alloc (Nat.le_refl _) (.cells (spentCells m (.slice a1 m.ways.length (m.ways.length + cap1)) (.slice a2 m.home.length (m.home.length + cap2)) (.slice a3 m.rocks.length (m.rocks.length + cap3)) 0 0) 89)))
    go_loopw [25] (fun i wr => ∃ j : Nat, j ≤ n ∧ i = .int .i64 (j : Int) ∧ wr.heap[w1.heap.size]? = some (.cells (spentCells m (.slice a1 m.ways.length (m.ways.length + cap1)) (.slice a2 m.home.length (m.home.length + cap2)) (.slice a3 m.rocks.length (m.rocks.length + cap3)) (homeT m a j) (homeE m a j)) 89 (0, 0)) ∧ Only w1.heap.size w1 wr) (fun i _ => n - (intOf i).toNat)
    case atStart => exact ⟨0, by omega, rfl, HS.out, HX.out⟩
    case round =>
      obtain ⟨j, hj, rfl, H, hO⟩ := hrel
      have hzr := hO.size
      have BO : Below w1.heap.size w1 wr := hO.below (Nat.le_refl _) (Nat.le_refl _)
      have BW := B1.trans (BO.mono B1.size)
      obtain ⟨hV, V, hlen, hn⟩ := HV.out
      have tb := homeTE_bd V ha j (by omega)
      have hlt1 := (Array.getElem?_eq_some_iff.1 H).1
      by_cases hlt : j < n
      · (try (exfalso; omega))
        all_goals
          have x1 := itB_lt V.ways ha (j := j) (by omega)
          have x2 := itB_lt V.ways ha (j := j + 1) (by omega)
          have f1 := HCL.out j (by omega)
          have f2 := HCL.out (j + 1) (by omega)
          rw [route_get (by omega)] at f1 f2
          have l1 := (BO.cell (p := ⟨b2, o2 + j, none⟩) hb2').trans f1
          have l2 := (BO.cell (p := ⟨b2, o2 + (j + 1), none⟩) hb2').trans f2
          rw [show o2 + (j + 1) = o2 + 1 + j by omega] at l2
          have hg := go1_any w1.heap.size m (.slice a1 m.ways.length (m.ways.length + cap1)) (.slice a2 m.home.length (m.home.length + cap2)) (.slice a3 m.rocks.length (m.rocks.length + cap3)) (homeT m a j) (homeE m a j) _ _ wr H ((HM.out.below BW).mono BW.size) hV x1 x2 tb.1 (by omega) tb.2.2.1 (by omega)
          have hs : homeT m a (j + 1) = homeT m a j + tLeg m (itB m a j) (itB m a (j + 1)) ∧ homeE m a (j + 1) = homeE m a j + eLeg m (itB m a j) (itB m a (j + 1)) := ⟨rfl, rfl⟩
          have hs := Lib.hid hs
          have hg := Lib.hid hg
          have HH := Lib.hid H
          have hOO := Lib.hid hO
          generalize itB m a j = p1 at *
          generalize itB m a (j + 1) = p2 at *
          generalize homeT m a j = t0 at *
          generalize homeE m a j = e0 at *
          have jl : (j : Int) < (n : Int) := by omega
          have jl1 : (j : Int) < (n : Int) + 1 := by omega
          clear hV V hlen hn f1 f2 H hO
          go_wp2_with fail
          refine hg.out.mono ?_
          rintro r w4 ⟨⟨v, rfl⟩, hH4, hO4⟩
          have HZ := Lib.hid (And.intro hH4 (hOO.out.trans hO4))
          clear hH4 hO4
          go_wp2
          go_roundw
          case rel => exact ⟨j + 1, by omega, by go_num, by rw [hs.out.1, hs.out.2]; exact HZ.out.1, HZ.out.2⟩
          case measure => simp [intOf]; omega
      · obtain rfl : j = n := by omega
        have c0 := Low.fact (cells_cell H (i := 0) rfl)
        have c1 := Low.fact (cells_cell H (i := 1) rfl)
        have dj : decide ((j : Int) < (j : Int)) = false := by simp
        clear hV V hlen hn H
        go_wp2
        (refine wp_region_low (by kernel_rfl) (by kernel_rfl) ?_; (iterate 9 (apply quiet_want; (case hw => rfl); (case hval => (intro w1 hw1; have hcx := Low.cells hw1; simp only [Oper.quietAt]; go_simp; first | done | (first | fail) | rfl | exact ⟨rfl, rfl⟩)); simp only [Act.put, List.setIfInBounds_toArray, List.set_cons_zero, List.set_cons_succ])); refine wpQuiet_nil ?_; intro w2 hw2)
        go_wp2
        go_ret3
        exact ⟨rfl, BW.trans (hw2.out.mono BW.size)⟩

theorem phome_all (m : Msn) (vw vh vr : Value) (i : Int) (w : World) (hm : MsnAt w.heap.size w m vw vh vr) :
    Calls Try.prog 29 #[.agg (msnCells m vw vh vr), .int .i64 i] w fun e w' => e = .returned (.tuple #[.int .i64 (hT m i), .int .i64 (hE m i), .int .i64 (routeE m i)]) ∧ Below w.heap.size w w' := by
  cases h : okR m i
  · simp only [hT, Go.Proofs.Ytjnjmpakmgmdbaa.hE, routeE, h, Bool.false_eq_true, if_false]
    exact phome_no m vw vh vr i w hm h
  · simp only [hT, Go.Proofs.Ytjnjmpakmgmdbaa.hE, routeE, h, if_true]
    obtain ⟨a, rfl, ha, hv⟩ := okR_true h
    exact phome_yes m vw vh vr a w hm hv ha
end Go.Proofs.Ytjnjmpakmgmdbaa

namespace Go.Proofs.Ytjnjmpakmgmdbaa
open Go.RowKit
attribute [local irreducible] wpQuiet

theorem rindex34_any (m : Msn) (vw vh vr : Value) (i : Int) (w : World) (hw : WaysAt w.heap.size w vw m.ways) :
    Calls Try.prog 64 #[.agg (msnCells m vw vh vr), .int .i64 i] w fun e w' => e = .returned (.bool (ixB m i)) ∧ Below w.heap.size w w' := by
  obtain ⟨_, a, cap, rfl, _⟩ := hw
  unfold msnCells
  cases hi : ixB m i
  · rcases ixB_false hi with h1 | ⟨h1, h2⟩
    · have d1 : decide (0 ≤ i) = false := by simp; omega
      clear hi h1
      go_enter Try.func64, Try.ntmps64
      go_wp2
      go_ret
      exact ⟨rfl, by repeat (first | exact Below.refl _ _ | assumption | apply Below.drew | refine Below.setCell ?_ (by first | omega | (simp; done) | (simp; omega)) _ | refine Below.alloc ?_ (by first | omega | (simp; done) | (simp; omega)) _ | refine Below.call (by assumption) ?_ (by first | omega | (simp; done) | (simp; omega)))⟩
    · have d1 : decide (0 ≤ i) = true := by simp; omega
      have d2 : decide (i < (m.ways.length : Int)) = false := by simp; omega
      clear hi h1 h2
      go_enter Try.func64, Try.ntmps64
      go_wp2
      go_ret
      exact ⟨rfl, by repeat (first | exact Below.refl _ _ | assumption | apply Below.drew | refine Below.setCell ?_ (by first | omega | (simp; done) | (simp; omega)) _ | refine Below.alloc ?_ (by first | omega | (simp; done) | (simp; omega)) _ | refine Below.call (by assumption) ?_ (by first | omega | (simp; done) | (simp; omega)))⟩
  · obtain ⟨k, rfl, hk⟩ := ixB_true hi
    clear hi
    go_enter Try.func64, Try.ntmps64
    go_wp2
    go_ret
    exact ⟨rfl, by repeat (first | exact Below.refl _ _ | assumption | apply Below.drew | refine Below.setCell ?_ (by first | omega | (simp; done) | (simp; omega)) _ | refine Below.alloc ?_ (by first | omega | (simp; done) | (simp; omega)) _ | refine Below.call (by assumption) ?_ (by first | omega | (simp; done) | (simp; omega)))⟩

set_option maxRecDepth 4000 in
set_option maxHeartbeats 800000 in
theorem rbetween_any (m : Msn) (vw vh vr : Value) (i j : Nat) (w : World) (hm : MsnAt w.heap.size w m vw vh vr) (hV : validB m = true) (hi : i < m.ways.length) (hj : j < m.ways.length) :
    Calls Try.prog 65 #[.agg (msnCells m vw vh vr), .int .i64 i, .int .i64 j] w fun e w' => e = .returned (.tuple #[.int .i64 (tLeg m i j), .int .i64 (eLeg m i j)]) ∧ Below w.heap.size w w' := by
  have V := (validB_iff m).1 hV
  obtain ⟨b, o, cap, rfl, hb, hc2⟩ := hm.1.cells (by omega)
  have H0 := Has.new w (msnCells m (.slice (some ⟨b, o, none⟩) m.ways.length (m.ways.length + cap)) vh vr) 26
  have W1 : Below w.heap.size w (w.alloc (.cells (msnCells m (.slice (some ⟨b, o, none⟩) m.ways.length (m.ways.length + cap)) vh vr) 26)) := (Below.refl _ _).alloc (Nat.le_refl _) _
  obtain ⟨u0, u1, _, _, _⟩ := hc2 i hi
  obtain ⟨v0, v1, _, _, _⟩ := hc2 j hj
  have lu0 := Low.fact ((W1.cell (p := ⟨b, o + i * 5, none⟩) hb).trans u0)
  have lu1 := Low.fact ((W1.cell (p := ⟨b, o + i * 5 + 1, none⟩) hb).trans u1)
  have lv0 := Low.fact ((W1.cell (p := ⟨b, o + j * 5, none⟩) hb).trans v0)
  have lv1 := Low.fact ((W1.cell (p := ⟨b, o + j * 5 + 1, none⟩) hb).trans v1)
  obtain ⟨c0, c1, c2, c3, c4, c5, c6, c7, c8, c9, c10⟩ := msn_low H0
  obtain ⟨y1, y2, y3, y4⟩ := way_near V.ways hi
  obtain ⟨x1, x2, x3, x4⟩ := way_near V.ways hj
  have d1 := dLeg_bd V.ways hi hj
  have hl := fun w1 => length_any (wy m.ways i).x (wy m.ways i).y (wy m.ways j).x (wy m.ways j).y w1 y1 y2 y3 y4 x1 x2 x3 x4
  have ht := fun w1 => rlasts_any m (.slice (some ⟨b, o, none⟩) m.ways.length (m.ways.length + cap)) vh vr (dLeg m i j) w1 d1.1 d1.2 V.leg.1 V.leg.2.1
  change ∀ w1, Calls _ _ _ _ fun e w' => e = .returned (.int .i64 (dLeg m i j)) ∧ _ at hl
  change ∀ w1, Calls _ _ _ _ fun e w' => e = .returned (.int .i64 (tLeg m i j)) ∧ _ at ht
  have bb := eLeg_bd V hi hj
  have k1 : IntKind.i64.wrap (m.idle * tLeg m i j) = m.idle * tLeg m i j := IntWalk.i64_in _ (by omega)
  have k2 : IntKind.i64.wrap (m.drive * dLeg m i j) = m.drive * dLeg m i j := IntWalk.i64_in _ (by omega)
  have k3 : IntKind.i64.wrap (m.idle * tLeg m i j + m.drive * dLeg m i j) = m.idle * tLeg m i j + m.drive * dLeg m i j := IntWalk.i64_in _ (by omega)
  unfold eLeg
  generalize dLeg m i j = d at *
  generalize tLeg m i j = t at *
  have hl' := Lib.hid hl
  have ht' := Lib.hid ht
  have H0' := Lib.hid H0
  have W1' := Lib.hid W1
  have hi' : (i : Int) < m.ways.length := by omega
  have hj' : (j : Int) < m.ways.length := by omega
  clear hm hV V hc2 u0 u1 v0 v1 hl ht y1 y2 y3 y4 x1 x2 x3 x4 d1 H0 W1 bb
  unfold msnCells at *
  go_enter Try.func65, Try.ntmps65
  go_wp2
  (refine wp_region_low (by kernel_rfl) (by kernel_rfl) ?_; (iterate 14 (apply quiet_want; (case hw => rfl); (case hval => (intro w1 hw1; have hcx := Low.cells hw1; simp only [Oper.quietAt]; go_simp; first | done | (first | (go_at_call 36; with_reducible exact (Low.calls hw1 (hl'.out _)))) | rfl | exact ⟨rfl, rfl⟩)); simp only [Act.put, List.setIfInBounds_toArray, List.set_cons_zero, List.set_cons_succ])); refine wpQuiet_nil ?_; intro w2 hw2)
  have H2 := H0'.out.below hw2.out (by simp)
  have B2 := W1'.out.trans (hw2.out.mono W1'.out.size)
  obtain ⟨c0, c1, c2, c3, c4, c5, c6, c7, c8, c9, c10⟩ := msn_cells (m := m) (vw := .slice (some ⟨b, o, none⟩) m.ways.length (m.ways.length + cap)) (vh := vh) (vr := vr) H2
  have z2 := H2.lt
  have H2' := Lib.hid H2
  clear H2 hw2 lu0 lu1 lv0 lv1
  go_wp2_with fail
  refine (ht'.out _).mono ?_
  rintro e w3 ⟨rfl, hb3⟩
  have H3 := H2'.out.below hb3 z2
  have B3 := B2.trans (hb3.mono B2.size)
  obtain ⟨c0, c1, c2, c3, c4, c5, c6, c7, c8, c9, c10⟩ := msn_low (m := m) (vw := .slice (some ⟨b, o, none⟩) m.ways.length (m.ways.length + cap)) (vh := vh) (vr := vr) H3
  clear H3 hb3
  go_wp2
  (refine wp_region_low (by kernel_rfl) (by kernel_rfl) ?_; (iterate 12 (apply quiet_want; (case hw => rfl); (case hval => (intro w1 hw1; have hcx := Low.cells hw1; simp only [Oper.quietAt]; go_simp; first | done | (first | fail) | rfl | exact ⟨rfl, rfl⟩)); simp only [Act.put, List.setIfInBounds_toArray, List.set_cons_zero, List.set_cons_succ])); refine wpQuiet_nil ?_; intro w2 hw2)
  go_wp2
  go_ret2
  exact ⟨rfl, B3.trans (hw2.out.mono B3.size)⟩

set_option maxHeartbeats 800000 in
theorem rcost_no (m : Msn) (vw vh vr : Value) (i j : Int) (w : World) (hm : MsnAt w.heap.size w m vw vh vr) (hE : okL m i j = false) :
    Calls Try.prog 26 #[.agg (msnCells m vw vh vr), .int .i64 i, .int .i64 j] w fun e w' => e = .returned (.tuple #[.int .i64 0, .int .i64 0, .int .i64 1]) ∧ Below w.heap.size w w' := by
  unfold okL at hE
  have hv := Lib.hid (rValid31_any m vw vh vr (w.alloc (.cells (msnCells m vw vh vr) 26)) ((hm.below ((Below.refl _ _).alloc (Nat.le_refl _) _)).mono (by simp)))
  have hix := fun i w1 hw => rindex34_any m vw vh vr i w1 hw
  have hixH := Lib.hid hix
  have H0 := Has.new w (msnCells m vw vh vr) 26
  have H0' := Lib.hid H0
  have hmH := Lib.hid hm
  clear H0 hm hix
  unfold msnCells at *
  cases h : validB m
  · rw [h] at hv
    have h' := Lib.hid h
    clear h hE
    go_enter Try.func26, Try.ntmps26
    go_wp2_with (go_at_call 20; refine (hv.out).mono ?_; rintro e w1 ⟨rfl, hb1⟩; obtain ⟨hc1, hf1⟩ := bcell hb1; have hz1 := hb1.size; try simp at hz1)
    go_ret3
    exact ⟨rfl, by repeat (first | exact Below.refl _ _ | assumption | apply Below.drew | refine Below.setCell ?_ (by first | omega | (simp; done) | (simp; omega)) _ | refine Below.alloc ?_ (by first | omega | (simp; done) | (simp; omega)) _ | refine Below.call (by assumption) ?_ (by first | omega | (simp; done) | (simp; omega)))⟩
  · rw [h] at hv hE
    have h' := Lib.hid h
    clear h
    go_enter Try.func26, Try.ntmps26
    go_wp2_with fail
    refine hv.out.mono ?_
    rintro e w1 ⟨rfl, hb1⟩
    have H1 := H0'.out.below (hb1.mono (by simp) : Below (w.heap.size + 1) _ w1) (by omega)
    have B1 : Below w.heap.size w w1 := ((Below.refl _ w).alloc (Nat.le_refl _) _).trans (hb1.mono (by simp))
    have hW1 := hmH.out.1.below B1
    have hw1 := Lib.hid (hW1.mono B1.size)
    obtain ⟨c0, c1, c2, c3, c4, c5, c6, c7, c8, c9, c10⟩ := msn_cells (m := m) (vw := vw) (vh := vh) (vr := vr) H1
    have z1 := H1.lt
    have H1' := Lib.hid H1
    clear hb1 H1 hW1
    cases hi : ixB m i
    · have hixi := hixH.out i w1 hw1.out
      rw [hi] at hixi
      have hix1 := Lib.hid hixi
      clear hixi hE hi
      go_wp2_with fail
      refine hix1.out.mono ?_
      rintro e w2 ⟨rfl, hb2⟩
      go_wp2
      go_ret3
      exact ⟨rfl, by repeat (first | exact Below.refl _ _ | assumption | apply Below.drew | refine Below.setCell ?_ (by first | omega | (simp; done) | (simp; omega)) _ | refine Below.alloc ?_ (by first | omega | (simp; done) | (simp; omega)) _ | refine Below.call (by assumption) ?_ (by first | omega | (simp; done) | (simp; omega)))⟩
    · rw [hi] at hE
      have hj : ixB m j = false := by simpa using hE
      have hixi := hixH.out i w1 hw1.out
      rw [hi] at hixi
      have hix1 := Lib.hid hixi
      clear hixi hE hi
      go_wp2_with fail
      refine hix1.out.mono ?_
      rintro e w2 ⟨rfl, hb2⟩
      have H2 := H1'.out.below hb2 z1
      have B2 := B1.trans (hb2.mono (by omega))
      have hixj := hixH.out j w2 ((hmH.out.1.below B2).mono B2.size)
      rw [hj] at hixj
      have hix2 := Lib.hid hixj
      obtain ⟨c0, c1, c2, c3, c4, c5, c6, c7, c8, c9, c10⟩ := msn_cells (m := m) (vw := vw) (vh := vh) (vr := vr) H2
      clear hixj hb2 H2 hj
      go_wp2_with fail
      refine hix2.out.mono ?_
      rintro e w3 ⟨rfl, hb3⟩
      go_wp2
      go_ret3
      exact ⟨rfl, B2.trans (hb3.mono B2.size)⟩


set_option maxRecDepth 4000 in
set_option maxHeartbeats 1600000 in
theorem rcost_yes (m : Msn) (vw vh vr : Value) (i j : Nat) (w : World) (hm : MsnAt w.heap.size w m vw vh vr) (hV : validB m = true) (hi : i < m.ways.length) (hj : j < m.ways.length) :
    Calls Try.prog 26 #[.agg (msnCells m vw vh vr), .int .i64 i, .int .i64 j] w fun e w' => e = .returned (.tuple #[.int .i64 (tLeg m i j), .int .i64 (eLeg m i j), .int .i64 0]) ∧ Below w.heap.size w w' := by
  have hv := rValid31_any m vw vh vr (w.alloc (.cells (msnCells m vw vh vr) 26)) ((hm.below ((Below.refl _ _).alloc (Nat.le_refl _) _)).mono (by simp))
  rw [hV] at hv
  have hv := Lib.hid hv
  have hix := fun (k : Nat) (hk : k < m.ways.length) w1 hw => rindex34_any m vw vh vr k w1 hw
  have hixH := Lib.hid hix
  have hbt := fun w1 h => rbetween_any m vw vh vr i j w1 h hV hi hj
  have hbt := Lib.hid hbt
  have H0 := Has.new w (msnCells m vw vh vr) 26
  have H0' := Lib.hid H0
  have HM := Lib.hid hm
  generalize tLeg m i j = t at *
  generalize eLeg m i j = e0 at *
  clear H0 hm hix hV
  unfold msnCells at *
  go_enter Try.func26, Try.ntmps26
  go_wp2_with fail; refine (hv.out).mono ?_; rintro e w1 ⟨rfl, hb1⟩; have B1 : Below w.heap.size w w1 := ((Below.refl _ w).alloc (Nat.le_refl _) _).trans (hb1.mono (by simp)); have H1 := H0'.out.below (hb1.mono (by simp) : Below (w.heap.size + 1) _ w1) (by omega); have z1 := H1.lt; have H1' := Lib.hid H1; obtain ⟨c0, c1, c2, c3, c4, c5, c6, c7, c8, c9, c10⟩ := msn_cells (m := m) (vw := vw) (vh := vh) (vr := vr) H1; clear hb1 H1
  have hix1 := hixH.out i hi w1 ((HM.out.1.below B1).mono B1.size)
  rw [ixB_mk hi] at hix1
  have hix1 := Lib.hid hix1
  go_wp2_with fail; refine (hix1.out).mono ?_; rintro e w2 ⟨rfl, hb2⟩; have B2 := B1.trans (hb2.mono B1.size); have H2 := H1'.out.below hb2 z1; have z2 := H2.lt; have H2' := Lib.hid H2; obtain ⟨c0, c1, c2, c3, c4, c5, c6, c7, c8, c9, c10⟩ := msn_cells (m := m) (vw := vw) (vh := vh) (vr := vr) H2; clear hb2 H2
  have hix2 := hixH.out j hj w2 ((HM.out.1.below B2).mono B2.size)
  rw [ixB_mk hj] at hix2
  have hix2 := Lib.hid hix2
  go_wp2_with fail; refine (hix2.out).mono ?_; rintro e w3 ⟨rfl, hb3⟩; have B3 := B2.trans (hb3.mono B2.size); have H3 := H2'.out.below hb3 z2; have z3 := H3.lt; have H3' := Lib.hid H3; obtain ⟨c0, c1, c2, c3, c4, c5, c6, c7, c8, c9, c10⟩ := msn_cells (m := m) (vw := vw) (vh := vh) (vr := vr) H3; clear hb3 H3
  go_wp2_with fail; refine (hbt.out _ ((HM.out.below B3).mono B3.size)).mono ?_; rintro e w4 ⟨rfl, hb4⟩; have B4 := B3.trans (hb4.mono B3.size); have H4 := H3'.out.below hb4 z3; have z4 := H4.lt; have H4' := Lib.hid H4; obtain ⟨c0, c1, c2, c3, c4, c5, c6, c7, c8, c9, c10⟩ := msn_cells (m := m) (vw := vw) (vh := vh) (vr := vr) H4; clear hb4 H4
  go_wp2
  go_ret3
  exact ⟨rfl, B4⟩

theorem rcost_all (m : Msn) (vw vh vr : Value) (i j : Int) (w : World) (hm : MsnAt w.heap.size w m vw vh vr) :
    Calls Try.prog 26 #[.agg (msnCells m vw vh vr), .int .i64 i, .int .i64 j] w fun e w' => e = .returned (.tuple #[.int .i64 (pT m i j), .int .i64 (pE m i j), .int .i64 (legE m i j)]) ∧ Below w.heap.size w w' := by
  cases h : okL m i j
  · simp only [pT, pE, legE, h, Bool.false_eq_true, if_false]
    exact rcost_no m vw vh vr i j w hm h
  · simp only [pT, pE, legE, h, if_true]
    obtain ⟨a, b, rfl, rfl, ha, hb, hv⟩ := okL_true h
    exact rcost_yes m vw vh vr a b w hm hv ha hb

set_option maxRecDepth 8000 in
set_option maxHeartbeats 1600000 in
theorem rback_any (m : Msn) (vw vh vr : Value) (a : Nat) (w : World) (hm : MsnAt w.heap.size w m vw vh vr) (hV : validB m = true) (ha : a < m.ways.length) :
    Calls Try.prog 71 #[.agg (msnCells m vw vh vr), .int .i64 a] w fun e w' => e = .returned (.tuple #[.int .i64 (homeT m a (dep m a)), .int .i64 (homeE m a (dep m a))]) ∧ Below w.heap.size w w' := by
  have V := (validB_iff m).1 hV
  have hd := dep_le V.ways ha
  have n41 := V.n41
  obtain ⟨n, hn⟩ : ∃ n, dep m a = n := ⟨_, rfl⟩
  rw [hn] at hd ⊢
  obtain ⟨b, o, cap, rfl, hb, hc2⟩ := hm.1.cells (by omega)
  have HM := Lib.hid hm
  have HC := Lib.hid hc2
  have HV := Lib.hid (And.intro hV (And.intro V hn))
  have H0 := Has.new w (msnCells m (.slice (some ⟨b, o, none⟩) m.ways.length (m.ways.length + cap)) vh vr) 26
  have H0' := Lib.hid H0
  clear hV V hn H0 hm hc2
  unfold msnCells at *
  go_enter Try.func71, Try.ntmps71
  go_wp2
  go_loopw [1, 6, 7] (fun i s1 s2 wr => ∃ j : Nat, j ≤ n ∧ i = .int .i64 (itB m a j) ∧ s1 = .int .i64 (homeT m a j) ∧ s2 = .int .i64 (homeE m a j) ∧ Has wr w.heap.size (msnCells m (.slice (some ⟨b, o, none⟩) m.ways.length (m.ways.length + cap)) vh vr) 26 ∧ Below w.heap.size w wr) (fun i _ _ _ => (intOf i).toNat)
  case atStart => exact ⟨0, by omega, rfl, rfl, rfl, H0'.out, (Below.refl _ _).alloc (Nat.le_refl _) _⟩
  case round =>
    obtain ⟨j, hj, rfl, rfl, rfl, H, hB⟩ := hrel
    obtain ⟨hV, V, hn⟩ := HV.out
    have hzr := hB.size
    have hlt1 := H.lt
    have tb := homeTE_bd V ha j (by omega)
    have x1 := itB_lt V.ways ha (j := j) (by omega)
    by_cases hz : itB m a j = 0
    · have hjd := dep_of_zero V.ways ha (by omega) hz
      have hjn : j = n := by omega
      have HR := Lib.hid (And.intro (congrArg (homeT m a) hjn) (congrArg (homeE m a) hjn))
      generalize homeT m a j = t0 at *
      generalize homeE m a j = e0 at *
      rw [hz]
      clear hV V hn hjd hjn hz x1 H
      go_wp2
      go_ret2
      exact ⟨by rw [← HR.out.1, ← HR.out.2]; rfl, hB⟩
    · have hpos : 0 < itB m a j := by omega
      have hjd : j < n := by
        rcases Nat.lt_or_ge j n with h | h
        · exact h
        · exfalso
          have : j = dep m a := by omega
          rw [this] at hz
          exact hz (dep_end V.ways ha)
      have hdec := itB_dec V.ways ha (j := j) (by omega)
      have hbk := way_back V.ways x1
      have x2 := itB_lt V.ways ha (j := j + 1) (by omega)
      obtain ⟨q, hq⟩ : ∃ q : Nat, (wy m.ways (itB m a j)).back = q := ⟨_, (Int.toNat_of_nonneg hbk.1).symm⟩
      have hq2 : itB m a (j + 1) = q := by show (wy m.ways (itB m a j)).back.toNat = q; rw [hq]; rfl
      have hs : homeT m a (j + 1) = homeT m a j + tLeg m (itB m a j) (itB m a (j + 1)) ∧ homeE m a (j + 1) = homeE m a j + eLeg m (itB m a j) (itB m a (j + 1)) := ⟨rfl, rfl⟩
      rw [hq2] at hs hdec x2
      have tb2 := tLeg_bd V.leg V.ways x1 x2
      have eb2 := eLeg_bd V x1 x2
      obtain ⟨_, _, _, _, p4⟩ := HC.out _ x1
      rw [hq] at p4
      have hbt := fun w1 h => rbetween_any m (.slice (some ⟨b, o, none⟩) m.ways.length (m.ways.length + cap)) vh vr (itB m a j) q w1 h hV x1 x2
      have l4 := Low.fact ((hB.cell (p := ⟨b, o + itB m a j * 5 + 4, none⟩) hb).trans p4)
      have p4' := (hB.cell (p := ⟨b, o + itB m a j * 5 + 4, none⟩) hb).trans p4
      obtain ⟨c0, c1, c2, c3, c4, c5, c6, c7, c8, c9, c10⟩ := msn_low H
      have HS := Lib.hid (And.intro hs hq2)
      generalize hp : itB m a j = pp at *
      generalize homeT m a j = t0 at *
      generalize homeE m a j = e0 at *
      generalize tLeg m pp q = t1 at *
      generalize eLeg m pp q = e1 at *
      unfold msnCells at hbt
      have hbt' := Lib.hid (fun w1 (h : Low wr w1) => hbt w1 ((HM.out.below (hB.trans (h.out.mono hB.size))).mono (hB.trans (h.out.mono hB.size)).size))
      have HH := Lib.hid H
      have HP4 := Lib.hid p4'
      have hil : (pp : Int) < m.ways.length := by omega
      have hwq : IntKind.i64.wrap (t0 + t1) = t0 + t1 := IntWalk.i64_in _ (by omega)
      have hwe : IntKind.i64.wrap (e0 + e1) = e0 + e1 := IntWalk.i64_in _ (by omega)
      clear hV V hn hz hbk hq hq2 hs p4 p4' hbt H hp
      go_wp2
      (refine wp_region_low (by kernel_rfl) (by kernel_rfl) ?_; (iterate 14 (apply quiet_want; (case hw => rfl); (case hval => (intro w1 hw1; have hcx := Low.cells hw1; simp only [Oper.quietAt]; go_simp; first | done | (first | (go_at_call 65; with_reducible exact (Low.calls hw1 (hbt'.out _ hw1)))) | rfl | exact ⟨rfl, rfl⟩)); simp only [Act.put, List.setIfInBounds_toArray, List.set_cons_zero, List.set_cons_succ])); refine wpQuiet_nil ?_; intro w2 hw2)
      have H2 := HH.out.below hw2.out hlt1
      have B2 := hB.trans (hw2.out.mono hB.size)
      have d4 := (hw2.cell HP4.out)
      have e4 : w2.cell? ⟨w.heap.size, 0, none⟩ = some (.slice (some ⟨b, o, none⟩) m.ways.length (m.ways.length + cap)) := H2.cell (i := 0) rfl
      have HH2 := Lib.hid (And.intro H2 B2)
      clear c0 c1 c2 c3 c4 c5 c6 c7 c8 c9 c10 l4 H2 B2 hw2
      go_wp2
      go_roundw
      case rel => exact ⟨j + 1, by omega, by rw [HS.out.2], by rw [HS.out.1.1], by rw [HS.out.1.2], HH2.out.1, HH2.out.2⟩
      case measure => simp [intOf]; omega

set_option maxHeartbeats 800000 in
theorem rhome34_no (m : Msn) (vw vh vr : Value) (i : Int) (w : World) (hm : MsnAt w.heap.size w m vw vh vr) (hE : okR m i = false) :
    Calls Try.prog 30 #[.agg (msnCells m vw vh vr), .int .i64 i] w fun e w' => e = .returned (.tuple #[.int .i64 0, .int .i64 0, .int .i64 1]) ∧ Below w.heap.size w w' := by
  unfold okR at hE
  have hv := Lib.hid (rValid31_any m vw vh vr (w.alloc (.cells (msnCells m vw vh vr) 26)) ((hm.below ((Below.refl _ _).alloc (Nat.le_refl _) _)).mono (by simp)))
  have hix := fun w1 hw => rindex34_any m vw vh vr i w1 hw
  have H0 := Has.new w (msnCells m vw vh vr) 26
  have H0' := Lib.hid H0
  have HM := Lib.hid hm
  cases h : validB m
  · rw [h] at hv
    have h' := Lib.hid h
    have hix := Lib.hid hix
    clear h hE H0 hm
    unfold msnCells at *
    go_enter Try.func30, Try.ntmps30
    go_wp2_with fail; refine (hv.out).mono ?_; rintro e w1 ⟨rfl, hb1⟩; have B1 : Below w.heap.size w w1 := ((Below.refl _ w).alloc (Nat.le_refl _) _).trans (hb1.mono (by simp)); have H1 := H0'.out.below (hb1.mono (by simp) : Below (w.heap.size + 1) _ w1) (by omega); have z1 := H1.lt; have H1' := Lib.hid H1; obtain ⟨c0, c1, c2, c3, c4, c5, c6, c7, c8, c9, c10⟩ := msn_cells (m := m) (vw := vw) (vh := vh) (vr := vr) H1; clear hb1 H1
    go_wp2
    go_ret3
    exact ⟨rfl, B1⟩
  · rw [h] at hv hE
    have hi : ixB m i = false := by simpa using hE
    rw [hi] at hix
    have h' := Lib.hid h
    have hix := Lib.hid hix
    clear h hE hi H0 hm
    unfold msnCells at *
    go_enter Try.func30, Try.ntmps30
    go_wp2_with fail; refine (hv.out).mono ?_; rintro e w1 ⟨rfl, hb1⟩; have B1 : Below w.heap.size w w1 := ((Below.refl _ w).alloc (Nat.le_refl _) _).trans (hb1.mono (by simp)); have H1 := H0'.out.below (hb1.mono (by simp) : Below (w.heap.size + 1) _ w1) (by omega); have z1 := H1.lt; have H1' := Lib.hid H1; obtain ⟨c0, c1, c2, c3, c4, c5, c6, c7, c8, c9, c10⟩ := msn_cells (m := m) (vw := vw) (vh := vh) (vr := vr) H1; clear hb1 H1
    go_wp2_with fail; refine (hix.out _ ((HM.out.1.below B1).mono B1.size)).mono ?_; rintro e w2 ⟨rfl, hb2⟩; have B2 := B1.trans (hb2.mono B1.size); have H2 := H1'.out.below hb2 z1; have z2 := H2.lt; have H2' := Lib.hid H2; obtain ⟨c0, c1, c2, c3, c4, c5, c6, c7, c8, c9, c10⟩ := msn_cells (m := m) (vw := vw) (vh := vh) (vr := vr) H2; clear hb2 H2
    go_wp2
    go_ret3
    exact ⟨rfl, B2⟩

set_option maxHeartbeats 800000 in
theorem rhome34_yes (m : Msn) (vw vh vr : Value) (a : Nat) (w : World) (hm : MsnAt w.heap.size w m vw vh vr) (hV : validB m = true) (ha : a < m.ways.length) :
    Calls Try.prog 30 #[.agg (msnCells m vw vh vr), .int .i64 a] w fun e w' => e = .returned (.tuple #[.int .i64 (homeT m a (dep m a)), .int .i64 (homeE m a (dep m a)), .int .i64 0]) ∧ Below w.heap.size w w' := by
  have hv := rValid31_any m vw vh vr (w.alloc (.cells (msnCells m vw vh vr) 26)) ((hm.below ((Below.refl _ _).alloc (Nat.le_refl _) _)).mono (by simp))
  rw [hV] at hv
  have hv := Lib.hid hv
  have hix := fun w1 hw => rindex34_any m vw vh vr a w1 hw
  rw [ixB_mk ha] at hix
  have hix := Lib.hid hix
  have hbt := fun w1 h => rback_any m vw vh vr a w1 h hV ha
  have hbt := Lib.hid hbt
  have H0 := Has.new w (msnCells m vw vh vr) 26
  have H0' := Lib.hid H0
  have HM := Lib.hid hm
  generalize homeT m a (dep m a) = t at *
  generalize homeE m a (dep m a) = e0 at *
  clear H0 hm hV
  unfold msnCells at *
  go_enter Try.func30, Try.ntmps30
  go_wp2_with fail; refine (hv.out).mono ?_; rintro e w1 ⟨rfl, hb1⟩; have B1 : Below w.heap.size w w1 := ((Below.refl _ w).alloc (Nat.le_refl _) _).trans (hb1.mono (by simp)); have H1 := H0'.out.below (hb1.mono (by simp) : Below (w.heap.size + 1) _ w1) (by omega); have z1 := H1.lt; have H1' := Lib.hid H1; obtain ⟨c0, c1, c2, c3, c4, c5, c6, c7, c8, c9, c10⟩ := msn_cells (m := m) (vw := vw) (vh := vh) (vr := vr) H1; clear hb1 H1
  go_wp2_with fail; refine (hix.out _ ((HM.out.1.below B1).mono B1.size)).mono ?_; rintro e w2 ⟨rfl, hb2⟩; have B2 := B1.trans (hb2.mono B1.size); have H2 := H1'.out.below hb2 z1; have z2 := H2.lt; have H2' := Lib.hid H2; obtain ⟨c0, c1, c2, c3, c4, c5, c6, c7, c8, c9, c10⟩ := msn_cells (m := m) (vw := vw) (vh := vh) (vr := vr) H2; clear hb2 H2
  go_wp2_with fail; refine (hbt.out _ ((HM.out.below B2).mono B2.size)).mono ?_; rintro e w3 ⟨rfl, hb3⟩; have B3 := B2.trans (hb3.mono B2.size); have H3 := H2'.out.below hb3 z2; have z3 := H3.lt; have H3' := Lib.hid H3; obtain ⟨c0, c1, c2, c3, c4, c5, c6, c7, c8, c9, c10⟩ := msn_cells (m := m) (vw := vw) (vh := vh) (vr := vr) H3; clear hb3 H3
  go_wp2
  go_ret3
  exact ⟨rfl, B3⟩

theorem rhome34_all (m : Msn) (vw vh vr : Value) (i : Int) (w : World) (hm : MsnAt w.heap.size w m vw vh vr) :
    Calls Try.prog 30 #[.agg (msnCells m vw vh vr), .int .i64 i] w fun e w' => e = .returned (.tuple #[.int .i64 (hT m i), .int .i64 (hE m i), .int .i64 (routeE m i)]) ∧ Below w.heap.size w w' := by
  cases h : okR m i
  · simp only [hT, Go.Proofs.Ytjnjmpakmgmdbaa.hE, routeE, h, Bool.false_eq_true, if_false]
    exact rhome34_no m vw vh vr i w hm h
  · simp only [hT, Go.Proofs.Ytjnjmpakmgmdbaa.hE, routeE, h, if_true]
    obtain ⟨a, rfl, ha, hv⟩ := okR_true h
    exact rhome34_yes m vw vh vr a w hm hv ha
end Go.Proofs.Ytjnjmpakmgmdbaa
