/- The reference's index, Leg, Home, Route. | The reference's Route, SameInts, Few. -/
import Derived.Test.YtjnjmpakmgmdbaaRWay
import Derived.Test.YtjnjmpakmgmdbaaMRoute
namespace Go.Proofs.Ytjnjmpakmgmdbaa
open Go.RowKit
attribute [local irreducible] wpQuiet

theorem rindex_any (m : Msn) (vw vh vr : Value) (i : Int) (w : World) (hw : WaysAt w.heap.size w vw m.ways) :
    Calls Try.prog 35 #[.agg (msnCells m vw vh vr), .int .i64 i] w fun e w' => e = .returned (.bool (ixB m i)) ∧ Below w.heap.size w w' := by
  obtain ⟨_, a, cap, rfl, _⟩ := hw
  unfold msnCells
  cases hi : ixB m i
  · rcases ixB_false hi with h1 | ⟨h1, h2⟩
    · have d1 : decide (0 ≤ i) = false := by simp; omega
      clear hi h1
      go_enter Try.func35, Try.ntmps35
      go_wp2
      go_ret
      exact ⟨rfl, by repeat (first | exact Below.refl _ _ | assumption | apply Below.drew | refine Below.setCell ?_ (by first | omega | (simp; done) | (simp; omega)) _ | refine Below.alloc ?_ (by first | omega | (simp; done) | (simp; omega)) _ | refine Below.call (by assumption) ?_ (by first | omega | (simp; done) | (simp; omega)))⟩
    · have d1 : decide (0 ≤ i) = true := by simp; omega
      have d2 : decide (i < (m.ways.length : Int)) = false := by simp; omega
      clear hi h1 h2
      go_enter Try.func35, Try.ntmps35
      go_wp2
      go_ret
      exact ⟨rfl, by repeat (first | exact Below.refl _ _ | assumption | apply Below.drew | refine Below.setCell ?_ (by first | omega | (simp; done) | (simp; omega)) _ | refine Below.alloc ?_ (by first | omega | (simp; done) | (simp; omega)) _ | refine Below.call (by assumption) ?_ (by first | omega | (simp; done) | (simp; omega)))⟩
  · obtain ⟨k, rfl, hk⟩ := ixB_true hi
    clear hi
    go_enter Try.func35, Try.ntmps35
    go_wp2
    go_ret
    exact ⟨rfl, by repeat (first | exact Below.refl _ _ | assumption | apply Below.drew | refine Below.setCell ?_ (by first | omega | (simp; done) | (simp; omega)) _ | refine Below.alloc ?_ (by first | omega | (simp; done) | (simp; omega)) _ | refine Below.call (by assumption) ?_ (by first | omega | (simp; done) | (simp; omega)))⟩

set_option maxHeartbeats 800000 in
theorem rleg_no (m : Msn) (vw vh vr : Value) (i j : Int) (w : World) (hm : MsnAt w.heap.size w m vw vh vr) (hE : (validB m && ixB m i && ixB m j) = false) :
    Calls Try.prog 18 #[.agg (msnCells m vw vh vr), .int .i64 i, .int .i64 j] w fun e w' => e = .returned (.tuple #[.int .i64 0, .int .i64 0, .int .i64 0, .int .i64 1]) ∧ Below w.heap.size w w' := by
  have hv := Lib.hid (rValid31_any m vw vh vr (w.alloc (.cells (msnCells m vw vh vr) 26)) ((hm.below ((Below.refl _ _).alloc (Nat.le_refl _) _)).mono (by simp)))
  have hix := fun i w1 hw => rindex_any m vw vh vr i w1 hw
  have hixH := Lib.hid hix
  have H0 := Has.new w (msnCells m vw vh vr) 26
  have H0' := Lib.hid H0
  have hmH := Lib.hid hm
  clear H0 hm hix
  unfold msnCells at *
  cases h : validB m
  · rw [h] at hv
    have h' := Lib.hid h
    clear h hE
    go_enter Try.func18, Try.ntmps18
    go_wp2_with (go_at_call 20; refine (hv.out).mono ?_; rintro e w1 ⟨rfl, hb1⟩; obtain ⟨hc1, hf1⟩ := bcell hb1; have hz1 := hb1.size; try simp at hz1)
    refine bodyPost_ret (v := .tuple #[.int .i64 0, .int .i64 0, .int .i64 0, .int .i64 1]) (by simp [results, Try.f18, go_sem]) rfl ⟨rfl, by repeat (first | exact Below.refl _ _ | assumption | apply Below.drew | refine Below.setCell ?_ (by first | omega | (simp; done) | (simp; omega)) _ | refine Below.alloc ?_ (by first | omega | (simp; done) | (simp; omega)) _ | refine Below.call (by assumption) ?_ (by first | omega | (simp; done) | (simp; omega)))⟩
  · rw [h] at hv hE
    have h' := Lib.hid h
    clear h
    go_enter Try.func18, Try.ntmps18
    go_wp2_with fail
    refine hv.out.mono ?_
    rintro e w1 ⟨rfl, hb1⟩
    have H1 := H0'.out.below (hb1.mono (by simp) : Below (w.heap.size + 1) _ w1) (by omega)
    have B1 : Below w.heap.size w w1 := ((Below.refl _ w).alloc (Nat.le_refl _) _).trans (hb1.mono (by simp))
    have hW1 := hmH.out.1.below B1
    have hw1 := Lib.hid (hW1.mono B1.size)
    obtain ⟨c0, c1, c2, c3, c4, c5, c6, c7, c8, c9, c10⟩ := msn_cells (m := m) (vw := vw) (vh := vh) (vr := vr) H1
    have z1 := H1.lt
    have H1' := Lib.hid H1
    clear hb1 H1 hW1
    cases hi : ixB m i
    · have hixi := hixH.out i w1 hw1.out
      rw [hi] at hixi
      have hix1 := Lib.hid hixi
      clear hixi hE hi
      go_wp2_with fail
      refine hix1.out.mono ?_
      rintro e w2 ⟨rfl, hb2⟩
      go_wp2
      refine bodyPost_ret (v := .tuple #[.int .i64 0, .int .i64 0, .int .i64 0, .int .i64 1]) (by simp [results, Try.f18, go_sem]) rfl ⟨rfl, by repeat (first | exact Below.refl _ _ | assumption | apply Below.drew | refine Below.setCell ?_ (by first | omega | (simp; done) | (simp; omega)) _ | refine Below.alloc ?_ (by first | omega | (simp; done) | (simp; omega)) _ | refine Below.call (by assumption) ?_ (by first | omega | (simp; done) | (simp; omega)))⟩
    · rw [hi] at hE
      have hj : ixB m j = false := by simpa using hE
      have hixi := hixH.out i w1 hw1.out
      rw [hi] at hixi
      have hix1 := Lib.hid hixi
      clear hixi hE hi
      go_wp2_with fail
      refine hix1.out.mono ?_
      rintro e w2 ⟨rfl, hb2⟩
      have H2 := H1'.out.below hb2 z1
      have B2 := B1.trans (hb2.mono (by omega))
      have hixj := hixH.out j w2 ((hmH.out.1.below B2).mono B2.size)
      rw [hj] at hixj
      have hix2 := Lib.hid hixj
      obtain ⟨c0, c1, c2, c3, c4, c5, c6, c7, c8, c9, c10⟩ := msn_cells (m := m) (vw := vw) (vh := vh) (vr := vr) H2
      clear hixj hb2 H2 hj
      go_wp2_with fail
      refine hix2.out.mono ?_
      rintro e w3 ⟨rfl, hb3⟩
      go_wp2
      refine bodyPost_ret (v := .tuple #[.int .i64 0, .int .i64 0, .int .i64 0, .int .i64 1]) (by simp [results, Try.f18, go_sem]) rfl ⟨rfl, B2.trans (hb3.mono B2.size)⟩

set_option maxRecDepth 4000 in
set_option maxHeartbeats 1600000 in
theorem rleg_yes (m : Msn) (vw vh vr : Value) (i j : Nat) (w : World) (hm : MsnAt w.heap.size w m vw vh vr) (hV : validB m = true) (hi : i < m.ways.length) (hj : j < m.ways.length) :
    Calls Try.prog 18 #[.agg (msnCells m vw vh vr), .int .i64 i, .int .i64 j] w fun e w' => e = .returned (.tuple #[.int .i64 (dLeg m i j), .int .i64 (tLeg m i j), .int .i64 (gLeg m i j), .int .i64 0]) ∧ Below w.heap.size w w' := by
  have hv := rValid31_any m vw vh vr (w.alloc (.cells (msnCells m vw vh vr) 26)) ((hm.below ((Below.refl _ _).alloc (Nat.le_refl _) _)).mono (by simp))
  rw [hV] at hv
  have hv := Lib.hid hv
  have V := (validB_iff m).1 hV
  obtain ⟨b, o, cap, rfl, hb, hc2⟩ := hm.1.cells (by omega)
  have hix := fun (k : Nat) (hk : k < m.ways.length) w1 hw => rindex_any m (.slice (some ⟨b, o, none⟩) m.ways.length (m.ways.length + cap)) vh vr k w1 hw
  have hixH := Lib.hid hix
  have H0 := Has.new w (msnCells m (.slice (some ⟨b, o, none⟩) m.ways.length (m.ways.length + cap)) vh vr) 26
  have H0' := Lib.hid H0
  have hmH := Lib.hid hm
  obtain ⟨u0, u1, _, _, _⟩ := hc2 i hi
  obtain ⟨v0, v1, _, _, _⟩ := hc2 j hj
  have hu := Lib.hid (And.intro u0 (And.intro u1 (And.intro v0 v1)))
  obtain ⟨y1, y2, y3, y4⟩ := way_near V.ways hi
  obtain ⟨x1, x2, x3, x4⟩ := way_near V.ways hj
  obtain ⟨m1, m2, m3, m4, m5, m6⟩ := V.leg
  have d1 := dLeg_bd V.ways hi hj
  have hl := fun w1 => length_any (wy m.ways i).x (wy m.ways i).y (wy m.ways j).x (wy m.ways j).y w1 y1 y2 y3 y4 x1 x2 x3 x4
  have ht := fun w1 => rlasts_any m (.slice (some ⟨b, o, none⟩) m.ways.length (m.ways.length + cap)) vh vr (dLeg m i j) w1 d1.1 d1.2 m1 m2
  have hg := fun w1 => rgrowth_any m (.slice (some ⟨b, o, none⟩) m.ways.length (m.ways.length + cap)) vh vr (dLeg m i j) w1 d1.1 d1.2 m1 m2 m3 m4 m5 m6
  change ∀ w1, Calls _ _ _ _ fun e w' => e = .returned (.int .i64 (dLeg m i j)) ∧ _ at hl
  change ∀ w1, Calls _ _ _ _ fun e w' => e = .returned (.int .i64 (tLeg m i j)) ∧ _ at ht
  change ∀ w1, Calls _ _ _ _ fun e w' => e = .returned (.int .i64 (gLeg m i j)) ∧ _ at hg
  generalize dLeg m i j = d at *
  generalize tLeg m i j = t at *
  generalize gLeg m i j = g at *
  have hl' := Lib.hid hl
  have ht' := Lib.hid ht
  have hg' := Lib.hid hg
  have hi' : (i : Int) < m.ways.length := by omega
  have hj' : (j : Int) < m.ways.length := by omega
  clear H0 hm hix hV V hc2 u0 u1 v0 v1 hl ht hg y1 y2 y3 y4 x1 x2 x3 x4 m1 m2 m3 m4 m5 m6 d1
  unfold msnCells at *
  go_enter Try.func18, Try.ntmps18
  go_wp2_with fail
  refine hv.out.mono ?_
  rintro e w1 ⟨rfl, hb1⟩
  have H1 := H0'.out.below (hb1.mono (by simp) : Below (w.heap.size + 1) _ w1) (by omega)
  have B1 : Below w.heap.size w w1 := ((Below.refl _ w).alloc (Nat.le_refl _) _).trans (hb1.mono (by simp))
  have hix1 := hixH.out i hi w1 ((hmH.out.1.below B1).mono B1.size)
  rw [ixB_mk hi] at hix1
  have hix1 := Lib.hid hix1
  obtain ⟨c0, c1, c2, c3, c4, c5, c6, c7, c8, c9, c10⟩ := msn_cells (m := m) (vw := .slice (some ⟨b, o, none⟩) m.ways.length (m.ways.length + cap)) (vh := vh) (vr := vr) H1
  have z1 := H1.lt
  have H1' := Lib.hid H1
  clear hb1 H1
  go_wp2_with fail
  refine hix1.out.mono ?_
  rintro e w2 ⟨rfl, hb2⟩
  have H2 := H1'.out.below hb2 z1
  have B2 := B1.trans (hb2.mono (by omega))
  have hix2 := hixH.out j hj w2 ((hmH.out.1.below B2).mono B2.size)
  rw [ixB_mk hj] at hix2
  have hix2 := Lib.hid hix2
  obtain ⟨c0, c1, c2, c3, c4, c5, c6, c7, c8, c9, c10⟩ := msn_cells (m := m) (vw := .slice (some ⟨b, o, none⟩) m.ways.length (m.ways.length + cap)) (vh := vh) (vr := vr) H2
  have z2 := H2.lt
  have H2' := Lib.hid H2
  clear hb2 H2
  go_wp2_with fail
  refine hix2.out.mono ?_
  rintro e w3 ⟨rfl, hb3⟩
  have H3 := H2'.out.below hb3 z2
  have B3 := B2.trans (hb3.mono (by omega))
  obtain ⟨c0, c1, c2, c3, c4, c5, c6, c7, c8, c9, c10⟩ := msn_low (m := m) (vw := .slice (some ⟨b, o, none⟩) m.ways.length (m.ways.length + cap)) (vh := vh) (vr := vr) H3
  obtain ⟨u0, u1, v0, v1⟩ := hu.out
  have lu0 := Low.fact ((B3.cell (p := ⟨b, o + i * 5, none⟩) hb).trans u0)
  have lu1 := Low.fact ((B3.cell (p := ⟨b, o + i * 5 + 1, none⟩) hb).trans u1)
  have lv0 := Low.fact ((B3.cell (p := ⟨b, o + j * 5, none⟩) hb).trans v0)
  have lv1 := Low.fact ((B3.cell (p := ⟨b, o + j * 5 + 1, none⟩) hb).trans v1)
  have z3 := B3.size
  clear hb3 H3 u0 u1 v0 v1
  go_wp2
  (refine wp_region_low (by kernel_rfl) (by kernel_rfl) ?_; (iterate 14 (apply quiet_want; (case hw => rfl); (case hval => (intro w1 hw1; have hcx := Low.cells hw1; simp only [Oper.quietAt]; go_simp; first | done | (first | (go_at_call 36; with_reducible exact (Low.calls hw1 (hl'.out _)))) | rfl | exact ⟨rfl, rfl⟩)); simp only [Act.put, List.setIfInBounds_toArray, List.set_cons_zero, List.set_cons_succ])); refine wpQuiet_nil ?_; intro w2 hw2)
  obtain ⟨wa, rfl⟩ : ∃ wa, wa = w2 := ⟨_, rfl⟩
  have hwa := hw2
  clear hw2
  replace c0 := fun w1 (h : Low wa w1) => c0 w1 (Low.tr hwa h)
  replace c1 := fun w1 (h : Low wa w1) => c1 w1 (Low.tr hwa h)
  replace c2 := fun w1 (h : Low wa w1) => c2 w1 (Low.tr hwa h)
  replace c3 := fun w1 (h : Low wa w1) => c3 w1 (Low.tr hwa h)
  replace c4 := fun w1 (h : Low wa w1) => c4 w1 (Low.tr hwa h)
  replace c5 := fun w1 (h : Low wa w1) => c5 w1 (Low.tr hwa h)
  replace c6 := fun w1 (h : Low wa w1) => c6 w1 (Low.tr hwa h)
  replace c7 := fun w1 (h : Low wa w1) => c7 w1 (Low.tr hwa h)
  replace c8 := fun w1 (h : Low wa w1) => c8 w1 (Low.tr hwa h)
  replace c9 := fun w1 (h : Low wa w1) => c9 w1 (Low.tr hwa h)
  replace c10 := fun w1 (h : Low wa w1) => c10 w1 (Low.tr hwa h)
  go_wp2
  (refine wp_region_low (by kernel_rfl) (by kernel_rfl) ?_; (iterate 11 (apply quiet_want; (case hw => rfl); (case hval => (intro w1 hw1; have hcx := Low.cells hw1; simp only [Oper.quietAt]; go_simp; first | done | (first | (go_at_call 37; with_reducible exact (Low.calls hw1 (ht'.out _))) | (go_at_call 38; with_reducible exact (Low.calls hw1 (hg'.out _)))) | rfl | exact ⟨rfl, rfl⟩)); simp only [Act.put, List.setIfInBounds_toArray, List.set_cons_zero, List.set_cons_succ])); refine wpQuiet_nil ?_; intro w2 hw2)
  go_wp2
  refine bodyPost_ret (v := .tuple #[.int .i64 d, .int .i64 t, .int .i64 g, .int .i64 0]) (by simp [results, Try.f18, go_sem]) rfl ⟨rfl, ?_⟩
  exact B3.trans ((Low.tr hwa hw2).out.mono B3.size)

/-- a list is handed back -/
def ListQ (l : List Int) (w : World) (e : Ending) (w' : World) : Prop := ∃ v, e = .returned v ∧ IntsAt w'.heap.size w' v l ∧ Below w.heap.size w w'

set_option maxHeartbeats 800000 in
theorem rhome_any (m : Msn) (vw vh vr : Value) (k : Nat) (w : World) (hm : MsnAt w.heap.size w m vw vh vr) (hwb : waysB m.ways = true) (hk : k < m.ways.length) (h41 : m.ways.length ≤ 41) :
    Calls Try.prog 61 #[.agg (msnCells m vw vh vr), .int .i64 k] w (ListQ (intL (upto (itB m k) (dep m k + 1))) w) := by
  obtain ⟨b, o, cap, rfl, hb, hc2⟩ := hm.1.cells (by omega)
  have hcH := Lib.hid hc2
  have hwbH := Lib.hid hwb
  have hd := dep_le hwb hk
  have H0 := Has.new w (msnCells m (.slice (some ⟨b, o, none⟩) m.ways.length (m.ways.length + cap)) vh vr) 26
  have H0' := Lib.hid H0
  clear hc2 hwb hm H0
  obtain ⟨i0, hi, hz0', hz1', hz2'⟩ := info_parts intInfo
  unfold msnCells
  go_enter Try.func61, Try.ntmps61
  go_wp2
  go_loopw [1, 5] (fun i v wr => ∃ j : Nat, j ≤ dep m k ∧ i = .int .i64 (itB m k j) ∧ wr.ownsRow (w.heap.size + 1) 3 1 v (j + 1) ((intL (upto (itB m k) (j + 1))).map (Value.int .i64)) ∧ Has wr w.heap.size (msnCells m (.slice (some ⟨b, o, none⟩) m.ways.length (m.ways.length + cap)) vh vr) 26 ∧ Below w.heap.size w wr) (fun i _ _ => (intOf i).toNat)
  case atStart =>
    refine ⟨0, Nat.zero_le _, rfl, ⟨by simp [intL, upto], .inr ⟨w.heap.size + 1, 1, #[.int .i64 k], rfl, Nat.le_refl _, ?_, Nat.le_refl _, by unfold maxLen; omega, rfl, by simp [intL, upto, itB]⟩⟩, ?_, by repeat (first | exact Below.refl _ _ | assumption | apply Below.drew | refine Below.setCell ?_ (by first | omega | (simp; done) | (simp; omega)) _ | refine Below.alloc ?_ (by first | omega | (simp; done) | (simp; omega)) _ | refine Below.call (by assumption) ?_ (by first | omega | (simp; done) | (simp; omega)))⟩
    · have := World.alloc_heap_new (w.alloc (.cells (msnCells m (.slice (some ⟨b, o, none⟩) m.ways.length (m.ways.length + cap)) vh vr) 26)) (.cells #[.int .i64 k] 3)
      rwa [World.size_alloc] at this
    · exact H0'.out.below ((Below.refl (w.heap.size + 1) _).alloc (by simp) _) (by omega)
  case round =>
    obtain ⟨j, hj, rfl, hrow, H, hB⟩ := hrel
    have hlt := itB_lt hwbH.out hk hj
    by_cases hz : itB m k j = 0
    · have hjd := dep_of_zero hwbH.out hk hj hz
      have hI := IntsAt.own hrow (by simp [intL, upto]; omega)
      rw [hjd] at hI
      have hI' := Lib.hid hI
      rw [hz]
      clear hI hrow H hz hjd
      go_wp2
      go_ret
      exact ⟨_, rfl, hI'.out, hB⟩
    · have hpos : 0 < itB m k j := by omega
      have hjd : j < dep m k := by
        rcases Nat.lt_or_ge j (dep m k) with h | h
        · exact h
        · exfalso
          have : j = dep m k := by omega
          rw [this] at hz
          exact hz (dep_end hwbH.out hk)
      have hdec := itB_dec hwbH.out hk hjd
      have hbk := way_back hwbH.out hlt
      obtain ⟨q, hq⟩ : ∃ q : Nat, (wy m.ways (itB m k j)).back = q := ⟨_, (Int.toNat_of_nonneg hbk.1).symm⟩
      have hq2 : itB m k (j + 1) = q := by show (wy m.ways (itB m k j)).back.toNat = q; rw [hq]; rfl
      obtain ⟨_, _, _, _, p4⟩ := hcH.out _ hlt
      have d1 : wr.cell? ⟨b, o + itB m k j * 5 + 4, none⟩ = some (.int .i64 q) := by rw [← hq]; exact (hB.cell (p := ⟨b, o + itB m k j * 5 + 4, none⟩) hb).trans p4
      have c0 := (msn_cells (m := m) (vh := vh) (vr := vr) H).1
      have hX := Lib.hid (And.intro H (And.intro hq hq2))
      have hz1 := hB.size
      have hsz := H.lt
      rw [hq2] at hdec
      rw [hq] at hbk
      have hil : (itB m k j : Int) < m.ways.length := by omega
      have hrow' := hrow
      clear H hq hq2 hz p4
      obtain ⟨g0, cap0, rfl⟩ := ownsRow_succ hrow
      go_wp2_with (at_builtin; refine wpList_append_own _ rfl _ _ 32 rfl (w.heap.size + 1) 3 i0 (.int .i64 0) 1 8 Try.underlying32 hi hz0' hz1' hz2' rfl (by decide) _ _ _ rfl (hrow'.alloc _) ⟨wr.heap.size, 0, none⟩ 1 1 [.int .i64 (q : Int)] rfl rfl (cell_one_new _ _ _) (by simp [Value.oneCell']) (by unfold maxLen; omega) (by omega) (by simp; omega) ?_; intro v' w1 hown' hgrow _; obtain ⟨g', cap', rfl⟩ := ownsRow_succ hown')
      go_roundw
      case rel =>
        have hb0 : Below (w.heap.size + 1) wr w1 := ((Below.refl (w.heap.size + 1) wr).alloc (by omega) _).grown hgrow (by simp; omega) (fun j ej => (hrow'.lt j ej).1)
        refine ⟨j + 1, by omega, by rw [hX.out.2.2], ?_, hX.out.1.below hb0 (by omega), hB.trans (hb0.mono (by omega))⟩
        rw [show (intL (upto (itB m k) (j + 1 + 1))).map (Value.int .i64) = (intL (upto (itB m k) (j + 1))).map (Value.int .i64) ++ [.int .i64 (q : Int)] by rw [upto_succ _ (j + 1), hX.out.2.2]; simp [intL]]
        exact hown'
      case measure => simp [intOf]; omega
end Go.Proofs.Ytjnjmpakmgmdbaa

namespace Go.Proofs.Ytjnjmpakmgmdbaa
open Go.RowKit
attribute [local irreducible] wpQuiet

set_option maxHeartbeats 800000 in
theorem rroute_no (m : Msn) (vw vh vr : Value) (i : Int) (w : World) (hm : MsnAt w.heap.size w m vw vh vr) (hE : (validB m && ixB m i) = false) :
    Calls Try.prog 22 #[.agg (msnCells m vw vh vr), .int .i64 i] w (RouteQ [] 1 w) := by
  have hv := Lib.hid (rValid31_any m vw vh vr (w.alloc (.cells (msnCells m vw vh vr) 26)) ((hm.below ((Below.refl _ _).alloc (Nat.le_refl _) _)).mono (by simp)))
  have hix := fun i w1 hw => rindex_any m vw vh vr i w1 hw
  have hixH := Lib.hid hix
  have H0 := Has.new w (msnCells m vw vh vr) 26
  have H0' := Lib.hid H0
  have hmH := Lib.hid hm
  clear H0 hm hix
  unfold msnCells at *
  cases h : validB m
  · rw [h] at hv
    have h' := Lib.hid h
    clear h hE
    go_enter Try.func22, Try.ntmps22
    go_wp2_with (go_at_call 20; refine (hv.out).mono ?_; rintro e w1 ⟨rfl, hb1⟩; obtain ⟨hc1, hf1⟩ := bcell hb1; have hz1 := hb1.size; try simp at hz1)
    go_ret2
    exact ⟨_, rfl, IntsAt.nil _ _, by repeat (first | exact Below.refl _ _ | assumption | apply Below.drew | refine Below.setCell ?_ (by first | omega | (simp; done) | (simp; omega)) _ | refine Below.alloc ?_ (by first | omega | (simp; done) | (simp; omega)) _ | refine Below.call (by assumption) ?_ (by first | omega | (simp; done) | (simp; omega)))⟩
  · rw [h] at hv hE
    have hi : ixB m i = false := by simpa using hE
    have h' := Lib.hid h
    clear h hE
    go_enter Try.func22, Try.ntmps22
    go_wp2_with fail
    refine hv.out.mono ?_
    rintro e w1 ⟨rfl, hb1⟩
    have H1 := H0'.out.below (hb1.mono (by simp) : Below (w.heap.size + 1) _ w1) (by omega)
    have B1 : Below w.heap.size w w1 := ((Below.refl _ w).alloc (Nat.le_refl _) _).trans (hb1.mono (by simp))
    have hixi := hixH.out i w1 ((hmH.out.1.below B1).mono B1.size)
    rw [hi] at hixi
    have hix1 := Lib.hid hixi
    obtain ⟨c0, c1, c2, c3, c4, c5, c6, c7, c8, c9, c10⟩ := msn_cells (m := m) (vw := vw) (vh := vh) (vr := vr) H1
    have z1 := H1.lt
    clear hb1 H1 hixi hi
    go_wp2_with fail
    refine hix1.out.mono ?_
    rintro e w2 ⟨rfl, hb2⟩
    go_wp2
    go_ret2
    exact ⟨_, rfl, IntsAt.nil _ _, B1.trans (hb2.mono B1.size)⟩

set_option maxHeartbeats 800000 in
theorem rroute_yes (m : Msn) (vw vh vr : Value) (k : Nat) (w : World) (hm : MsnAt w.heap.size w m vw vh vr) (hV : validB m = true) (hk : k < m.ways.length) :
    Calls Try.prog 22 #[.agg (msnCells m vw vh vr), .int .i64 k] w (RouteQ (intL (upto (itB m k) (dep m k + 1))) 0 w) := by
  have hv := rValid31_any m vw vh vr (w.alloc (.cells (msnCells m vw vh vr) 26)) ((hm.below ((Below.refl _ _).alloc (Nat.le_refl _) _)).mono (by simp))
  rw [hV] at hv
  have hv := Lib.hid hv
  have V := (validB_iff m).1 hV
  have hix := fun w1 hw => rindex_any m vw vh vr k w1 hw
  rw [ixB_mk hk] at hix
  have hixH := Lib.hid hix
  have hH := fun w1 hm1 => rhome_any m vw vh vr k w1 hm1 V.ways hk V.n41
  have hHH := Lib.hid hH
  have H0 := Has.new w (msnCells m vw vh vr) 26
  have H0' := Lib.hid H0
  have hmH := Lib.hid hm
  clear H0 hm hix hH V hV
  unfold msnCells at *
  go_enter Try.func22, Try.ntmps22
  go_wp2_with fail
  refine hv.out.mono ?_
  rintro e w1 ⟨rfl, hb1⟩
  have H1 := H0'.out.below (hb1.mono (by simp) : Below (w.heap.size + 1) _ w1) (by omega)
  have B1 : Below w.heap.size w w1 := ((Below.refl _ w).alloc (Nat.le_refl _) _).trans (hb1.mono (by simp))
  have hix1 := Lib.hid (hixH.out w1 ((hmH.out.1.below B1).mono B1.size))
  obtain ⟨c0, c1, c2, c3, c4, c5, c6, c7, c8, c9, c10⟩ := msn_cells (m := m) (vw := vw) (vh := vh) (vr := vr) H1
  have z1 := H1.lt
  have H1' := Lib.hid H1
  clear hb1 H1
  go_wp2_with fail
  refine hix1.out.mono ?_
  rintro e w2 ⟨rfl, hb2⟩
  have H2 := H1'.out.below hb2 z1
  have B2 := B1.trans (hb2.mono B1.size)
  have hh := Lib.hid (hHH.out w2 ((hmH.out.below B2).mono B2.size))
  obtain ⟨c0, c1, c2, c3, c4, c5, c6, c7, c8, c9, c10⟩ := msn_cells (m := m) (vw := vw) (vh := vh) (vr := vr) H2
  clear hb2 H2
  go_wp2_with fail
  refine hh.out.mono ?_
  rintro e w3 ⟨v, rfl, hI, hb3⟩
  have hI' := Lib.hid hI
  clear hI
  go_wp2
  go_ret2
  exact ⟨_, rfl, hI'.out, B2.trans (hb3.mono B2.size)⟩

/-- two lists of integers -/
theorem same_any (va vb : Value) (a b : List Int) (w : World) (ha : IntsAt w.heap.size w va a) (hb : IntsAt w.heap.size w vb b) :
    Calls Try.prog 23 #[va, vb] w fun e w' => e = .returned (.bool (decide (a = b))) ∧ Below w.heap.size w w' := by
  obtain ⟨hla, aa, capa, rfl, hca⟩ := ha
  obtain ⟨hlb, ab, capb, rfl, hcb⟩ := hb
  by_cases hl : a.length = b.length
  · rw [← hl]
    have d0 : ((a.length : Int) != (a.length : Int)) = false := by simp
    have hcaH := Lib.hid hca
    have hcbH := Lib.hid hcb
    have hlH := Lib.hid hl
    clear hca hcb hl
    go_enter Try.func23, Try.ntmps23
    go_wp2
    go_loopw [5] (fun i wr => ∃ k : Nat, k ≤ a.length ∧ i = .int .i64 k ∧ (∀ j, j < k → a.getD j 0 = b.getD j 0) ∧ Below w.heap.size w wr) (fun i _ => a.length - (intOf i).toNat)
    case atStart => exact ⟨0, by omega, rfl, fun j hj => by omega, Below.refl _ _⟩
    case round =>
      obtain ⟨k, hk, rfl, hall, hB⟩ := hrel
      have hall' := Lib.hid hall
      clear hall
      by_cases hlt : k < a.length
      · obtain ⟨ba, oa, rfl, hba, hcA⟩ : ∃ b1 o1, aa = some ⟨b1, o1, none⟩ ∧ b1 < w.heap.size ∧ ∀ j, j < a.length → w.cell? ⟨b1, o1 + j, none⟩ = some (.int .i64 (a.getD j 0)) := by
          rcases hcaH.out with h | h
          · rw [h] at hlt; simp at hlt
          · exact h
        obtain ⟨bb, ob, rfl, hbb, hcB⟩ : ∃ b1 o1, ab = some ⟨b1, o1, none⟩ ∧ b1 < w.heap.size ∧ ∀ j, j < b.length → w.cell? ⟨b1, o1 + j, none⟩ = some (.int .i64 (b.getD j 0)) := by
          rcases hcbH.out with h | h
          · have := hlH.out; rw [h] at this; simp at this; rw [this] at hlt; simp at hlt
          · exact h
        have c1 := Low.fact ((hB.cell (p := ⟨ba, oa + k, none⟩) hba).trans (hcA k hlt))
        have c2 := Low.fact ((hB.cell (p := ⟨bb, ob + k, none⟩) hbb).trans (hcB k (by have := hlH.out; omega)))
        have hi : (k : Int) < a.length := by omega
        have hz := hB.size
        clear hcA hcB
        by_cases he : a.getD k 0 = b.getD k 0
        · rw [← he] at c2
          have he' := Lib.hid he
          clear he
          generalize a.getD k 0 = x at c1 c2
          have dx : (x != x) = false := by simp
          go_wp2
          (refine wp_region_low (by kernel_rfl) (by kernel_rfl) ?_; (iterate 9 (apply quiet_want; (case hw => rfl); (case hval => (intro w1 hw1; have hcx := Low.cells hw1; simp only [Oper.quietAt]; go_simp; first | done | (first | fail) | rfl | exact ⟨rfl, rfl⟩)); simp only [Act.put, List.setIfInBounds_toArray, List.set_cons_zero, List.set_cons_succ])); refine wpQuiet_nil ?_; intro w2 hw2)
          go_wp2
          go_roundw
          case rel =>
            refine ⟨k + 1, by omega, by go_num, fun j hj => ?_, hB.trans (hw2.out.mono hz)⟩
            by_cases e : j = k
            · rw [e]; exact he'.out
            · exact hall'.out j (by omega)
          case measure => simp [intOf]; omega
        · have hne : Hid (decide (a = b) = false) := by
            show decide (a = b) = false
            simp only [decide_eq_false_iff_not]
            rintro rfl
            exact he rfl
          generalize a.getD k 0 = x at *
          generalize b.getD k 0 = y at *
          have dx : (x != y) = true := by simpa using he
          clear he
          go_wp2
          (refine wp_region_low (by kernel_rfl) (by kernel_rfl) ?_; (iterate 9 (apply quiet_want; (case hw => rfl); (case hval => (intro w1 hw1; have hcx := Low.cells hw1; simp only [Oper.quietAt]; go_simp; first | done | (first | fail) | rfl | exact ⟨rfl, rfl⟩)); simp only [Act.put, List.setIfInBounds_toArray, List.set_cons_zero, List.set_cons_succ])); refine wpQuiet_nil ?_; intro w2 hw2)
          go_wp2
          go_ret
          exact ⟨ret_bool hne.out.symm, hB.trans (hw2.out.mono hz)⟩
      · have heq : Hid (decide (a = b) = true) := by
          show decide (a = b) = true
          simp only [decide_eq_true_eq]
          refine List.ext_getElem hlH.out fun j h1 h2 => ?_
          have := hall'.out j (by omega)
          simpa [List.getD, List.getElem?_eq_getElem h1, List.getElem?_eq_getElem h2] using this
        go_wp2
        go_ret
        exact ⟨ret_bool heq.out.symm, hB⟩
  · have hne : decide (a = b) = false := by
      simp only [decide_eq_false_iff_not]
      rintro rfl
      exact hl rfl
    rw [hne]
    have d0 : ((a.length : Int) != (b.length : Int)) = true := by simp; omega
    clear hca hcb hl hne
    go_enter Try.func23, Try.ntmps23
    go_wp2
    go_ret
    exact ⟨rfl, by repeat (first | exact Below.refl _ _ | assumption | apply Below.drew | refine Below.setCell ?_ (by first | omega | (simp; done) | (simp; omega)) _ | refine Below.alloc ?_ (by first | omega | (simp; done) | (simp; omega)) _ | refine Below.call (by assumption) ?_ (by first | omega | (simp; done) | (simp; omega)))⟩
end Go.Proofs.Ytjnjmpakmgmdbaa
