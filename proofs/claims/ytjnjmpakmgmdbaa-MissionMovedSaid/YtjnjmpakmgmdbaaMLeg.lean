/- mission.has, Leg. -/
import Derived.Test.YtjnjmpakmgmdbaaValidD
import Derived.Test.YtjnjmpakmgmdbaaFree
namespace Go.Proofs.Ytjnjmpakmgmdbaa
open Go.RowKit
attribute [local irreducible] wpQuiet

/-- an integer is the index of a way -/
def ixB (m : Msn) (i : Int) : Bool := decide (0 ≤ i ∧ i < m.ways.length)
theorem ixB_true {m : Msn} {i : Int} (h : ixB m i = true) : ∃ k : Nat, i = k ∧ k < m.ways.length := by
  have : 0 ≤ i ∧ i < m.ways.length := by simpa [ixB] using h
  exact ⟨i.toNat, by omega, by omega⟩
theorem ixB_false {m : Msn} {i : Int} (h : ixB m i = false) : i < 0 ∨ (0 ≤ i ∧ (m.ways.length : Int) ≤ i) := by
  have : ¬ (0 ≤ i ∧ i < m.ways.length) := by simpa [ixB] using h
  omega
theorem ixB_mk {m : Msn} {k : Nat} (h : k < m.ways.length) : ixB m k = true := by simp [ixB]; omega

theorem has_any (m : Msn) (vw vh vr : Value) (i : Int) (w : World) (hm : MsnAt w.heap.size w m vw vh vr) :
    Calls Try.prog 33 #[.agg (msnCells m vw vh vr), .int .i64 i] w fun e w' => e = .returned (.bool (validB m && ixB m i)) ∧ Below w.heap.size w w' := by
  have hv := Lib.hid (valid_any m vw vh vr (w.alloc (.cells (msnCells m vw vh vr) 26)) ((hm.below ((Below.refl _ _).alloc (Nat.le_refl _) _)).mono (by simp)))
  obtain ⟨⟨hl, a, cap, rfl, _⟩, _, _⟩ := hm
  unfold msnCells at *
  cases h : validB m
  · rw [h] at hv
    have h' := Lib.hid h
    clear h
    go_enter Try.func33, Try.ntmps33
    go_wp2_with (go_at_call 19; refine (hv.out).mono ?_; rintro e w1 ⟨rfl, hb1⟩; obtain ⟨hc1, hf1⟩ := bcell hb1; have hz1 := hb1.size; try simp at hz1)
    go_ret
    exact ⟨rfl, by repeat (first | exact Below.refl _ _ | assumption | apply Below.drew | refine Below.setCell ?_ (by first | omega | (simp; done) | (simp; omega)) _ | refine Below.alloc ?_ (by first | omega | (simp; done) | (simp; omega)) _ | refine Below.call (by assumption) ?_ (by first | omega | (simp; done) | (simp; omega)))⟩
  · rw [h] at hv
    have h' := Lib.hid h
    clear h
    cases hi : ixB m i
    · rcases ixB_false hi with h1 | ⟨h1, h2⟩
      · have d1 : decide (0 ≤ i) = false := by simp; omega
        clear hi h1
        go_enter Try.func33, Try.ntmps33
        go_wp2_with (go_at_call 19; refine (hv.out).mono ?_; rintro e w1 ⟨rfl, hb1⟩; obtain ⟨hc1, hf1⟩ := bcell hb1; have hz1 := hb1.size; try simp at hz1)
        go_ret
        exact ⟨rfl, by repeat (first | exact Below.refl _ _ | assumption | apply Below.drew | refine Below.setCell ?_ (by first | omega | (simp; done) | (simp; omega)) _ | refine Below.alloc ?_ (by first | omega | (simp; done) | (simp; omega)) _ | refine Below.call (by assumption) ?_ (by first | omega | (simp; done) | (simp; omega)))⟩
      · have d1 : decide (0 ≤ i) = true := by simp; omega
        have d2 : decide (i < (m.ways.length : Int)) = false := by simp; omega
        clear hi h1 h2
        go_enter Try.func33, Try.ntmps33
        go_wp2_with (go_at_call 19; refine (hv.out).mono ?_; rintro e w1 ⟨rfl, hb1⟩; obtain ⟨hc1, hf1⟩ := bcell hb1; have hz1 := hb1.size; try simp at hz1)
        go_ret
        exact ⟨rfl, by repeat (first | exact Below.refl _ _ | assumption | apply Below.drew | refine Below.setCell ?_ (by first | omega | (simp; done) | (simp; omega)) _ | refine Below.alloc ?_ (by first | omega | (simp; done) | (simp; omega)) _ | refine Below.call (by assumption) ?_ (by first | omega | (simp; done) | (simp; omega)))⟩
    · obtain ⟨k, rfl, hk⟩ := ixB_true hi
      clear hi
      go_enter Try.func33, Try.ntmps33
      go_wp2_with (go_at_call 19; refine (hv.out).mono ?_; rintro e w1 ⟨rfl, hb1⟩; obtain ⟨hc1, hf1⟩ := bcell hb1; have hz1 := hb1.size; try simp at hz1)
      go_ret
      exact ⟨rfl, by repeat (first | exact Below.refl _ _ | assumption | apply Below.drew | refine Below.setCell ?_ (by first | omega | (simp; done) | (simp; omega)) _ | refine Below.alloc ?_ (by first | omega | (simp; done) | (simp; omega)) _ | refine Below.call (by assumption) ?_ (by first | omega | (simp; done) | (simp; omega)))⟩

theorem leg_no (m : Msn) (vw vh vr : Value) (i j : Int) (w : World) (hm : MsnAt w.heap.size w m vw vh vr) (hE : (validB m && ixB m i && ixB m j) = false) :
    Calls Try.prog 17 #[.agg (msnCells m vw vh vr), .int .i64 i, .int .i64 j] w fun e w' => e = .returned (.tuple #[.int .i64 0, .int .i64 0, .int .i64 0, .int .i64 1]) ∧ Below w.heap.size w w' := by
  have hv := Lib.hid (has_any m vw vh vr i (w.alloc (.cells (msnCells m vw vh vr) 26)) ((hm.below ((Below.refl _ _).alloc (Nat.le_refl _) _)).mono (by simp)))
  obtain ⟨⟨hl, a, cap, rfl, _⟩, _, _⟩ := hm
  unfold msnCells at *
  cases h : validB m && ixB m i
  · rw [h] at hv
    have h' := Lib.hid h
    clear h hE
    go_enter Try.func17, Try.ntmps17
    go_wp2_with (go_at_call 33; refine (hv.out).mono ?_; rintro e w1 ⟨rfl, hb1⟩; obtain ⟨hc1, hf1⟩ := bcell hb1; have hz1 := hb1.size; try simp at hz1)
    refine bodyPost_ret (v := .tuple #[.int .i64 0, .int .i64 0, .int .i64 0, .int .i64 1]) (by simp [results, Try.f17, go_sem]) rfl ⟨rfl, by repeat (first | exact Below.refl _ _ | assumption | apply Below.drew | refine Below.setCell ?_ (by first | omega | (simp; done) | (simp; omega)) _ | refine Below.alloc ?_ (by first | omega | (simp; done) | (simp; omega)) _ | refine Below.call (by assumption) ?_ (by first | omega | (simp; done) | (simp; omega)))⟩
  · rw [h] at hv hE
    have hj : ixB m j = false := by simpa using hE
    have h' := Lib.hid h
    clear h hE
    rcases ixB_false hj with h1 | ⟨h1, h2⟩
    · have d1 : decide (j < 0) = true := by simp; omega
      clear hj h1
      go_enter Try.func17, Try.ntmps17
      go_wp2_with (go_at_call 33; refine (hv.out).mono ?_; rintro e w1 ⟨rfl, hb1⟩; obtain ⟨hc1, hf1⟩ := bcell hb1; have hz1 := hb1.size; try simp at hz1)
      refine bodyPost_ret (v := .tuple #[.int .i64 0, .int .i64 0, .int .i64 0, .int .i64 1]) (by simp [results, Try.f17, go_sem]) rfl ⟨rfl, by repeat (first | exact Below.refl _ _ | assumption | apply Below.drew | refine Below.setCell ?_ (by first | omega | (simp; done) | (simp; omega)) _ | refine Below.alloc ?_ (by first | omega | (simp; done) | (simp; omega)) _ | refine Below.call (by assumption) ?_ (by first | omega | (simp; done) | (simp; omega)))⟩
    · have d1 : decide (j < 0) = false := by simp; omega
      have d2 : decide ((m.ways.length : Int) ≤ j) = true := by simp; omega
      clear hj h1 h2
      go_enter Try.func17, Try.ntmps17
      go_wp2_with (go_at_call 33; refine (hv.out).mono ?_; rintro e w1 ⟨rfl, hb1⟩; obtain ⟨hc1, hf1⟩ := bcell hb1; have hz1 := hb1.size; try simp at hz1)
      refine bodyPost_ret (v := .tuple #[.int .i64 0, .int .i64 0, .int .i64 0, .int .i64 1]) (by simp [results, Try.f17, go_sem]) rfl ⟨rfl, by repeat (first | exact Below.refl _ _ | assumption | apply Below.drew | refine Below.setCell ?_ (by first | omega | (simp; done) | (simp; omega)) _ | refine Below.alloc ?_ (by first | omega | (simp; done) | (simp; omega)) _ | refine Below.call (by assumption) ?_ (by first | omega | (simp; done) | (simp; omega)))⟩

set_option maxRecDepth 4000 in
theorem leg_yes (m : Msn) (vw vh vr : Value) (i j : Nat) (w : World) (hm : MsnAt w.heap.size w m vw vh vr) (hV : validB m = true) (hi : i < m.ways.length) (hj : j < m.ways.length) :
    Calls Try.prog 17 #[.agg (msnCells m vw vh vr), .int .i64 i, .int .i64 j] w fun e w' => e = .returned (.tuple #[.int .i64 (dLeg m i j), .int .i64 (tLeg m i j), .int .i64 (gLeg m i j), .int .i64 0]) ∧ Below w.heap.size w w' := by
  have hv := has_any m vw vh vr i (w.alloc (.cells (msnCells m vw vh vr) 26)) ((hm.below ((Below.refl _ _).alloc (Nat.le_refl _) _)).mono (by simp))
  rw [hV, ixB_mk hi] at hv
  have hv := Lib.hid hv
  obtain ⟨⟨hl, a, cap, rfl, hc⟩, _, _⟩ := hm
  obtain ⟨b, o, rfl, hb, hc2⟩ : ∃ b o, a = some ⟨b, o, none⟩ ∧ b < w.heap.size ∧ ∀ j, j < m.ways.length → w.cell? ⟨b, o + j * 5, none⟩ = some (.int .i64 (wy m.ways j).x) ∧ w.cell? ⟨b, o + j * 5 + 1, none⟩ = some (.int .i64 (wy m.ways j).y) ∧ w.cell? ⟨b, o + j * 5 + 2, none⟩ = some (.int .i64 (wy m.ways j).fix) ∧ w.cell? ⟨b, o + j * 5 + 3, none⟩ = some (.int .i64 (wy m.ways j).wait) ∧ w.cell? ⟨b, o + j * 5 + 4, none⟩ = some (.int .i64 (wy m.ways j).back) := by
    rcases hc with h0 | h
    · rw [h0] at hi; simp at hi
    · exact h
  clear hc
  have V := (validB_iff m).1 hV
  have hl1 := fun w1 => leg_any m (.slice (some ⟨b, o, none⟩) m.ways.length (m.ways.length + cap)) vh vr (wy m.ways i).x (wy m.ways i).y (wy m.ways j).x (wy m.ways j).y w1 V.leg (way_near V.ways hi) (way_near V.ways hj)
  unfold legVal at hl1
  have hl1' := Lib.hid hl1
  have V' := Lib.hid V
  obtain ⟨u0, u1, _, _, _⟩ := hc2 i hi
  obtain ⟨v0, v1, _, _, _⟩ := hc2 j hj
  unfold dLeg tLeg gLeg dLeg
  generalize distV (wy m.ways i).x (wy m.ways i).y (wy m.ways j).x (wy m.ways j).y = d at *
  generalize lastsV m.speed d = t at *
  generalize growthV m.speed m.part m.flow d = g at *
  have HH := Has.new w (msnCells m (.slice (some ⟨b, o, none⟩) m.ways.length (m.ways.length + cap)) vh vr) 26
  have H' := Lib.hid HH
  have hk1 : (i : Int) < m.ways.length := by omega
  have hk2 : (j : Int) < m.ways.length := by omega
  clear hl1 V hc2 HH hV
  unfold msnCells at *
  go_enter Try.func17, Try.ntmps17
  go_wp2_with (go_at_call 33; refine (hv.out).mono ?_; rintro e w1 ⟨rfl, hb1⟩; obtain ⟨hc1, hf1⟩ := bcell hb1; have hz1 := hb1.size; try simp at hz1)
  have B1 : Below (w.heap.size + 1) _ w1 := hb1.mono (by simp)
  have H1 := Has.below H'.out B1 (by omega)
  have W1 : Below w.heap.size w w1 := ((Below.refl _ w).alloc (Nat.le_refl _) _).trans (hb1.mono (by simp))
  obtain ⟨c0, c1, c2, c3, c4, c5, c6, c7, c8, c9, c10⟩ := msn_low (m := m) (vw := .slice (some ⟨b, o, none⟩) m.ways.length (m.ways.length + cap)) (vh := vh) (vr := vr) H1
  have lu0 := Low.fact ((W1.cell (p := ⟨b, o + i * 5, none⟩) hb).trans u0)
  have lu1 := Low.fact ((W1.cell (p := ⟨b, o + i * 5 + 1, none⟩) hb).trans u1)
  have lv0 := Low.fact ((W1.cell (p := ⟨b, o + j * 5, none⟩) hb).trans v0)
  have lv1 := Low.fact ((W1.cell (p := ⟨b, o + j * 5 + 1, none⟩) hb).trans v1)
  have z1 : b < w1.heap.size := by omega
  have z2 : w.heap.size < w1.heap.size := by omega
  have i0 : (0 : Int) ≤ i := by omega
  have j0 : (0 : Int) ≤ j := by omega
  clear u0 u1 v0 v1 H1 hb1 hc1 hf1 B1
  (refine (wpIn_wide (n := 9)).1 ?_; refine wpIn_region_low_free (lets_wide _) 15 14 10 _ 58 #[.int .i64 0, .int .i64 0, .int .i64 0] rfl rfl rfl (by decide) (by kernel_rfl) (by kernel_rfl) (by kernel_rfl) (by kernel_rfl) (by kernel_rfl) ?hal ?_; (case hal => (intro a1 w1; go_simp)); simp only [List.set_cons_succ, List.set_cons_zero, List.take_succ_cons, List.take_zero, List.drop_succ_cons, List.drop_zero]; (iterate 15 (apply low_want; (case hw => rfl); (case hval => (intro w1 hw1; have hcx := Low.cells hw1; simp only [lowAt]; go_simp; first | done | (first | (go_at_call 34; with_reducible exact (hl1'.out _))) | rfl | exact ⟨rfl, rfl⟩)); simp only [Act.put, List.setIfInBounds_toArray, List.set_cons_zero, List.set_cons_succ])); refine low_nil ?_; intro w2 m2 hw2 hm2 hx2)
  have x0 := cells_cell hx2 (i := 0) rfl
  have x1 := cells_cell hx2 (i := 1) rfl
  have x2 := cells_cell hx2 (i := 2) rfl
  have y0 := cells_free hx2 0
  have y1 := cells_free hx2 1
  have y2 := cells_free hx2 2
  gi_wp2
  go_wp2
  go_quiet (fail)
  go_wp2
  refine bodyPost_ret (v := .tuple #[.int .i64 d, .int .i64 t, .int .i64 g, .int .i64 0]) (by simp [results, Try.f17, go_sem]) rfl ⟨rfl, ?_⟩
  have Bf : Below w.heap.size w w2 := W1.trans (hw2.out.mono (by omega))
  have hm3 : w.heap.size ≤ m2 := by omega
  exact below_drewN (((Bf.setCell hm3 _).setCell hm3 _).setCell hm3 _) _
end Go.Proofs.Ytjnjmpakmgmdbaa
