/- The reference's Route, SameInts, Few. -/
import Derived.Test.YtjnjmpakmgmdbaaRLeg
namespace Go.Proofs.Ytjnjmpakmgmdbaa
open Go.RowKit
attribute [local irreducible] wpQuiet

set_option maxHeartbeats 800000 in
theorem rroute_no (m : Msn) (vw vh vr : Value) (i : Int) (w : World) (hm : MsnAt w.heap.size w m vw vh vr) (hE : (validB m && ixB m i) = false) :
    Calls Try.prog 22 #[.agg (msnCells m vw vh vr), .int .i64 i] w (RouteQ [] 1 w) := by
  have hv := Lib.hid (rValid31_any m vw vh vr (w.alloc (.cells (msnCells m vw vh vr) 26)) ((hm.below ((Below.refl _ _).alloc (Nat.le_refl _) _)).mono (by simp)))
  have hix := fun i w1 hw => rindex_any m vw vh vr i w1 hw
  have hixH := Lib.hid hix
  have H0 := Has.new w (msnCells m vw vh vr) 26
  have H0' := Lib.hid H0
  have hmH := Lib.hid hm
  clear H0 hm hix
  unfold msnCells at *
  cases h : validB m
  · rw [h] at hv
    have h' := Lib.hid h
    clear h hE
    go_enter Try.func22, Try.ntmps22
    go_wp2_with (go_at_call 20; refine (hv.out).mono ?_; rintro e w1 ⟨rfl, hb1⟩; obtain ⟨hc1, hf1⟩ := bcell hb1; have hz1 := hb1.size; try simp at hz1)
    go_ret2
    exact ⟨_, rfl, IntsAt.nil _ _, by repeat (first | exact Below.refl _ _ | assumption | apply Below.drew | refine Below.setCell ?_ (by first | omega | (simp; done) | (simp; omega)) _ | refine Below.alloc ?_ (by first | omega | (simp; done) | (simp; omega)) _ | refine Below.call (by assumption) ?_ (by first | omega | (simp; done) | (simp; omega)))⟩
  · rw [h] at hv hE
    have hi : ixB m i = false := by simpa using hE
    have h' := Lib.hid h
    clear h hE
    go_enter Try.func22, Try.ntmps22
    go_wp2_with fail
    refine hv.out.mono ?_
    rintro e w1 ⟨rfl, hb1⟩
    have H1 := H0'.out.below (hb1.mono (by simp) : Below (w.heap.size + 1) _ w1) (by omega)
    have B1 : Below w.heap.size w w1 := ((Below.refl _ w).alloc (Nat.le_refl _) _).trans (hb1.mono (by simp))
    have hixi := hixH.out i w1 ((hmH.out.1.below B1).mono B1.size)
    rw [hi] at hixi
    have hix1 := Lib.hid hixi
    obtain ⟨c0, c1, c2, c3, c4, c5, c6, c7, c8, c9, c10⟩ := msn_cells (m := m) (vw := vw) (vh := vh) (vr := vr) H1
    have z1 := H1.lt
    clear hb1 H1 hixi hi
    go_wp2_with fail
    refine hix1.out.mono ?_
    rintro e w2 ⟨rfl, hb2⟩
    go_wp2
    go_ret2
    exact ⟨_, rfl, IntsAt.nil _ _, B1.trans (hb2.mono B1.size)⟩

set_option maxHeartbeats 800000 in
theorem rroute_yes (m : Msn) (vw vh vr : Value) (k : Nat) (w : World) (hm : MsnAt w.heap.size w m vw vh vr) (hV : validB m = true) (hk : k < m.ways.length) :
    Calls Try.prog 22 #[.agg (msnCells m vw vh vr), .int .i64 k] w (RouteQ (intL (upto (itB m k) (dep m k + 1))) 0 w) := by
  have hv := rValid31_any m vw vh vr (w.alloc (.cells (msnCells m vw vh vr) 26)) ((hm.below ((Below.refl _ _).alloc (Nat.le_refl _) _)).mono (by simp))
  rw [hV] at hv
  have hv := Lib.hid hv
  have V := (validB_iff m).1 hV
  have hix := fun w1 hw => rindex_any m vw vh vr k w1 hw
  rw [ixB_mk hk] at hix
  have hixH := Lib.hid hix
  have hH := fun w1 hm1 => rhome_any m vw vh vr k w1 hm1 V.ways hk V.n41
  have hHH := Lib.hid hH
  have H0 := Has.new w (msnCells m vw vh vr) 26
  have H0' := Lib.hid H0
  have hmH := Lib.hid hm
  clear H0 hm hix hH V hV
  unfold msnCells at *
  go_enter Try.func22, Try.ntmps22
  go_wp2_with fail
  refine hv.out.mono ?_
  rintro e w1 ⟨rfl, hb1⟩
  have H1 := H0'.out.below (hb1.mono (by simp) : Below (w.heap.size + 1) _ w1) (by omega)
  have B1 : Below w.heap.size w w1 := ((Below.refl _ w).alloc (Nat.le_refl _) _).trans (hb1.mono (by simp))
  have hix1 := Lib.hid (hixH.out w1 ((hmH.out.1.below B1).mono B1.size))
  obtain ⟨c0, c1, c2, c3, c4, c5, c6, c7, c8, c9, c10⟩ := msn_cells (m := m) (vw := vw) (vh := vh) (vr := vr) H1
  have z1 := H1.lt
  have H1' := Lib.hid H1
  clear hb1 H1
  go_wp2_with fail
  refine hix1.out.mono ?_
  rintro e w2 ⟨rfl, hb2⟩
  have H2 := H1'.out.below hb2 z1
  have B2 := B1.trans (hb2.mono B1.size)
  have hh := Lib.hid (hHH.out w2 ((hmH.out.below B2).mono B2.size))
  obtain ⟨c0, c1, c2, c3, c4, c5, c6, c7, c8, c9, c10⟩ := msn_cells (m := m) (vw := vw) (vh := vh) (vr := vr) H2
  clear hb2 H2
  go_wp2_with fail
  refine hh.out.mono ?_
  rintro e w3 ⟨v, rfl, hI, hb3⟩
  have hI' := Lib.hid hI
  clear hI
  go_wp2
  go_ret2
  exact ⟨_, rfl, hI'.out, B2.trans (hb3.mono B2.size)⟩

/-- two lists of integers -/
theorem same_any (va vb : Value) (a b : List Int) (w : World) (ha : IntsAt w.heap.size w va a) (hb : IntsAt w.heap.size w vb b) :
    Calls Try.prog 23 #[va, vb] w fun e w' => e = .returned (.bool (decide (a = b))) ∧ Below w.heap.size w w' := by
  obtain ⟨hla, aa, capa, rfl, hca⟩ := ha
  obtain ⟨hlb, ab, capb, rfl, hcb⟩ := hb
  by_cases hl : a.length = b.length
  · rw [← hl]
    have d0 : ((a.length : Int) != (a.length : Int)) = false := by simp
    have hcaH := Lib.hid hca
    have hcbH := Lib.hid hcb
    have hlH := Lib.hid hl
    clear hca hcb hl
    go_enter Try.func23, Try.ntmps23
    go_wp2
    go_loopw [5] (fun i wr => ∃ k : Nat, k ≤ a.length ∧ i = .int .i64 k ∧ (∀ j, j < k → a.getD j 0 = b.getD j 0) ∧ Below w.heap.size w wr) (fun i _ => a.length - (intOf i).toNat)
    case atStart => exact ⟨0, by omega, rfl, fun j hj => by omega, Below.refl _ _⟩
    case round =>
      obtain ⟨k, hk, rfl, hall, hB⟩ := hrel
      have hall' := Lib.hid hall
      clear hall
      by_cases hlt : k < a.length
      · obtain ⟨ba, oa, rfl, hba, hcA⟩ : ∃ b1 o1, aa = some ⟨b1, o1, none⟩ ∧ b1 < w.heap.size ∧ ∀ j, j < a.length → w.cell? ⟨b1, o1 + j, none⟩ = some (.int .i64 (a.getD j 0)) := by
          rcases hcaH.out with h | h
          · rw [h] at hlt; simp at hlt
          · exact h
        obtain ⟨bb, ob, rfl, hbb, hcB⟩ : ∃ b1 o1, ab = some ⟨b1, o1, none⟩ ∧ b1 < w.heap.size ∧ ∀ j, j < b.length → w.cell? ⟨b1, o1 + j, none⟩ = some (.int .i64 (b.getD j 0)) := by
          rcases hcbH.out with h | h
          · have := hlH.out; rw [h] at this; simp at this; rw [this] at hlt; simp at hlt
          · exact h
        have c1 := Low.fact ((hB.cell (p := ⟨ba, oa + k, none⟩) hba).trans (hcA k hlt))
        have c2 := Low.fact ((hB.cell (p := ⟨bb, ob + k, none⟩) hbb).trans (hcB k (by have := hlH.out; omega)))
        have hi : (k : Int) < a.length := by omega
        have hz := hB.size
        clear hcA hcB
        by_cases he : a.getD k 0 = b.getD k 0
        · rw [← he] at c2
          have he' := Lib.hid he
          clear he
          generalize a.getD k 0 = x at c1 c2
          have dx : (x != x) = false := by simp
          go_wp2
          (refine wp_region_low (by kernel_rfl) (by kernel_rfl) ?_; (iterate 9 (apply quiet_want; (case hw => rfl); (case hval => (intro w1 hw1; have hcx := Low.cells hw1; simp only [Oper.quietAt]; go_simp; first | done | (first | fail) | rfl | exact ⟨rfl, rfl⟩)); simp only [Act.put, List.setIfInBounds_toArray, List.set_cons_zero, List.set_cons_succ])); refine wpQuiet_nil ?_; intro w2 hw2)
          go_wp2
          go_roundw
          case rel =>
            refine ⟨k + 1, by omega, by go_num, fun j hj => ?_, hB.trans (hw2.out.mono hz)⟩
            by_cases e : j = k
            · rw [e]; exact he'.out
            · exact hall'.out j (by omega)
          case measure => simp [intOf]; omega
        · have hne : Hid (decide (a = b) = false) := by
            show decide (a = b) = false
            simp only [decide_eq_false_iff_not]
            rintro rfl
            exact he rfl
          generalize a.getD k 0 = x at *
          generalize b.getD k 0 = y at *
          have dx : (x != y) = true := by simpa using he
          clear he
          go_wp2
          (refine wp_region_low (by kernel_rfl) (by kernel_rfl) ?_; (iterate 9 (apply quiet_want; (case hw => rfl); (case hval => (intro w1 hw1; have hcx := Low.cells hw1; simp only [Oper.quietAt]; go_simp; first | done | (first | fail) | rfl | exact ⟨rfl, rfl⟩)); simp only [Act.put, List.setIfInBounds_toArray, List.set_cons_zero, List.set_cons_succ])); refine wpQuiet_nil ?_; intro w2 hw2)
          go_wp2
          go_ret
          exact ⟨ret_bool hne.out.symm, hB.trans (hw2.out.mono hz)⟩
      · have heq : Hid (decide (a = b) = true) := by
          show decide (a = b) = true
          simp only [decide_eq_true_eq]
          refine List.ext_getElem hlH.out fun j h1 h2 => ?_
          have := hall'.out j (by omega)
          simpa [List.getD, List.getElem?_eq_getElem h1, List.getElem?_eq_getElem h2] using this
        go_wp2
        go_ret
        exact ⟨ret_bool heq.out.symm, hB⟩
  · have hne : decide (a = b) = false := by
      simp only [decide_eq_false_iff_not]
      rintro rfl
      exact hl rfl
    rw [hne]
    have d0 : ((a.length : Int) != (b.length : Int)) = true := by simp; omega
    clear hca hcb hl hne
    go_enter Try.func23, Try.ntmps23
    go_wp2
    go_ret
    exact ⟨rfl, by repeat (first | exact Below.refl _ _ | assumption | apply Below.drew | refine Below.setCell ?_ (by first | omega | (simp; done) | (simp; omega)) _ | refine Below.alloc ?_ (by first | omega | (simp; done) | (simp; omega)) _ | refine Below.call (by assumption) ?_ (by first | omega | (simp; done) | (simp; omega)))⟩
end Go.Proofs.Ytjnjmpakmgmdbaa
