/- The reference's Valid (missions). -/
import Derived.Test.YtjnjmpakmgmdbaaRGrown
import Derived.Test.YtjnjmpakmgmdbaaValid
namespace Go.Proofs.Ytjnjmpakmgmdbaa
open Go.RowKit
attribute [local irreducible] wpQuiet

theorem validB_no {m : Msn} (h : ¬ VMsn m) : validB m = false := by
  cases e : validB m
  · rfl
  · exact absurd ((validB_iff m).1 e) h

/-- the numbers of a mission are in their ranges -/
def limitsB (m : Msn) : Bool := inB m.start 0 100000 && inB m.speed 1 20000 && inB m.part 0 500 && inB m.flow 0 5000 && inB m.idle 0 1000 && inB m.drive 0 1000 && inB m.battery 0 1000000000 && inB m.deadline 0 1000000000
theorem limitsB_iff (m : Msn) : limitsB m = true ↔ (0 ≤ m.start ∧ m.start ≤ 100000) ∧ legOk m ∧ (0 ≤ m.idle ∧ m.idle ≤ 1000) ∧ (0 ≤ m.drive ∧ m.drive ≤ 1000) ∧ (0 ≤ m.battery ∧ m.battery ≤ 1000000000) ∧ (0 ≤ m.deadline ∧ m.deadline ≤ 1000000000) := by
  simp [limitsB, inB, legOk]; omega
theorem VMsn.limits {m : Msn} (v : VMsn m) : limitsB m = true := (limitsB_iff m).2 ⟨v.start, v.leg, v.idle, v.drive, v.battery, v.deadline⟩

theorem rValid31_size (m : Msn) (vw vh vr : Value) (w : World) (hm : MsnAt w.heap.size w m vw vh vr) (h : sizesB m = false) :
    Calls Try.prog 20 #[.agg (msnCells m vw vh vr)] w fun e w' => e = .returned (.bool (validB m)) ∧ Below w.heap.size w w' := by
  rw [validB_no (fun v => by have : sizesB m = true := by simp [sizesB]; have := v.n2; have := v.n41; have := v.nr; omega
                             rw [h] at this; cases this)]
  obtain ⟨⟨_, a1, cap1, rfl, _⟩, _, ⟨_, a2, cap2, rfl, _⟩⟩ := hm
  unfold msnCells
  by_cases h1 : m.ways.length < 2
  · have d1 : decide ((m.ways.length : Int) < 2) = true := by simp; omega
    clear h
    go_enter Try.func20, Try.ntmps20
    go_wp2
    go_ret
    exact ⟨rfl, by repeat (first | exact Below.refl _ _ | assumption | apply Below.drew | refine Below.setCell ?_ (by first | omega | (simp; done) | (simp; omega)) _ | refine Below.alloc ?_ (by first | omega | (simp; done) | (simp; omega)) _ | refine Below.call (by assumption) ?_ (by first | omega | (simp; done) | (simp; omega)))⟩
  · have d1 : decide ((m.ways.length : Int) < 2) = false := by simp; omega
    by_cases h2 : 41 < m.ways.length
    · have d2 : decide (41 < (m.ways.length : Int)) = true := by simp; omega
      clear h h1 h2
      go_enter Try.func20, Try.ntmps20
      go_wp2
      go_ret
      exact ⟨rfl, by repeat (first | exact Below.refl _ _ | assumption | apply Below.drew | refine Below.setCell ?_ (by first | omega | (simp; done) | (simp; omega)) _ | refine Below.alloc ?_ (by first | omega | (simp; done) | (simp; omega)) _ | refine Below.call (by assumption) ?_ (by first | omega | (simp; done) | (simp; omega)))⟩
    · have d2 : decide (41 < (m.ways.length : Int)) = false := by simp; omega
      have h3 : 100 < m.rocks.length := by simp [sizesB] at h; omega
      have d3 : decide (100 < (m.rocks.length : Int)) = true := by simp; omega
      clear h h1 h2 h3
      go_enter Try.func20, Try.ntmps20
      go_wp2
      go_ret
      exact ⟨rfl, by repeat (first | exact Below.refl _ _ | assumption | apply Below.drew | refine Below.setCell ?_ (by first | omega | (simp; done) | (simp; omega)) _ | refine Below.alloc ?_ (by first | omega | (simp; done) | (simp; omega)) _ | refine Below.call (by assumption) ?_ (by first | omega | (simp; done) | (simp; omega)))⟩

set_option maxRecDepth 4000 in
set_option maxHeartbeats 1600000 in
theorem rValid31_rest (m : Msn) (vw vh vr : Value) (w : World) (hm : MsnAt w.heap.size w m vw vh vr) (h : sizesB m = true) :
    Calls Try.prog 20 #[.agg (msnCells m vw vh vr)] w fun e w' => e = .returned (.bool (validB m)) ∧ Below w.heap.size w w' := by
  obtain ⟨n2, n41, nr⟩ := sizesB_true h
  have d1 : decide ((m.ways.length : Int) < 2) = false := by simp; omega
  have d2 : decide (41 < (m.ways.length : Int)) = false := by simp; omega
  have d3 : decide (100 < (m.rocks.length : Int)) = false := by simp; omega
  have hmH := Lib.hid hm
  have H0 := Has.new w (msnCells m vw vh vr) 26
  have H0H := Lib.hid H0
  obtain ⟨_, a1, cap1, hvw, _⟩ := hm.1
  obtain ⟨_, a2, cap2, hvr, hrc⟩ := hm.2.2
  subst hvw
  subst hvr
  have hrcH := Lib.hid hrc
  clear hm H0 h hrc
  unfold msnCells
  go_enter Try.func20, Try.ntmps20
  go_wp2
  go_loopw [3] (fun i wr => ∃ k : Nat, k ≤ m.ways.length ∧ i = .int .i64 k ∧ (∀ j, j < k → wayB j (wy m.ways j) = true) ∧ Has wr w.heap.size (msnCells m (.slice a1 m.ways.length (m.ways.length + cap1)) vh (.slice a2 m.rocks.length (m.rocks.length + cap2))) 26 ∧ Below w.heap.size w wr) (fun i _ => m.ways.length - (intOf i).toNat)
  case atStart => exact ⟨0, by omega, rfl, fun j hj => by omega, H0H.out, (Below.refl _ _).alloc (Nat.le_refl _) _⟩
  case round =>
    obtain ⟨k, hk, rfl, hall, H, hB⟩ := hrel
    obtain ⟨c0, c1, c2, c3, c4, c5, c6, c7, c8, c9, c10⟩ := msn_cells H
    have hall' := Lib.hid hall
    have HH := Lib.hid H
    have hz := hB.size
    have hsz := H.lt
    by_cases hlt : k < m.ways.length
    · have hwk := rway_any m (.slice a1 m.ways.length (m.ways.length + cap1)) vh (.slice a2 m.rocks.length (m.rocks.length + cap2)) k wr ((hmH.out.1.below hB).mono hB.size) hlt (by omega)
      have hwk' := Lib.hid hwk
      clear hwk hall H
      unfold msnCells at hwk'
      cases hpl : wayB k (wy m.ways k)
      · rw [hpl] at hwk'
        have hr : Hid (validB m = false) := validB_no (fun v => by have := waysB_at v.ways hlt; rw [hpl] at this; cases this)
        have hpl' := Lib.hid hpl
        clear hpl
        go_wp2_with (go_at_call 56; refine (hwk'.out).mono ?_; rintro e w1 ⟨rfl, hb1⟩; obtain ⟨hc1, hf1⟩ := bcell hb1; have hz1 := hb1.size; try simp at hz1)
        go_ret
        exact ⟨ret_bool hr.out.symm, by repeat (first | exact Below.refl _ _ | assumption | apply Below.drew | refine Below.setCell ?_ (by first | omega | (simp; done) | (simp; omega)) _ | refine Below.alloc ?_ (by first | omega | (simp; done) | (simp; omega)) _ | refine Below.call (by assumption) ?_ (by first | omega | (simp; done) | (simp; omega)))⟩
      · rw [hpl] at hwk'
        have hpl' := Lib.hid hpl
        clear hpl
        go_wp2_with (go_at_call 56; refine (hwk'.out).mono ?_; rintro e w1 ⟨rfl, hb1⟩; obtain ⟨hc1, hf1⟩ := bcell hb1; have hz1 := hb1.size; try simp at hz1)
        go_roundw
        case rel =>
          refine ⟨k + 1, by omega, by go_num, fun j hj => ?_, HH.out.below hb1 hsz, by repeat (first | exact Below.refl _ _ | assumption | apply Below.drew | refine Below.setCell ?_ (by first | omega | (simp; done) | (simp; omega)) _ | refine Below.alloc ?_ (by first | omega | (simp; done) | (simp; omega)) _ | refine Below.call (by assumption) ?_ (by first | omega | (simp; done) | (simp; omega)))⟩
          by_cases e : j = k
          · rw [e]; exact hpl'.out
          · exact hall'.out j (by omega)
        case measure => simp [intOf]; omega
    · obtain rfl : k = m.ways.length := by omega
      have hwb : Hid (waysB m.ways = true) := by
        show waysB m.ways = true
        simp only [waysB, decide_eq_true_eq]
        exact hall
      have hp1 := (hmH.out.2.1.below hB).mono hB.size
      have hp1' := Lib.hid hp1
      clear hp1 hall H
      have hrv := fun w1 hp => rvalid_any vh m.home w1 hp
      have hlm := fun w1 => limits_any m (.slice a1 m.ways.length (m.ways.length + cap1)) vh (.slice a2 m.rocks.length (m.rocks.length + cap2)) w1
      change ∀ w1, Calls _ _ _ _ fun e w' => e = .returned (.bool (limitsB m)) ∧ _ at hlm
      have hrv' := Lib.hid hrv
      have hlm' := Lib.hid hlm
      clear hrv hlm
      unfold msnCells at hlm'
      go_wp2_with fail
      refine (hrv'.out _ hp1'.out).mono ?_
      rintro e w1 ⟨rfl, hb1⟩
      have H1 := HH.out.below hb1 hsz
      have B1 := hB.trans (hb1.mono hz)
      have z1 := H1.lt
      obtain ⟨c0, c1, c2, c3, c4, c5, c6, c7, c8, c9, c10⟩ := msn_cells H1
      have H1' := Lib.hid H1
      clear H1 hb1
      go_wp2_with fail
      refine (hlm'.out _).mono ?_
      rintro e w2 ⟨rfl, hb2⟩
      have H2 := H1'.out.below hb2 z1
      have B2 := B1.trans (hb2.mono (by omega))
      have z2 := H2.lt
      obtain ⟨c0, c1, c2, c3, c4, c5, c6, c7, c8, c9, c10⟩ := msn_cells H2
      have H2' := Lib.hid H2
      clear H2 hb2
      cases hh : refValid m.home
      · have hr : Hid (validB m = false) := validB_no (fun v => by have := v.home; rw [go_eq_ref, hh] at this; cases this)
        go_wp2
        go_ret
        exact ⟨ret_bool hr.out.symm, B2⟩
      cases hl : limitsB m
      · have hr : Hid (validB m = false) := validB_no (fun v => by have := v.limits; rw [hl] at this; cases this)
        go_wp2
        go_ret
        exact ⟨ret_bool hr.out.symm, B2⟩
      obtain ⟨l1, l2, l3, l4, l5, l6⟩ := (limitsB_iff m).1 hl
      have hL := Lib.hid (And.intro hh (And.intro l1 (And.intro l2 (And.intro l3 (And.intro l4 (And.intro l5 l6))))))
      clear l1 l2 l3 l4 l5 l6
      go_wp2
      go_loopw [7] (fun i wr => ∃ k : Nat, k ≤ m.rocks.length ∧ i = .int .i64 k ∧ (∀ j, j < k → goValid (rk m.rocks j) = true) ∧ Has wr w.heap.size (msnCells m (.slice a1 m.ways.length (m.ways.length + cap1)) vh (.slice a2 m.rocks.length (m.rocks.length + cap2))) 26 ∧ Below w.heap.size w wr) (fun i _ => m.rocks.length - (intOf i).toNat)
      case atStart => exact ⟨0, by omega, rfl, fun j hj => by omega, H2'.out, B2⟩
      case round =>
        obtain ⟨k, hk, rfl, hall, H, hB3⟩ := hrel
        obtain ⟨c0, c1, c2, c3, c4, c5, c6, c7, c8, c9, c10⟩ := msn_cells H
        have hall' := Lib.hid hall
        have HH3 := Lib.hid H
        have hz3 := hB3.size
        have hsz3 := H.lt
        clear hall H
        by_cases hlt : k < m.rocks.length
        · obtain ⟨b, o, rfl, hb, hcs⟩ : ∃ b o, a2 = some ⟨b, o, none⟩ ∧ b < w.heap.size ∧ ∀ j, j < m.rocks.length → ∃ u, w.cell? ⟨b, o + j, none⟩ = some u ∧ PtsAt w.heap.size w u (rk m.rocks j) := by
            rcases hrcH.out with h0 | h
            · rw [h0] at hlt; simp at hlt
            · exact h
          obtain ⟨u, hu, hpu⟩ := hcs k hlt
          have cu := (hB3.cell (p := ⟨b, o + k, none⟩) hb).trans hu
          have hpu' := Lib.hid ((hpu.below hB3).mono hB3.size)
          clear hcs hu hpu
          cases hpl : refValid (rk m.rocks k)
          · have hr : Hid (validB m = false) := validB_no (fun v => by have := (of_decide_eq_true v.rocks) k hlt; rw [go_eq_ref, hpl] at this; cases this)
            go_wp2_with (go_at_call 57; refine (rvalid_any _ _ _ hpu'.out).mono ?_; rintro e w5 ⟨rfl, hb5⟩; obtain ⟨hc5, hf5⟩ := bcell hb5; have hz5 := hb5.size; try simp at hz5)
            go_ret
            exact ⟨ret_bool hr.out.symm, by repeat (first | exact Below.refl _ _ | assumption | apply Below.drew | refine Below.setCell ?_ (by first | omega | (simp; done) | (simp; omega)) _ | refine Below.alloc ?_ (by first | omega | (simp; done) | (simp; omega)) _ | refine Below.call (by assumption) ?_ (by first | omega | (simp; done) | (simp; omega)))⟩
          · go_wp2_with (go_at_call 57; refine (rvalid_any _ _ _ hpu'.out).mono ?_; rintro e w5 ⟨rfl, hb5⟩; obtain ⟨hc5, hf5⟩ := bcell hb5; have hz5 := hb5.size; try simp at hz5)
            go_roundw
            case rel =>
              refine ⟨k + 1, by omega, by go_num, fun j hj => ?_, HH3.out.below hb5 hsz3, by repeat (first | exact Below.refl _ _ | assumption | apply Below.drew | refine Below.setCell ?_ (by first | omega | (simp; done) | (simp; omega)) _ | refine Below.alloc ?_ (by first | omega | (simp; done) | (simp; omega)) _ | refine Below.call (by assumption) ?_ (by first | omega | (simp; done) | (simp; omega)))⟩
              by_cases e : j = k
              · rw [e, go_eq_ref]; exact hpl
              · exact hall'.out j (by omega)
            case measure => simp [intOf]; omega
        · obtain rfl : k = m.rocks.length := by omega
          have hrb : Hid (rocksB m.rocks = true) := by
            show rocksB m.rocks = true
            simp only [rocksB, decide_eq_true_eq]
            exact hall'.out
          obtain ⟨hh, l1, l2, l3, l4, l5, l6⟩ := hL.out
          have hgr := rgrown_any m (.slice a1 m.ways.length (m.ways.length + cap1)) vh (.slice a2 m.rocks.length (m.rocks.length + cap2)) wr l2 l1 ((hmH.out.1.below hB3).mono hB3.size) n2 n41 hwb.out
          have hv : Hid (validB m = decide (grownV m ≤ 100000)) := by
            show validB m = _
            rw [Bool.eq_iff_iff, validB_iff, decide_eq_true_iff]
            exact ⟨fun v => v.grown, fun g => ⟨n2, n41, nr, hwb.out, by rw [go_eq_ref]; exact hh, hrb.out, l1, l2, l3, l4, l5, l6, g⟩⟩
          have hgr' := Lib.hid hgr
          clear hgr hh l1 l2 l3 l4 l5 l6
          unfold msnCells at hgr'
          go_wp2_with (go_at_call 59; refine (hgr'.out).mono ?_; rintro e w5 ⟨rfl, hb5⟩; obtain ⟨hc5, hf5⟩ := bcell hb5; have hz5 := hb5.size; try simp at hz5)
          go_ret
          exact ⟨ret_bool hv.out.symm, by repeat (first | exact Below.refl _ _ | assumption | apply Below.drew | refine Below.setCell ?_ (by first | omega | (simp; done) | (simp; omega)) _ | refine Below.alloc ?_ (by first | omega | (simp; done) | (simp; omega)) _ | refine Below.call (by assumption) ?_ (by first | omega | (simp; done) | (simp; omega)))⟩

theorem rValid31_any (m : Msn) (vw vh vr : Value) (w : World) (hm : MsnAt w.heap.size w m vw vh vr) :
    Calls Try.prog 20 #[.agg (msnCells m vw vh vr)] w fun e w' => e = .returned (.bool (validB m)) ∧ Below w.heap.size w w' := by
  cases h : sizesB m
  · exact rValid31_size m vw vh vr w hm h
  · exact rValid31_rest m vw vh vr w hm h
end Go.Proofs.Ytjnjmpakmgmdbaa
