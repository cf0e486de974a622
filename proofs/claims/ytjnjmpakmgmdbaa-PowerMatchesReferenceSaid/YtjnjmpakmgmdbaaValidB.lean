/- mission.Valid's closures on the lists: sizes, ways, rocks. -/
import Derived.Test.YtjnjmpakmgmdbaaValidA
namespace Go.Proofs.Ytjnjmpakmgmdbaa
open Go.RowKit

def sizesB (m : Msn) : Bool := decide (2 ≤ m.ways.length ∧ m.ways.length ≤ 41 ∧ m.rocks.length ≤ 100)

theorem v1_any (B : Nat) (m : Msn) (vw vh vr : Value) (w : World) (H : MsnBox w B m vw vh vr) (hw : WaysAt w.heap.size w vw m.ways) (hr : RocksAt w.heap.size w vr m.rocks) :
    Calls Try.prog 39 #[.pointer (some ⟨B, 0, none⟩)] w fun e w' => e = .returned (.bool (sizesB m)) ∧ Below w.heap.size w w' := by
  obtain ⟨c0, c1, c2, c3, c4, c5, c6, c7, c8, c9, c10⟩ := msn_cells H
  obtain ⟨_, a1, cap1, rfl, hc1⟩ := hw
  obtain ⟨_, a2, cap2, rfl, hc2⟩ := hr
  clear hc1 hc2
  by_cases h1 : 2 ≤ m.ways.length
  · by_cases h2 : m.ways.length ≤ 41
    · by_cases h3 : m.rocks.length ≤ 100
      · have e : sizesB m = true := by simp [sizesB]; omega
        have d1 : decide (2 ≤ (m.ways.length : Int)) = true := by simp; omega
        have d2 : decide ((m.ways.length : Int) ≤ 41) = true := by simp; omega
        have d3 : decide ((m.rocks.length : Int) ≤ 100) = true := by simp; omega
        rw [e]; clear e h1 h2 h3
        go_enter Try.func39, Try.ntmps39
        go_wp2
        go_ret
        exact ⟨rfl, by repeat (first | exact Below.refl _ _ | assumption | apply Below.drew | refine Below.setCell ?_ (by first | omega | (simp; done) | (simp; omega)) _ | refine Below.alloc ?_ (by first | omega | (simp; done) | (simp; omega)) _ | refine Below.call (by assumption) ?_ (by first | omega | (simp; done) | (simp; omega)))⟩
      · have e : sizesB m = false := by simp [sizesB]; omega
        have d1 : decide (2 ≤ (m.ways.length : Int)) = true := by simp; omega
        have d2 : decide ((m.ways.length : Int) ≤ 41) = true := by simp; omega
        have d3 : decide ((m.rocks.length : Int) ≤ 100) = false := by simp; omega
        rw [e]; clear e h1 h2 h3
        go_enter Try.func39, Try.ntmps39
        go_wp2
        go_ret
        exact ⟨rfl, by repeat (first | exact Below.refl _ _ | assumption | apply Below.drew | refine Below.setCell ?_ (by first | omega | (simp; done) | (simp; omega)) _ | refine Below.alloc ?_ (by first | omega | (simp; done) | (simp; omega)) _ | refine Below.call (by assumption) ?_ (by first | omega | (simp; done) | (simp; omega)))⟩
    · have e : sizesB m = false := by simp [sizesB]; omega
      have d1 : decide (2 ≤ (m.ways.length : Int)) = true := by simp; omega
      have d2 : decide ((m.ways.length : Int) ≤ 41) = false := by simp; omega
      rw [e]; clear e h1 h2
      go_enter Try.func39, Try.ntmps39
      go_wp2
      go_ret
      exact ⟨rfl, by repeat (first | exact Below.refl _ _ | assumption | apply Below.drew | refine Below.setCell ?_ (by first | omega | (simp; done) | (simp; omega)) _ | refine Below.alloc ?_ (by first | omega | (simp; done) | (simp; omega)) _ | refine Below.call (by assumption) ?_ (by first | omega | (simp; done) | (simp; omega)))⟩
  · have e : sizesB m = false := by simp [sizesB]; omega
    have d1 : decide (2 ≤ (m.ways.length : Int)) = false := by simp; omega
    rw [e]; clear e h1
    go_enter Try.func39, Try.ntmps39
    go_wp2
    go_ret
    exact ⟨rfl, by repeat (first | exact Below.refl _ _ | assumption | apply Below.drew | refine Below.setCell ?_ (by first | omega | (simp; done) | (simp; omega)) _ | refine Below.alloc ?_ (by first | omega | (simp; done) | (simp; omega)) _ | refine Below.call (by assumption) ?_ (by first | omega | (simp; done) | (simp; omega)))⟩

theorem v41_any (v : Value) (l : List Pt) (w : World) (hp : PtsAt w.heap.size w v l) :
    Calls Try.prog 46 #[v] w fun e w' => e = .returned (.bool (!goValid l)) ∧ Below w.heap.size w w' := by
  cases h : goValid l
  · go_enter Try.func46, Try.ntmps46
    go_wp2_with (go_at_call 43; refine (hullValid_any _ _ _ hp).mono ?_; rintro e w1 ⟨rfl, hb1⟩; have hz1 := hb1.size; try simp at hz1)
    go_ret
    exact ⟨rfl, by repeat (first | exact Below.refl _ _ | assumption | apply Below.drew | refine Below.setCell ?_ (by first | omega | (simp; done) | (simp; omega)) _ | refine Below.alloc ?_ (by first | omega | (simp; done) | (simp; omega)) _ | refine Below.call (by assumption) ?_ (by first | omega | (simp; done) | (simp; omega)))⟩
  · go_enter Try.func46, Try.ntmps46
    go_wp2_with (go_at_call 43; refine (hullValid_any _ _ _ hp).mono ?_; rintro e w1 ⟨rfl, hb1⟩; have hz1 := hb1.size; try simp at hz1)
    go_ret
    exact ⟨rfl, by repeat (first | exact Below.refl _ _ | assumption | apply Below.drew | refine Below.setCell ?_ (by first | omega | (simp; done) | (simp; omega)) _ | refine Below.alloc ?_ (by first | omega | (simp; done) | (simp; omega)) _ | refine Below.call (by assumption) ?_ (by first | omega | (simp; done) | (simp; omega)))⟩
end Go.Proofs.Ytjnjmpakmgmdbaa
