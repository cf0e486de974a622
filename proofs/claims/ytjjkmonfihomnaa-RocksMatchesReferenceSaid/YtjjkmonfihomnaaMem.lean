/- How lists of points lie in memory; the reference's places, Less, Cross, Place. -/
import Derived.Test.YtjjkmonfihomnaaHullA
import Derived.LoopTactic
namespace Go.Proofs.Ytjjkmonfihomnaa
open Go.RowKit

/-- A slice value reads as a list of points, all of whose cells lie below block n0. -/
def PtsAt (n0 : Nat) (W : World) (v : Value) (l : List Pt) : Prop :=
  l.length ≤ 70368744177663 ∧ ∃ a cap, v = .slice a l.length (l.length + cap) ∧ (l = [] ∨ ∃ b o, a = some ⟨b, o, none⟩ ∧ b < n0 ∧
    ∀ j, j < l.length → W.cell? ⟨b, o + j * 2, none⟩ = some (.int .i64 (nth l j).x) ∧ W.cell? ⟨b, o + j * 2 + 1, none⟩ = some (.int .i64 (nth l j).y))

theorem PtsAt.below {n0 : Nat} {A B : World} (h : Below n0 A B) {v : Value} {l : List Pt} (hp : PtsAt n0 A v l) : PtsAt n0 B v l := by
  obtain ⟨hl, a, cap, e, hc⟩ := hp
  refine ⟨hl, a, cap, e, hc.imp id ?_⟩
  rintro ⟨b, o, e1, hb, hc⟩
  exact ⟨b, o, e1, hb, fun j hj => ⟨(h.cell (p := ⟨b, o + j * 2, none⟩) hb).trans (hc j hj).1, (h.cell (p := ⟨b, o + j * 2 + 1, none⟩) hb).trans (hc j hj).2⟩⟩
theorem PtsAt.mono {n0 n1 : Nat} {W : World} {v : Value} {l : List Pt} (hp : PtsAt n0 W v l) (h : n0 ≤ n1) : PtsAt n1 W v l := by
  obtain ⟨hl, a, cap, e, hc⟩ := hp
  refine ⟨hl, a, cap, e, hc.imp id ?_⟩
  rintro ⟨b, o, e1, hb, hc⟩
  exact ⟨b, o, e1, by omega, hc⟩

theorem rplace_any (x y : Int) (w : World) :
    Calls Try.prog 20 #[.agg #[.int .i64 x, .int .i64 y]] w fun e w' => e = .returned (.bool (placeB x y)) ∧ Below w.heap.size w w' := by
  by_cases h1 : -500000 ≤ x
  · by_cases h2 : x ≤ 500000
    · by_cases h3 : -500000 ≤ y
      · by_cases h4 : y ≤ 500000
        · have e : placeB x y = true := by simp [placeB]; omega
          rw [e]; clear e
          go_enter Try.func20, Try.ntmps20
          go_wp2
          go_ret
          exact ⟨rfl, by repeat (first | exact Below.refl _ _ | assumption | apply Below.drew | refine Below.setCell ?_ (by first | omega | (simp; done) | (simp; omega)) _ | refine Below.alloc ?_ (by first | omega | (simp; done) | (simp; omega)) _ | refine Below.call (by assumption) ?_ (by first | omega | (simp; done) | (simp; omega)))⟩
        · have e : placeB x y = false := by simp [placeB]; omega
          have d : decide (y ≤ 500000) = false := by simpa using h4
          rw [e]; clear e h4
          go_enter Try.func20, Try.ntmps20
          go_wp2
          go_ret
          exact ⟨rfl, by repeat (first | exact Below.refl _ _ | assumption | apply Below.drew | refine Below.setCell ?_ (by first | omega | (simp; done) | (simp; omega)) _ | refine Below.alloc ?_ (by first | omega | (simp; done) | (simp; omega)) _ | refine Below.call (by assumption) ?_ (by first | omega | (simp; done) | (simp; omega)))⟩
      · have e : placeB x y = false := by simp [placeB]; omega
        have d : decide (-500000 ≤ y) = false := by simpa using h3
        rw [e]; clear e h3
        go_enter Try.func20, Try.ntmps20
        go_wp2
        go_ret
        exact ⟨rfl, by repeat (first | exact Below.refl _ _ | assumption | apply Below.drew | refine Below.setCell ?_ (by first | omega | (simp; done) | (simp; omega)) _ | refine Below.alloc ?_ (by first | omega | (simp; done) | (simp; omega)) _ | refine Below.call (by assumption) ?_ (by first | omega | (simp; done) | (simp; omega)))⟩
    · have e : placeB x y = false := by simp [placeB]; omega
      have d : decide (x ≤ 500000) = false := by simpa using h2
      rw [e]; clear e h2
      go_enter Try.func20, Try.ntmps20
      go_wp2
      go_ret
      exact ⟨rfl, by repeat (first | exact Below.refl _ _ | assumption | apply Below.drew | refine Below.setCell ?_ (by first | omega | (simp; done) | (simp; omega)) _ | refine Below.alloc ?_ (by first | omega | (simp; done) | (simp; omega)) _ | refine Below.call (by assumption) ?_ (by first | omega | (simp; done) | (simp; omega)))⟩
  · have e : placeB x y = false := by simp [placeB]; omega
    have d : decide (-500000 ≤ x) = false := by simpa using h1
    rw [e]; clear e h1
    go_enter Try.func20, Try.ntmps20
    go_wp2
    go_ret
    exact ⟨rfl, by repeat (first | exact Below.refl _ _ | assumption | apply Below.drew | refine Below.setCell ?_ (by first | omega | (simp; done) | (simp; omega)) _ | refine Below.alloc ?_ (by first | omega | (simp; done) | (simp; omega)) _ | refine Below.call (by assumption) ?_ (by first | omega | (simp; done) | (simp; omega)))⟩

/-- all points are places -/
def allPl (l : List Pt) : Bool := decide (∀ j, j < l.length → placeP (nth l j) = true)

theorem places_any (v : Value) (l : List Pt) (w : World) (hp : PtsAt w.heap.size w v l) :
    Calls Try.prog 46 #[v] w fun e w' => e = .returned (.bool (allPl l)) ∧ Below w.heap.size w w' := by
  obtain ⟨hl, a, cap, rfl, hc⟩ := hp
  go_enter Try.func46, Try.ntmps46
  go_wp2
  go_loopw [3] (fun i wr => ∃ k : Nat, k ≤ l.length ∧ i = .int .i64 k ∧ (∀ j, j < k → placeP (nth l j) = true) ∧ Below w.heap.size w wr) (fun i _ => l.length - (intOf i).toNat)
  case atStart => exact ⟨0, Nat.zero_le _, rfl, fun j h => by omega, Below.refl _ _⟩
  case round =>
    obtain ⟨k, hk, rfl, hall, hB⟩ := hrel
    by_cases hlt : k < l.length
    · rcases hc with rfl | ⟨b, o, rfl, hb, hc⟩
      · simp at hlt
      have c1 := (hB.cell (p := ⟨b, o + k * 2, none⟩) hb).trans (hc k hlt).1
      have c2 := (hB.cell (p := ⟨b, o + k * 2 + 1, none⟩) hb).trans (hc k hlt).2
      have hall' := Lib.hid hall
      have hc' := Lib.hid hc
      clear hall hc
      have hz := hB.size
      cases hpl : placeB (nth l k).x (nth l k).y
      · have hr : Hid (allPl l = false) := by
          show allPl l = false
          simp only [allPl, decide_eq_false_iff_not]
          intro h
          have := h k hlt
          rw [placeP, hpl] at this
          cases this
        go_wp2_with (go_at_call 20; refine (rplace_any _ _ _).mono ?_; rintro e w1 ⟨rfl, hb1⟩; have hz1 := hb1.size; try simp at hz1)
        go_ret
        exact ⟨ret_bool hr.out.symm, by repeat (first | exact Below.refl _ _ | assumption | apply Below.drew | refine Below.setCell ?_ (by first | omega | (simp; done) | (simp; omega)) _ | refine Below.alloc ?_ (by first | omega | (simp; done) | (simp; omega)) _ | refine Below.call (by assumption) ?_ (by first | omega | (simp; done) | (simp; omega)))⟩
      · go_wp2_with (go_at_call 20; refine (rplace_any _ _ _).mono ?_; rintro e w1 ⟨rfl, hb1⟩; have hz1 := hb1.size; try simp at hz1)
        go_roundw
        case rel =>
          refine ⟨k + 1, by omega, by go_num, fun j hj => ?_, by repeat (first | exact Below.refl _ _ | assumption | apply Below.drew | refine Below.setCell ?_ (by first | omega | (simp; done) | (simp; omega)) _ | refine Below.alloc ?_ (by first | omega | (simp; done) | (simp; omega)) _ | refine Below.call (by assumption) ?_ (by first | omega | (simp; done) | (simp; omega)))⟩
          by_cases e : j = k
          · rw [e]; exact hpl
          · exact hall'.out j (by omega)
        case measure => simp [intOf]; omega
    · have hr : Hid (allPl l = true) := by
        show allPl l = true
        simp only [allPl, decide_eq_true_eq]
        intro j hj
        exact hall j (by omega)
      clear hall
      go_wp2
      go_ret
      exact ⟨ret_bool hr.out.symm, hB⟩
end Go.Proofs.Ytjjkmonfihomnaa
