/- The reference of layer 3: Less, Cross, Valid. -/
import Derived.Test.YtjnjmpakmgmdbaaHullV
namespace Go.Proofs.Ytjnjmpakmgmdbaa
open Go.RowKit Go.Shelf
attribute [local irreducible] wpQuiet

theorem cmpV_lt_iff (ax ay bx by' : Int) : cmpV ax ay bx by' < 0 ↔ ax < bx ∨ ax = bx ∧ ay < by' := by
  unfold cmpV orI cmpI
  repeat' split
  all_goals omega
def lessB (ax ay bx by' : Int) : Bool := decide (cmpV ax ay bx by' < 0)

theorem rless_any (ax ay bx by' : Int) (w : World) :
    Calls Try.prog 85 #[.agg #[.int .i64 ax, .int .i64 ay], .agg #[.int .i64 bx, .int .i64 by']] w fun e w' => e = .returned (.bool (lessB ax ay bx by')) ∧ Below w.heap.size w w' := by
  rcases Int.lt_trichotomy ax bx with h | rfl | h
  · have e : lessB ax ay bx by' = true := by simp only [lessB, decide_eq_true_eq, cmpV_lt_iff]; omega
    rw [e]; clear e
    go_enter Try.func85, Try.ntmps85
    go_wp2
    go_ret
    exact ⟨rfl, by repeat (first | exact Below.refl _ _ | assumption | apply Below.drew | refine Below.setCell ?_ (by first | omega | (simp; done) | (simp; omega)) _ | refine Below.alloc ?_ (by first | omega | (simp; done) | (simp; omega)) _ | refine Below.call (by assumption) ?_ (by first | omega | (simp; done) | (simp; omega)))⟩
  · by_cases h2 : ay < by'
    · have e : lessB ax ay ax by' = true := by simp only [lessB, decide_eq_true_eq, cmpV_lt_iff]; exact Or.inr ⟨trivial, h2⟩
      rw [e]; clear e
      go_enter Try.func85, Try.ntmps85
      go_wp2
      go_ret
      exact ⟨rfl, by repeat (first | exact Below.refl _ _ | assumption | apply Below.drew | refine Below.setCell ?_ (by first | omega | (simp; done) | (simp; omega)) _ | refine Below.alloc ?_ (by first | omega | (simp; done) | (simp; omega)) _ | refine Below.call (by assumption) ?_ (by first | omega | (simp; done) | (simp; omega)))⟩
    · have e : lessB ax ay ax by' = false := by simp only [lessB, decide_eq_false_iff_not, cmpV_lt_iff]; rintro (h | ⟨_, h⟩) <;> omega
      have d : decide (ay < by') = false := by simpa using h2
      rw [e]; clear e
      go_enter Try.func85, Try.ntmps85
      go_wp2
      go_ret
      exact ⟨rfl, by repeat (first | exact Below.refl _ _ | assumption | apply Below.drew | refine Below.setCell ?_ (by first | omega | (simp; done) | (simp; omega)) _ | refine Below.alloc ?_ (by first | omega | (simp; done) | (simp; omega)) _ | refine Below.call (by assumption) ?_ (by first | omega | (simp; done) | (simp; omega)))⟩
  · have e : lessB ax ay bx by' = false := by simp only [lessB, decide_eq_false_iff_not, cmpV_lt_iff]; omega
    have d : decide (ax < bx) = false := by simp; omega
    have d2 : (ax == bx) = false := by simp; omega
    rw [e]; clear e
    go_enter Try.func85, Try.ntmps85
    go_wp2
    go_ret
    exact ⟨rfl, by repeat (first | exact Below.refl _ _ | assumption | apply Below.drew | refine Below.setCell ?_ (by first | omega | (simp; done) | (simp; omega)) _ | refine Below.alloc ?_ (by first | omega | (simp; done) | (simp; omega)) _ | refine Below.call (by assumption) ?_ (by first | omega | (simp; done) | (simp; omega)))⟩

theorem cross_any (ax ay bx by' cx cy : Int) (w : World) (a1 : -1000000 ≤ ax) (a2 : ax ≤ 1000000) (a3 : -1000000 ≤ ay) (a4 : ay ≤ 1000000)
    (b1 : -1000000 ≤ bx) (b2 : bx ≤ 1000000) (b3 : -1000000 ≤ by') (b4 : by' ≤ 1000000) (c1 : -1000000 ≤ cx) (c2 : cx ≤ 1000000) (c3 : -1000000 ≤ cy) (c4 : cy ≤ 1000000) :
    Calls Try.prog 86 #[.agg #[.int .i64 ax, .int .i64 ay], .agg #[.int .i64 bx, .int .i64 by'], .agg #[.int .i64 cx, .int .i64 cy]] w fun e w' => e = .returned (.int .i64 (turnV ax ay bx by' cx cy)) ∧ Below w.heap.size w w' := by
  have p := prod_bd (a := bx - ax) (b := cy - ay) (m := 2000000) (n := 2000000) (by omega) (by omega) (by omega) (by omega)
  have q := prod_bd (a := by' - ay) (b := cx - ax) (m := 2000000) (n := 2000000) (by omega) (by omega) (by omega) (by omega)
  have p' : IntKind.i64.wrap ((bx - ax) * (cy - ay)) = (bx - ax) * (cy - ay) := IntWalk.i64_in _ (by omega)
  have q' : IntKind.i64.wrap ((by' - ay) * (cx - ax)) = (by' - ay) * (cx - ax) := IntWalk.i64_in _ (by omega)
  have r' : IntKind.i64.wrap ((bx - ax) * (cy - ay) - (by' - ay) * (cx - ax)) = (bx - ax) * (cy - ay) - (by' - ay) * (cx - ax) := IntWalk.i64_in _ (by omega)
  clear p q
  unfold turnV
  go_enter Try.func86, Try.ntmps86
  go_wp2
  go_ret
  exact ⟨rfl, by repeat (first | exact Below.refl _ _ | assumption | apply Below.drew | refine Below.setCell ?_ (by first | omega | (simp; done) | (simp; omega)) _ | refine Below.alloc ?_ (by first | omega | (simp; done) | (simp; omega)) _ | refine Below.call (by assumption) ?_ (by first | omega | (simp; done) | (simp; omega)))⟩

def RefValid (l : List Pt) : Prop := 1 ≤ l.length ∧ l.length ≤ 64 ∧ (∀ k, k < l.length → placeP (nth l k) = true) ∧ (∀ k, 1 ≤ k → k < l.length → cmpP (nth l 0) (nth l k) < 0) ∧
  (2 < l.length → ∀ i, i < l.length → ∀ k, k < l.length → k ≠ i → k ≠ (i + 1) % l.length → 0 < turnP (nth l i) (nth l ((i + 1) % l.length)) (nth l k))
open Classical in
noncomputable def refValid (l : List Pt) : Bool := decide (RefValid l)

/-- the corners from 1 to k - 1 are greater than the first one -/
def lessTo (l : List Pt) (k : Nat) : Prop := ∀ j, 1 ≤ j → j < k → cmpP (nth l 0) (nth l j) < 0
/-- side i has all corners before k on its left -/
def leftTo (l : List Pt) (i k : Nat) : Prop := ∀ j, j < k → j ≠ i → j ≠ (i + 1) % l.length → 0 < turnP (nth l i) (nth l ((i + 1) % l.length)) (nth l j)

theorem rvalid_size (v : Value) (l : List Pt) (w : World) (hp : PtsAt w.heap.size w v l) (hs : l.length < 1 ∨ 64 < l.length) :
    Calls Try.prog 57 #[v] w fun e w' => e = .returned (.bool (refValid l)) ∧ Below w.heap.size w w' := by
  have hr : refValid l = false := by simp only [refValid, decide_eq_false_iff_not]; rintro ⟨h1, h2, _⟩; omega
  rw [hr]; clear hr
  obtain ⟨hl, a, cap, rfl, hc⟩ := hp
  clear hc
  rcases hs with hs | hs
  · have d : decide ((l.length : Int) < 1) = true := by simp; omega
    have hs' := Lib.hid hs
    clear hs
    go_enter Try.func57, Try.ntmps57
    go_wp2
    go_ret
    exact ⟨rfl, by repeat (first | exact Below.refl _ _ | assumption | apply Below.drew | refine Below.setCell ?_ (by first | omega | (simp; done) | (simp; omega)) _ | refine Below.alloc ?_ (by first | omega | (simp; done) | (simp; omega)) _ | refine Below.call (by assumption) ?_ (by first | omega | (simp; done) | (simp; omega)))⟩
  · have d : decide ((l.length : Int) < 1) = false := by simp; omega
    have d : decide (64 < (l.length : Int)) = true := by simp; omega
    have hs' := Lib.hid hs
    clear hs
    go_enter Try.func57, Try.ntmps57
    go_wp2
    go_ret
    exact ⟨rfl, by repeat (first | exact Below.refl _ _ | assumption | apply Below.drew | refine Below.setCell ?_ (by first | omega | (simp; done) | (simp; omega)) _ | refine Below.alloc ?_ (by first | omega | (simp; done) | (simp; omega)) _ | refine Below.call (by assumption) ?_ (by first | omega | (simp; done) | (simp; omega)))⟩
end Go.Proofs.Ytjnjmpakmgmdbaa
