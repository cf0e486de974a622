/- Contracts of package exact, second part. -/
import Derived.Test.YtjnjmpakmgmdbaaExact
namespace Go.Proofs.Ytjnjmpakmgmdbaa
open Go.RowKit

theorem divide_any (a b : Int) (w : World) (h1 : -1000000000000000000 ≤ a) (h2 : a ≤ 1000000000000000000) (h3 : -1000000000000 ≤ b) (h4 : b ≤ 1000000000000) (h5 : ¬ b = 0) :
    Calls Try.prog 104 #[.int .i64 a, .int .i64 b] w fun e w' => e = .returned (.agg #[.int .i64 (a.fdiv b), .int .i64 (a.fmod b)]) ∧ Below w.heap.size w w' := by
  have d := tdiv_bd a b h1 h2
  have m := tmod_bd a b h3 h4 h5
  exact divide_walk a b _ _ _ _ w (IntWalk.i64_in _ (by omega)) rfl h5 d.1 d.2 m.1 m.2 h3 h4 (fdiv_cases a b h5)

theorem up_any (q r : Int) (w : World) (h1 : -1000000000000000001 ≤ q) (h2 : q ≤ 1000000000000000000) :
    Calls Try.prog 101 #[.agg #[.int .i64 q, .int .i64 r]] w fun e w' => e = .returned (.int .i64 (upV q r)) ∧ w.alloc (.cells #[.int .i64 q, .int .i64 r] 118) = w' := by
  by_cases hr : r = 0
  · subst hr
    have ev : upV q 0 = q := rfl
    rw [ev]
    go_enter Try.func101, Try.ntmps101
    go_wp2
    go_ret
    exact ⟨rfl, rfl⟩
  · have d1 : (r == 0) = false := by simp [hr]
    have ev : upV q r = q + 1 := by simp [upV, hr]
    rw [ev]; clear ev
    go_enter Try.func101, Try.ntmps101
    go_wp2
    go_ret
    exact ⟨rfl, rfl⟩

/-- what Floor and Ceil find wrong -/
def badQ (a b : Int) : Bool := !wideB a || !wideB b || decide (b = 0)
theorem badQ_false {a b : Int} (h : badQ a b = false) : wideB a = true ∧ wideB b = true ∧ (b == 0) = false := by
  simp [badQ] at h; simp [h]
theorem badQ_true {a b : Int} (h : badQ a b = true) : wideB a = false ∨ wideB a = true ∧ (wideB b = false ∨ wideB b = true ∧ (b == 0) = true) := by
  cases h1 : wideB a <;> cases h2 : wideB b <;> simp [badQ, h1, h2] at h ⊢
  exact h
def floorV (a b : Int) : Int := if badQ a b = true then 0 else a.fdiv b
def ceilV (a b : Int) : Int := if badQ a b = true then 0 else cdiv a b
def quoE (a b : Int) : Int := if badQ a b = true then 1 else 0

theorem checked_bad (a b : Int) (f : Value) (w : World) (h : badQ a b = true) :
    Calls Try.prog 100 #[.int .i64 a, .int .i64 b, f] w fun e w' => e = .returned (.tuple #[.int .i64 0, .int .i64 1]) ∧ w = w' := by
  rcases badQ_true h with ha | ⟨ha, hb | ⟨hb, hc⟩⟩
  all_goals
    clear h
    go_enter Try.func100, Try.ntmps100
    go_wp2_with (go_at_call 103; refine (isWide_any _ _).mono ?_; rintro e w' ⟨rfl, rfl⟩)
    go_ret2
    exact ⟨rfl, rfl⟩


theorem ceil_any (a b : Int) (w : World) :
    Calls Try.prog 93 #[.int .i64 a, .int .i64 b] w fun e w' => e = .returned (.tuple #[.int .i64 (ceilV a b), .int .i64 (quoE a b)]) ∧ Below w.heap.size w w' := by
  cases h : badQ a b
  · have ev : ceilV a b = upV (a.fdiv b) (a.fmod b) := by simp [ceilV, cdiv, h]
    have ee : quoE a b = 0 := by simp [quoE, h]
    rw [ev, ee]; clear ev ee
    obtain ⟨ha, hb, hc⟩ := badQ_false h
    clear h
    have ba := wideB_true ha
    have bb := wideB_true hb
    have hc' : ¬ b = 0 := by simpa using hc
    have fb := fdiv_bd a b (by omega) (by omega) hc'
    go_enter Try.func93, Try.ntmps93
    go_wp2_with (first | (go_at_call 103; refine (isWide_any _ _).mono ?_; rintro e w' ⟨rfl, rfl⟩) | (go_at_call 104; refine (divide_any _ _ _ (by omega) (by omega) (by omega) (by omega) hc').mono ?_; rintro e w1 ⟨rfl, hb1⟩; have hz1 := hb1.size; try simp at hz1) | (go_at_call 101; refine (up_any _ _ _ (by omega) (by omega)).mono ?_; rintro e w' ⟨rfl, rfl⟩) | go_in)
    go_ret2
    exact ⟨rfl, by repeat (first | exact Below.refl _ _ | assumption | apply Below.drew | refine Below.setCell ?_ (by first | omega | (simp; done) | (simp; omega)) _ | refine Below.alloc ?_ (by first | omega | (simp; done) | (simp; omega)) _ | refine Below.call (by assumption) ?_ (by first | omega | (simp; done) | (simp; omega)))⟩
  · have ev : ceilV a b = 0 := by simp [ceilV, h]
    have ee : quoE a b = 1 := by simp [quoE, h]
    rw [ev, ee]; clear ev ee
    go_enter Try.func93, Try.ntmps93
    go_wp2_with (go_at_call 100; refine (checked_bad _ _ _ _ h).mono ?_; rintro e w' ⟨rfl, rfl⟩)
    go_ret2
    exact ⟨rfl, Below.refl _ _⟩

/-- what Scale finds wrong with its arguments -/
def badS (n a b : Int) : Bool := !wideB n || decide (a < 0) || decide (1000000 < a) || decide (b < 1) || decide (1000000 < b)
theorem badS_false {n a b : Int} (h : badS n a b = false) : wideB n = true ∧ 0 ≤ a ∧ a ≤ 1000000 ∧ 1 ≤ b ∧ b ≤ 1000000 := by
  simp [badS] at h; refine ⟨by simp [h], ?_⟩; omega
def badR (n a b : Int) : Bool := !wideB ((n * a).fdiv b) || !wideB (cdiv (n * a) b)
def scaleE (n a b : Int) : Int := if badS n a b = true then 1 else if badR n a b = true then 3 else 0
def scaleL (n a b : Int) : Int := if badS n a b = true then 0 else if badR n a b = true then 0 else (n * a).fdiv b
def scaleH (n a b : Int) : Int := if badS n a b = true then 0 else if badR n a b = true then 0 else cdiv (n * a) b

end Go.Proofs.Ytjnjmpakmgmdbaa
