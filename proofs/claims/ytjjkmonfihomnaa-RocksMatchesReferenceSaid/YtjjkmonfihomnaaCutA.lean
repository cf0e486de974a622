/- package cut: turn, crosses, floor; the reference's Down, Up in a wider range, differ. -/
import Derived.Test.YtjjkmonfihomnaaHullV
import Derived.Test.YtjjkmonfihomnaaRefA
namespace Go.Proofs.Ytjjkmonfihomnaa
open Go.RowKit
attribute [local irreducible] wpQuiet

theorem tdiv_wd (a b : Int) (h1 : -4000000000000000000 ≤ a) (h2 : a ≤ 4000000000000000000) : -4000000000000000000 ≤ a.tdiv b ∧ a.tdiv b ≤ 4000000000000000000 := by
  have h := Int.natAbs_tdiv a b
  have h' : a.natAbs.div b.natAbs ≤ a.natAbs := Nat.div_le_self a.natAbs b.natAbs
  rw [← h] at h'
  omega
theorem tmod_wd (a b : Int) (h3 : -8000000000000 ≤ b) (h4 : b ≤ 8000000000000) (hb : b ≠ 0) : -8000000000000 < a.tmod b ∧ a.tmod b < 8000000000000 := by
  have h := Int.natAbs_tmod a b
  have h' := Nat.mod_lt a.natAbs (y := b.natAbs) (by omega)
  rw [← h] at h'
  omega
theorem fdiv_wd (a b : Int) (h1 : -4000000000000000000 ≤ a) (h2 : a ≤ 4000000000000000000) (hb : b ≠ 0) : -4000000000000000001 ≤ a.fdiv b ∧ a.fdiv b ≤ 4000000000000000000 := by
  rcases fdiv_cases a b hb with h | h
  · have := tdiv_wd a b h1 h2; omega
  · have := tdiv_wd a b h1 h2; omega
theorem down_wd (a b : Int) (w : World) (h1 : -4000000000000000000 ≤ a) (h2 : a ≤ 4000000000000000000) (h3 : -8000000000000 ≤ b) (h4 : b ≤ 8000000000000) (h5 : ¬ b = 0) :
    Calls Try.prog 129 #[.int .i64 a, .int .i64 b] w fun e w' => e = .returned (.int .i64 (a.fdiv b)) ∧ w = w' := by
  have d := tdiv_wd a b h1 h2
  have m := tmod_wd a b h3 h4 h5
  have x : a.tmod b + b * a.tdiv b = a := Int.tmod_add_mul_tdiv a b
  have y : a.tdiv b * b = b * a.tdiv b := Int.mul_comm _ _
  have z : a - a.tdiv b * b = a.tmod b := by omega
  refine down_walk a b _ _ _ w (IntWalk.i64_in _ (by omega)) z (IntWalk.i64_in _ (by omega)) h5 (by omega) (by omega) (by omega) (by omega) ?_
  rcases fdiv_cases a b h5 with h | h
  · exact Or.inl ⟨h.1, h.2.1⟩
  · exact Or.inr ⟨h.1, h.2.1⟩
theorem rup_wd (a b : Int) (w : World) (h1 : -4000000000000000000 ≤ a) (h2 : a ≤ 4000000000000000000) (h3 : -8000000000000 ≤ b) (h4 : b ≤ 8000000000000) (h5 : ¬ b = 0) :
    Calls Try.prog 130 #[.int .i64 a, .int .i64 b] w fun e w' => e = .returned (.int .i64 (cdiv a b)) ∧ w = w' := by
  have f := fdiv_wd (-a) b (by omega) (by omega) h5
  rw [← cdiv_neg a b h5]
  go_enter Try.func130, Try.ntmps130
  go_wp2_with (go_at_call 129; refine (down_wd _ _ _ (by omega) (by omega) h3 h4 h5).mono ?_; rintro e w' ⟨rfl, rfl⟩)
  go_ret
  exact ⟨rfl, rfl⟩

theorem cturn_any (ax ay bx by' cx cy : Int) (w : World) (a1 : -1000000 ≤ ax) (a2 : ax ≤ 1000000) (a3 : -1000000 ≤ ay) (a4 : ay ≤ 1000000)
    (b1 : -1000000 ≤ bx) (b2 : bx ≤ 1000000) (b3 : -1000000 ≤ by') (b4 : by' ≤ 1000000) (c1 : -1000000 ≤ cx) (c2 : cx ≤ 1000000) (c3 : -1000000 ≤ cy) (c4 : cy ≤ 1000000) :
    Calls Try.prog 107 #[.agg #[.int .i64 ax, .int .i64 ay], .agg #[.int .i64 bx, .int .i64 by'], .agg #[.int .i64 cx, .int .i64 cy]] w fun e w' => e = .returned (.int .i64 (turnV ax ay bx by' cx cy)) ∧ Below w.heap.size w w' := by
  have p := prod_bd (a := bx - ax) (b := cy - ay) (m := 2000000) (n := 2000000) (by omega) (by omega) (by omega) (by omega)
  have q := prod_bd (a := by' - ay) (b := cx - ax) (m := 2000000) (n := 2000000) (by omega) (by omega) (by omega) (by omega)
  have p' : IntKind.i64.wrap ((bx - ax) * (cy - ay)) = (bx - ax) * (cy - ay) := IntWalk.i64_in _ (by omega)
  have q' : IntKind.i64.wrap ((by' - ay) * (cx - ax)) = (by' - ay) * (cx - ax) := IntWalk.i64_in _ (by omega)
  have r' : IntKind.i64.wrap ((bx - ax) * (cy - ay) - (by' - ay) * (cx - ax)) = (bx - ax) * (cy - ay) - (by' - ay) * (cx - ax) := IntWalk.i64_in _ (by omega)
  clear p q
  unfold turnV
  go_enter Try.func107, Try.ntmps107
  go_wp2
  go_ret
  exact ⟨rfl, by repeat (first | exact Below.refl _ _ | assumption | apply Below.drew | refine Below.setCell ?_ (by first | omega | (simp; done) | (simp; omega)) _ | refine Below.alloc ?_ (by first | omega | (simp; done) | (simp; omega)) _ | refine Below.call (by assumption) ?_ (by first | omega | (simp; done) | (simp; omega)))⟩

/-- two numbers have different signs -/
def crossB (s t : Int) : Bool := decide (s < 0 ∧ 0 < t ∨ 0 < s ∧ t < 0)
theorem crosses_any (s t : Int) (w : World) :
    Calls Try.prog 108 #[.int .i64 s, .int .i64 t] w fun e w' => e = .returned (.bool (crossB s t)) ∧ w = w' := by
  by_cases h1 : s < 0
  · have d1 : decide (s < 0) = true := decide_eq_true h1
    have d3 : decide (s > 0) = false := by rw [decide_eq_false_iff_not]; omega
    by_cases h2 : 0 < t
    · have d2 : decide (t > 0) = true := decide_eq_true h2
      have e : crossB s t = true := decide_eq_true (.inl ⟨h1, h2⟩)
      rw [e]; clear e
      go_enter Try.func108, Try.ntmps108
      go_wp2
      go_ret
      exact ⟨rfl, rfl⟩
    · have d2 : decide (t > 0) = false := by rw [decide_eq_false_iff_not]; omega
      have e : crossB s t = false := decide_eq_false (by omega)
      rw [e]; clear e
      go_enter Try.func108, Try.ntmps108
      go_wp2
      go_ret
      exact ⟨rfl, rfl⟩
  · have d1 : decide (s < 0) = false := decide_eq_false h1
    by_cases h3 : 0 < s
    · have d3 : decide (s > 0) = true := decide_eq_true h3
      by_cases h4 : t < 0
      · have d4 : decide (t < 0) = true := decide_eq_true h4
        have e : crossB s t = true := decide_eq_true (.inr ⟨h3, h4⟩)
        rw [e]; clear e
        go_enter Try.func108, Try.ntmps108
        go_wp2
        go_ret
        exact ⟨rfl, rfl⟩
      · have d4 : decide (t < 0) = false := decide_eq_false h4
        have e : crossB s t = false := decide_eq_false (by omega)
        rw [e]; clear e
        go_enter Try.func108, Try.ntmps108
        go_wp2
        go_ret
        exact ⟨rfl, rfl⟩
    · have d3 : decide (s > 0) = false := decide_eq_false h3
      have e : crossB s t = false := decide_eq_false (by omega)
      rw [e]; clear e
      go_enter Try.func108, Try.ntmps108
      go_wp2
      go_ret
      exact ⟨rfl, rfl⟩
theorem differ_any (s t : Int) (w : World) :
    Calls Try.prog 112 #[.int .i64 s, .int .i64 t] w fun e w' => e = .returned (.bool (crossB s t)) ∧ w = w' := by
  by_cases h1 : s < 0
  · have d1 : decide (s < 0) = true := decide_eq_true h1
    have d3 : decide (s > 0) = false := by rw [decide_eq_false_iff_not]; omega
    by_cases h2 : 0 < t
    · have d2 : decide (t > 0) = true := decide_eq_true h2
      have e : crossB s t = true := decide_eq_true (.inl ⟨h1, h2⟩)
      rw [e]; clear e
      go_enter Try.func112, Try.ntmps112
      go_wp2
      go_ret
      exact ⟨rfl, rfl⟩
    · have d2 : decide (t > 0) = false := by rw [decide_eq_false_iff_not]; omega
      have e : crossB s t = false := decide_eq_false (by omega)
      rw [e]; clear e
      go_enter Try.func112, Try.ntmps112
      go_wp2
      go_ret
      exact ⟨rfl, rfl⟩
  · have d1 : decide (s < 0) = false := decide_eq_false h1
    by_cases h3 : 0 < s
    · have d3 : decide (s > 0) = true := decide_eq_true h3
      by_cases h4 : t < 0
      · have d4 : decide (t < 0) = true := decide_eq_true h4
        have e : crossB s t = true := decide_eq_true (.inr ⟨h3, h4⟩)
        rw [e]; clear e
        go_enter Try.func112, Try.ntmps112
        go_wp2
        go_ret
        exact ⟨rfl, rfl⟩
      · have d4 : decide (t < 0) = false := decide_eq_false h4
        have e : crossB s t = false := decide_eq_false (by omega)
        rw [e]; clear e
        go_enter Try.func112, Try.ntmps112
        go_wp2
        go_ret
        exact ⟨rfl, rfl⟩
    · have d3 : decide (s > 0) = false := decide_eq_false h3
      have e : crossB s t = false := decide_eq_false (by omega)
      rw [e]; clear e
      go_enter Try.func112, Try.ntmps112
      go_wp2
      go_ret
      exact ⟨rfl, rfl⟩

theorem floor_walk (a b q r q' : Int) (w : World) (hq : IntKind.i64.wrap (a.tdiv b) = q) (hr : a.tmod b = r) (h5 : ¬ b = 0) (q1 : -5000000000000000000 ≤ q) (q2 : q ≤ 5000000000000000000)
    (hc : r = 0 ∧ q = q' ∨ ¬ r = 0 ∧ ((a < 0 ↔ b < 0) ∧ q = q' ∨ ¬ (a < 0 ↔ b < 0) ∧ q - 1 = q')) :
    Calls Try.prog 126 #[.int .i64 a, .int .i64 b] w fun e w' => e = .returned (.int .i64 q') ∧ w = w' := by
  have hw : IntKind.i64.wrap (q - 1) = q - 1 := IntWalk.i64_in _ (by omega)
  have hb0 : (b == 0) = false := by simpa using h5
  rcases hc with ⟨h, e1⟩ | ⟨h, hc⟩
  · subst e1
    have d1 : (r != 0) = false := by simp [h]
    clear h
    go_enter Try.func126, Try.ntmps126
    go_wp2
    go_ret
    exact ⟨rfl, rfl⟩
  · have d1 : (r != 0) = true := by simpa [bne_iff_ne] using h
    by_cases ha : a < 0
    · have d2 : decide (a < 0) = true := decide_eq_true ha
      by_cases hb : b < 0
      · have d3 : decide (b < 0) = true := decide_eq_true hb
        rcases hc with ⟨_, e1⟩ | ⟨h1, _⟩
        · subst e1
          go_enter Try.func126, Try.ntmps126
          go_wp2
          go_ret
          exact ⟨rfl, rfl⟩
        · exact absurd (by simp [ha, hb]) h1
      · have d3 : decide (b < 0) = false := decide_eq_false hb
        rcases hc with ⟨h1, _⟩ | ⟨_, e1⟩
        · exact absurd (h1.1 ha) hb
        · subst e1
          go_enter Try.func126, Try.ntmps126
          go_wp2
          go_ret
          exact ⟨rfl, rfl⟩
    · have d2 : decide (a < 0) = false := decide_eq_false ha
      by_cases hb : b < 0
      · have d3 : decide (b < 0) = true := decide_eq_true hb
        rcases hc with ⟨h1, _⟩ | ⟨_, e1⟩
        · exact absurd (h1.2 hb) ha
        · subst e1
          go_enter Try.func126, Try.ntmps126
          go_wp2
          go_ret
          exact ⟨rfl, rfl⟩
      · have d3 : decide (b < 0) = false := decide_eq_false hb
        rcases hc with ⟨_, e1⟩ | ⟨h1, _⟩
        · subst e1
          go_enter Try.func126, Try.ntmps126
          go_wp2
          go_ret
          exact ⟨rfl, rfl⟩
        · exact absurd (by simp [ha, hb]) h1
theorem floor_any (a b : Int) (w : World) (h1 : -4000000000000000000 ≤ a) (h2 : a ≤ 4000000000000000000) (h3 : -8000000000000 ≤ b) (h4 : b ≤ 8000000000000) (h5 : ¬ b = 0) :
    Calls Try.prog 126 #[.int .i64 a, .int .i64 b] w fun e w' => e = .returned (.int .i64 (a.fdiv b)) ∧ w = w' := by
  have d := tdiv_wd a b h1 h2
  have sg : ¬ a.tmod b = 0 → ((a.tmod b < 0 ∧ a < 0) ∨ (0 < a.tmod b ∧ 0 < a)) := by
    intro h
    rcases Int.lt_trichotomy a 0 with ha | ha | ha
    · have := Int.tmod_nonneg (a := -a) b (by omega)
      rw [Int.neg_tmod] at this
      omega
    · subst ha; simp at h
    · have := Int.tmod_nonneg (a := a) b (by omega)
      omega
  refine floor_walk a b _ _ _ w (IntWalk.i64_in _ (by omega)) rfl h5 (by omega) (by omega) ?_
  rcases fdiv_cases a b h5 with h | h
  · by_cases hz : a.tmod b = 0
    · exact Or.inl ⟨hz, h.2.1⟩
    · refine Or.inr ⟨hz, Or.inl ⟨?_, h.2.1⟩⟩
      have := sg hz
      omega
  · have hz : ¬ a.tmod b = 0 := by omega
    refine Or.inr ⟨hz, Or.inr ⟨?_, h.2.1⟩⟩
    have := sg hz
    omega
end Go.Proofs.Ytjjkmonfihomnaa
