/- Contracts of the reference of layer 1. -/
import Derived.Test.YtjnjmpakmgmdbaaExactC
namespace Go.Proofs.Ytjnjmpakmgmdbaa
open Go.RowKit

def inB (n lo hi : Int) : Bool := decide (lo ≤ n ∧ n ≤ hi)
theorem inB_true {n lo hi : Int} (h : inB n lo hi = true) : lo ≤ n ∧ n ≤ hi := by simpa [inB] using h
theorem inB_false {n lo hi : Int} (h : inB n lo hi = false) : n < lo ∨ lo ≤ n ∧ hi < n := by
  have : ¬ (lo ≤ n ∧ n ≤ hi) := by simpa [inB] using h
  omega

theorem rin_any (n lo hi : Int) (w : World) :
    Calls Try.prog 83 #[.int .i64 n, .int .i64 lo, .int .i64 hi] w fun e w' => e = .returned (.bool (inB n lo hi)) ∧ w = w' := by
  cases h : inB n lo hi
  · rcases inB_false h with h1 | ⟨h1, h2⟩
    · have d1 : decide (lo ≤ n) = false := by simp; omega
      clear h
      go_enter Try.func83, Try.ntmps83
      go_wp2
      go_ret
      exact ⟨rfl, rfl⟩
    · have d1 : decide (lo ≤ n) = true := by simp; omega
      have d2 : decide (n ≤ hi) = false := by simp; omega
      clear h
      go_enter Try.func83, Try.ntmps83
      go_wp2
      go_ret
      exact ⟨rfl, rfl⟩
  · obtain ⟨h1, h2⟩ := inB_true h
    clear h
    go_enter Try.func83, Try.ntmps83
    go_wp2
    go_ret
    exact ⟨rfl, rfl⟩


theorem down_walk (a b q r q' : Int) (w : World) (hq : IntKind.i64.wrap (a.tdiv b) = q) (hr : a - q * b = r) (hm : IntKind.i64.wrap (q * b) = q * b) (h5 : ¬ b = 0)
    (q1 : -1000000000000000000 ≤ q) (q2 : q ≤ 1000000000000000000) (r1 : -1000000000000 < r) (r2 : r < 1000000000000)
    (hc : (r = 0 ∨ (r < 0 ∧ b < 0) ∨ (0 < r ∧ 0 < b)) ∧ q = q' ∨ ((r < 0 ∧ 0 < b) ∨ (0 < r ∧ b < 0)) ∧ q - 1 = q') :
    Calls Try.prog 95 #[.int .i64 a, .int .i64 b] w fun e w' => e = .returned (.int .i64 q') ∧ w = w' := by
  have hw : IntKind.i64.wrap r = r := IntWalk.i64_in _ (by omega)
  rcases hc with ⟨h | ⟨ha, hb⟩ | ⟨ha, hb⟩, e1⟩ | ⟨⟨ha, hb⟩ | ⟨ha, hb⟩, e1⟩
  · subst e1
    have d1 : (r != 0) = false := by simp [h]
    clear h
    go_enter Try.func95, Try.ntmps95
    go_wp2
    go_ret
    exact ⟨rfl, rfl⟩
  all_goals
    subst e1
    have d1 : (r != 0) = true := by rw [bne_iff_ne]; omega
    first | have d2 : decide (r < 0) = true := (by simp; omega) | have d2 : decide (r < 0) = false := (by simp; omega)
    first | have d3 : decide (b < 0) = true := (by simp; omega) | have d3 : decide (b < 0) = false := (by simp; omega)
    go_enter Try.func95, Try.ntmps95
    go_wp2
    go_ret
    exact ⟨rfl, rfl⟩

theorem down_any (a b : Int) (w : World) (h1 : -1000000000000000000 ≤ a) (h2 : a ≤ 1000000000000000000) (h3 : -1000000000000 ≤ b) (h4 : b ≤ 1000000000000) (h5 : ¬ b = 0) :
    Calls Try.prog 95 #[.int .i64 a, .int .i64 b] w fun e w' => e = .returned (.int .i64 (a.fdiv b)) ∧ w = w' := by
  have d := tdiv_bd a b h1 h2
  have m := tmod_bd a b h3 h4 h5
  have x : a.tmod b + b * a.tdiv b = a := Int.tmod_add_mul_tdiv a b
  have y : a.tdiv b * b = b * a.tdiv b := Int.mul_comm _ _
  have z : a - a.tdiv b * b = a.tmod b := by omega
  refine down_walk a b _ _ _ w (IntWalk.i64_in _ (by omega)) z (IntWalk.i64_in _ (by omega)) h5 d.1 d.2 m.1 m.2 ?_
  rcases fdiv_cases a b h5 with h | h
  · exact Or.inl ⟨h.1, h.2.1⟩
  · exact Or.inr ⟨h.1, h.2.1⟩
end Go.Proofs.Ytjnjmpakmgmdbaa
