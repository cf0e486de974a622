/- Contracts of the reference of layer 1, second part. -/
import Derived.Test.YtjnjmpakmgmdbaaRefA
import Derived.LoopTactic
namespace Go.Proofs.Ytjnjmpakmgmdbaa
open Go.RowKit

theorem rup_any (a b : Int) (w : World) (h1 : -1000000000000000000 ≤ a) (h2 : a ≤ 1000000000000000000) (h3 : -1000000000000 ≤ b) (h4 : b ≤ 1000000000000) (h5 : ¬ b = 0) :
    Calls Try.prog 76 #[.int .i64 a, .int .i64 b] w fun e w' => e = .returned (.int .i64 (cdiv a b)) ∧ w = w' := by
  have f := fdiv_bd (-a) b (by omega) (by omega) h5
  rw [← cdiv_neg a b h5]
  go_enter Try.func76, Try.ntmps76
  go_wp2_with (go_at_call 95; refine (down_any _ _ _ (by omega) (by omega) h3 h4 h5).mono ?_; rintro e w' ⟨rfl, rfl⟩)
  go_ret
  exact ⟨rfl, rfl⟩

theorem quo_bad (a b : Int) (h : badQ a b = true) : wideB a = false ∨ wideB a = true ∧ ((b == 0) = true ∨ (b == 0) = false ∧ wideB b = false) := by
  cases h1 : wideB a <;> cases h2 : wideB b <;> cases h3 : b == 0 <;> simp [badQ, h1, h2] at h ⊢
  simp at h3; exact h3 h



theorem mul_bd {n a : Int} (h0 : -1000000000000 ≤ n) (h0' : n ≤ 1000000000000) (h1 : 0 ≤ a) (h2 : a ≤ 1000000) : -1000000000000000000 ≤ n * a ∧ n * a ≤ 1000000000000000000 := by
  constructor
  · rcases Int.lt_or_le n 0 with hn | hn
    · have x := Int.mul_le_mul_of_nonneg_right (a := -n) (b := 1000000000000) (c := a) (by omega) h1
      have y := Int.mul_le_mul_of_nonneg_left (a := a) (b := 1000000) (c := 1000000000000) h2 (by omega)
      have z : -n * a = -(n * a) := Int.neg_mul _ _
      omega
    · have := Int.mul_nonneg hn h1; omega
  · rcases Int.lt_or_le n 0 with hn | hn
    · have x := Int.mul_nonneg (a := -n) (b := a) (by omega) h1
      have z : -n * a = -(n * a) := Int.neg_mul _ _
      omega
    · have x := Int.mul_le_mul_of_nonneg_right (a := n) (b := 1000000000000) (c := a) (by omega) h1
      have y := Int.mul_le_mul_of_nonneg_left (a := a) (b := 1000000) (c := 1000000000000) h2 (by omega)
      omega

end Go.Proofs.Ytjnjmpakmgmdbaa
