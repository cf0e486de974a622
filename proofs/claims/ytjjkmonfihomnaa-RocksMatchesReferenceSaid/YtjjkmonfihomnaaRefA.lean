/- Contracts of the reference of layer 1. | Contracts of the reference of layer 1, second part. | Contracts of the reference of layer 1, third part: the root; the laws' head. -/
import Derived.Test.YtjjkmonfihomnaaExact
import Derived.LoopTactic
namespace Go.Proofs.Ytjjkmonfihomnaa
open Go.RowKit

def inB (n lo hi : Int) : Bool := decide (lo ≤ n ∧ n ≤ hi)
theorem inB_true {n lo hi : Int} (h : inB n lo hi = true) : lo ≤ n ∧ n ≤ hi := by simpa [inB] using h
theorem inB_false {n lo hi : Int} (h : inB n lo hi = false) : n < lo ∨ lo ≤ n ∧ hi < n := by
  have : ¬ (lo ≤ n ∧ n ≤ hi) := by simpa [inB] using h
  omega


theorem down_walk (a b q r q' : Int) (w : World) (hq : IntKind.i64.wrap (a.tdiv b) = q) (hr : a - q * b = r) (hm : IntKind.i64.wrap (q * b) = q * b) (h5 : ¬ b = 0)
    (q1 : -5000000000000000000 ≤ q) (q2 : q ≤ 5000000000000000000) (r1 : -10000000000000 < r) (r2 : r < 10000000000000)
    (hc : (r = 0 ∨ (r < 0 ∧ b < 0) ∨ (0 < r ∧ 0 < b)) ∧ q = q' ∨ ((r < 0 ∧ 0 < b) ∨ (0 < r ∧ b < 0)) ∧ q - 1 = q') :
    Calls Try.prog 129 #[.int .i64 a, .int .i64 b] w fun e w' => e = .returned (.int .i64 q') ∧ w = w' := by
  have hw : IntKind.i64.wrap r = r := IntWalk.i64_in _ (by omega)
  rcases hc with ⟨h | ⟨ha, hb⟩ | ⟨ha, hb⟩, e1⟩ | ⟨⟨ha, hb⟩ | ⟨ha, hb⟩, e1⟩
  · subst e1
    have d1 : (r != 0) = false := by simp [h]
    clear h
    go_enter Try.func129, Try.ntmps129
    go_wp2
    go_ret
    exact ⟨rfl, rfl⟩
  all_goals
    subst e1
    have d1 : (r != 0) = true := by rw [bne_iff_ne]; omega
    first | have d2 : decide (r < 0) = true := (by simp; omega) | have d2 : decide (r < 0) = false := (by simp; omega)
    first | have d3 : decide (b < 0) = true := (by simp; omega) | have d3 : decide (b < 0) = false := (by simp; omega)
    go_enter Try.func129, Try.ntmps129
    go_wp2
    go_ret
    exact ⟨rfl, rfl⟩

theorem down_any (a b : Int) (w : World) (h1 : -1000000000000000000 ≤ a) (h2 : a ≤ 1000000000000000000) (h3 : -1000000000000 ≤ b) (h4 : b ≤ 1000000000000) (h5 : ¬ b = 0) :
    Calls Try.prog 129 #[.int .i64 a, .int .i64 b] w fun e w' => e = .returned (.int .i64 (a.fdiv b)) ∧ w = w' := by
  have d := tdiv_bd a b h1 h2
  have m := tmod_bd a b h3 h4 h5
  have x : a.tmod b + b * a.tdiv b = a := Int.tmod_add_mul_tdiv a b
  have y : a.tdiv b * b = b * a.tdiv b := Int.mul_comm _ _
  have z : a - a.tdiv b * b = a.tmod b := by omega
  refine down_walk a b _ _ _ w (IntWalk.i64_in _ (by omega)) z (IntWalk.i64_in _ (by omega)) h5 (by omega) (by omega) (by omega) (by omega) ?_
  rcases fdiv_cases a b h5 with h | h
  · exact Or.inl ⟨h.1, h.2.1⟩
  · exact Or.inr ⟨h.1, h.2.1⟩
end Go.Proofs.Ytjjkmonfihomnaa

namespace Go.Proofs.Ytjjkmonfihomnaa
open Go.RowKit

theorem rup_any (a b : Int) (w : World) (h1 : -1000000000000000000 ≤ a) (h2 : a ≤ 1000000000000000000) (h3 : -1000000000000 ≤ b) (h4 : b ≤ 1000000000000) (h5 : ¬ b = 0) :
    Calls Try.prog 130 #[.int .i64 a, .int .i64 b] w fun e w' => e = .returned (.int .i64 (cdiv a b)) ∧ w = w' := by
  have f := fdiv_bd (-a) b (by omega) (by omega) h5
  rw [← cdiv_neg a b h5]
  go_enter Try.func130, Try.ntmps130
  go_wp2_with (go_at_call 129; refine (down_any _ _ _ (by omega) (by omega) h3 h4 h5).mono ?_; rintro e w' ⟨rfl, rfl⟩)
  go_ret
  exact ⟨rfl, rfl⟩

theorem quo_bad (a b : Int) (h : badQ a b = true) : wideB a = false ∨ wideB a = true ∧ ((b == 0) = true ∨ (b == 0) = false ∧ wideB b = false) := by
  cases h1 : wideB a <;> cases h2 : wideB b <;> cases h3 : b == 0 <;> simp [badQ, h1, h2] at h ⊢
  simp at h3; exact h3 h



theorem mul_bd {n a : Int} (h0 : -1000000000000 ≤ n) (h0' : n ≤ 1000000000000) (h1 : 0 ≤ a) (h2 : a ≤ 1000000) : -1000000000000000000 ≤ n * a ∧ n * a ≤ 1000000000000000000 := by
  constructor
  · rcases Int.lt_or_le n 0 with hn | hn
    · have x := Int.mul_le_mul_of_nonneg_right (a := -n) (b := 1000000000000) (c := a) (by omega) h1
      have y := Int.mul_le_mul_of_nonneg_left (a := a) (b := 1000000) (c := 1000000000000) h2 (by omega)
      have z : -n * a = -(n * a) := Int.neg_mul _ _
      omega
    · have := Int.mul_nonneg hn h1; omega
  · rcases Int.lt_or_le n 0 with hn | hn
    · have x := Int.mul_nonneg (a := -n) (b := a) (by omega) h1
      have z : -n * a = -(n * a) := Int.neg_mul _ _
      omega
    · have x := Int.mul_le_mul_of_nonneg_right (a := n) (b := 1000000000000) (c := a) (by omega) h1
      have y := Int.mul_le_mul_of_nonneg_left (a := a) (b := 1000000) (c := 1000000000000) h2 (by omega)
      omega

end Go.Proofs.Ytjjkmonfihomnaa

namespace Go.Proofs.Ytjjkmonfihomnaa
open Go.RowKit

def RootRel (n : Int) (a b : Value) : Prop := ∃ lo hi : Int, 0 ≤ lo ∧ lo < hi ∧ hi ≤ 1000000001 ∧ lo * lo ≤ n ∧ n < hi * hi ∧ a = .int .i64 lo ∧ b = .int .i64 hi

theorem root_end {n lo : Int} (h1 : 0 ≤ lo) (h5 : lo * lo ≤ n) (h6 : n < (lo + 1) * (lo + 1)) : ((isqrt n.toNat : Nat) : Int) = lo := by
  have hn : 0 ≤ n := by have := Int.mul_nonneg h1 h1; omega
  have hr : isqrt n.toNat = lo.toNat := by
    apply isqrt_unique
    · have : ((lo.toNat * lo.toNat : Nat) : Int) ≤ (n.toNat : Int) := by
        rw [Int.natCast_mul, Int.toNat_of_nonneg h1, Int.toNat_of_nonneg hn]; exact h5
      exact Int.ofNat_le.1 this
    · have : (n.toNat : Int) < (((lo.toNat + 1) * (lo.toNat + 1) : Nat) : Int) := by
        rw [Int.natCast_mul, Int.natCast_add, Int.toNat_of_nonneg h1, Int.toNat_of_nonneg hn]; exact h6
      exact Int.ofNat_lt.1 this
  omega

theorem root_big : rootV 1000000000000000000 = 1000000000 := by
  have : isqrt (1000000000000000000 : Int).toNat = 1000000000 := isqrt_unique (by omega) (by omega)
  simp only [rootV, show badN 1000000000000000000 = false by rfl, this]; rfl

end Go.Proofs.Ytjjkmonfihomnaa
