/- Contracts of the reference of layer 1, third part: the root; the laws' head. -/
import Derived.Test.YtjnjmpakmgmdbaaRefB
namespace Go.Proofs.Ytjnjmpakmgmdbaa
open Go.RowKit

def RootRel (n : Int) (a b : Value) : Prop := ∃ lo hi : Int, 0 ≤ lo ∧ lo < hi ∧ hi ≤ 1000000001 ∧ lo * lo ≤ n ∧ n < hi * hi ∧ a = .int .i64 lo ∧ b = .int .i64 hi

theorem root_end {n lo : Int} (h1 : 0 ≤ lo) (h5 : lo * lo ≤ n) (h6 : n < (lo + 1) * (lo + 1)) : ((isqrt n.toNat : Nat) : Int) = lo := by
  have hn : 0 ≤ n := by have := Int.mul_nonneg h1 h1; omega
  have hr : isqrt n.toNat = lo.toNat := by
    apply isqrt_unique
    · have : ((lo.toNat * lo.toNat : Nat) : Int) ≤ (n.toNat : Int) := by
        rw [Int.natCast_mul, Int.toNat_of_nonneg h1, Int.toNat_of_nonneg hn]; exact h5
      exact Int.ofNat_le.1 this
    · have : (n.toNat : Int) < (((lo.toNat + 1) * (lo.toNat + 1) : Nat) : Int) := by
        rw [Int.natCast_mul, Int.natCast_add, Int.toNat_of_nonneg h1, Int.toNat_of_nonneg hn]; exact h6
      exact Int.ofNat_lt.1 this
  omega

theorem root0_any (n : Int) (w : World) (h1 : 0 ≤ n) (h2 : n ≤ 1000000000000000000) :
    Calls Try.prog 94 #[.int .i64 n] w fun e w' => e = .returned (.int .i64 (isqrt n.toNat)) ∧ w = w' := by
  go_enter Try.func94, Try.ntmps94
  go_wp2
  go_loop [3, 4] (fun a b => RootRel n a b) (fun a b => (intOf b - intOf a).toNat)
  case atStart => exact ⟨0, 1000000001, by omega, by omega, by omega, by omega, by omega, rfl, rfl⟩
  case round =>
    obtain ⟨lo, hi, r1, r2, r3, r4, r5, rfl, rfl⟩ := hrel
    by_cases hlt : 1 < hi - lo
    · obtain ⟨m, hm⟩ : ∃ m, (lo + hi) / 2 = m := ⟨_, rfl⟩
      have m1 : lo < m := by omega
      have m2 : m < hi := by omega
      have q1 : 0 ≤ m * m := Int.mul_nonneg (by omega) (by omega)
      have q2 : m * m ≤ 1000000001000000001 := by
        have x := Int.mul_le_mul (show m ≤ 1000000000 by omega) (show m ≤ 1000000000 by omega) (by omega) (by omega)
        omega
      have hw : IntKind.i64.wrap (m * m) = m * m := IntWalk.i64_in _ (by omega)
      have R4 := Lib.hid r4
      have R5 := Lib.hid r5
      clear r4 r5
      by_cases hc : m * m ≤ n
      · go_wp2
        go_round
        case rel => exact ⟨m, hi, by omega, by omega, by omega, hc, R5.out, by rw [hm], rfl⟩
        case measure => simp [intOf]; omega
      · go_wp2
        go_round
        case rel => exact ⟨lo, m, by omega, by omega, by omega, R4.out, by omega, rfl, by rw [hm]⟩
        case measure => simp [intOf]; omega
    · have e : hi = lo + 1 := by omega
      have hx : n < (lo + 1) * (lo + 1) := by rw [← e]; exact r5
      have E := Lib.hid (root_end r1 r4 hx)
      have d : decide (1 < hi - lo) = false := by simp; omega
      clear hx e r4 r5
      go_wp2
      go_ret
      exact ⟨congrArg (fun x => Ending.returned (.int .i64 x)) E.out.symm, rfl⟩


theorem root_big : rootV 1000000000000000000 = 1000000000 := by
  have : isqrt (1000000000000000000 : Int).toNat = 1000000000 := isqrt_unique (by omega) (by omega)
  simp only [rootV, show badN 1000000000000000000 = false by rfl, this]; rfl

end Go.Proofs.Ytjnjmpakmgmdbaa
