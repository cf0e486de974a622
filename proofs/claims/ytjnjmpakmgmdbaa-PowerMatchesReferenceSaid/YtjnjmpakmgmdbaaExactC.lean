/- Contracts of package exact, third part: Scale, Root. -/
import Derived.Test.YtjnjmpakmgmdbaaExactB
namespace Go.Proofs.Ytjnjmpakmgmdbaa
open Go.RowKit



/-- the root's recursive closure; nb: the block of n, fb: the block of the closure's own variable -/
theorem between_any (k : Nat) : ∀ (lo hi : Int) (n : Int) (an af : Addr) (w : World),
    w.cell? an = some (.int .i64 n) → w.cell? af = some (.func (.func 92) #[] #[.pointer (some an), .pointer (some af)]) →
    0 ≤ lo → hi ≤ 1000000001 → lo < hi → hi - lo ≤ k → lo * lo ≤ n → n < hi * hi →
    Calls Try.prog 92 #[.int .i64 lo, .int .i64 hi, .pointer (some an), .pointer (some af)] w fun e w' => e = .returned (.int .i64 (isqrt n.toNat)) ∧ w = w' := by
  induction k with
  | zero => intro lo hi n an af w _ _ _ _ _ h5; omega
  | succ k ih =>
    intro lo hi n an af w c1 c2 h1 h2 h3 h4 h5 h6
    have IH := Lib.hid ih
    clear ih
    by_cases h : hi - lo = 1
    · have hr : isqrt n.toNat = lo.toNat := by
        obtain rfl : hi = lo + 1 := by omega
        have hn : 0 ≤ n := by have := Int.mul_nonneg h1 h1; omega
        apply isqrt_unique
        · have : ((lo.toNat * lo.toNat : Nat) : Int) ≤ (n.toNat : Int) := by
            rw [Int.natCast_mul, Int.toNat_of_nonneg h1, Int.toNat_of_nonneg hn]; exact h5
          exact Int.ofNat_le.1 this
        · have : (n.toNat : Int) < (((lo.toNat + 1) * (lo.toNat + 1) : Nat) : Int) := by
            rw [Int.natCast_mul, Int.natCast_add, Int.toNat_of_nonneg h1, Int.toNat_of_nonneg hn]; exact h6
          exact Int.ofNat_lt.1 this
      have hd : (hi - lo == 1) = true := by simp [h]
      have e1 : ((isqrt n.toNat : Nat) : Int) = lo := by omega
      rw [e1]
      clear e1 hr h5 h6 h
      go_enter Try.func92, Try.ntmps92
      go_wp2
      go_ret
      exact ⟨rfl, rfl⟩
    · have hd : (hi - lo == 1) = false := by simp [h]
      obtain ⟨m, hm⟩ : ∃ m, lo + (hi - lo) / 2 = m := ⟨_, rfl⟩
      have m1 : lo < m := by omega
      have m2 : m < hi := by omega
      have q1 : 0 ≤ m * m := Int.mul_nonneg (by omega) (by omega)
      have q2 : m * m ≤ 1000000001000000001 := by
        have x := Int.mul_le_mul (show m ≤ 1000000000 by omega) (show m ≤ 1000000000 by omega) (by omega) (by omega)
        omega
      have hw : IntKind.i64.wrap (m * m) = m * m := IntWalk.i64_in _ (by omega)
      have H5 := Lib.hid h5
      have H6 := Lib.hid h6
      clear h h5 h6
      by_cases hc : n < m * m
      · have hcd : decide (n < m * m) = true := by simp [hc]
        have HC := Lib.hid hc
        clear hc
        go_enter Try.func92, Try.ntmps92
        go_wp2_with fail
        refine (IH.out _ _ _ _ _ _ c1 c2 h1 (by omega) m1 (by omega) H5.out HC.out).mono ?_
        rintro e w' ⟨rfl, rfl⟩
        go_wp2
        go_ret
        exact ⟨rfl, rfl⟩
      · have hcd : decide (n < m * m) = false := by simpa using hc
        have HC := Lib.hid (show m * m ≤ n by omega)
        clear hc
        go_enter Try.func92, Try.ntmps92
        go_wp2_with fail
        refine (IH.out _ _ _ _ _ _ c1 c2 (by omega) h2 m2 (by omega) HC.out H6.out).mono ?_
        rintro e w' ⟨rfl, rfl⟩
        go_wp2
        go_ret
        exact ⟨rfl, rfl⟩

def badN (n : Int) : Bool := decide (n < 0) || decide (1000000000000000000 < n)
def rootV (n : Int) : Int := if badN n = true then 0 else isqrt n.toNat
def rootE (n : Int) : Int := if badN n = true then 1 else 0

theorem root_any (n : Int) (w : World) :
    Calls Try.prog 73 #[.int .i64 n] w fun e w' => e = .returned (.tuple #[.int .i64 (rootV n), .int .i64 (rootE n)]) ∧ Below w.heap.size w w' := by
  cases h : badN n
  · have e1 : rootV n = isqrt n.toNat := by simp [rootV, h]
    have e2 : rootE n = 0 := by simp [rootE, h]
    rw [e1, e2]; clear e1 e2
    have h' : 0 ≤ n ∧ n ≤ 1000000000000000000 := by simp [badN] at h; omega
    clear h
    obtain ⟨h1, h2⟩ := h'
    have d1 : decide (n < 0) = false := by simp; omega
    have d2 : decide (1000000000000000000 < n) = false := by simp; omega
    go_enter Try.func73, Try.ntmps73
    go_wp2_with (first | (go_at_call 92; refine (between_any 1000000001 _ _ n ⟨w.heap.size, 0, none⟩ ⟨w.heap.size + 1, 0, none⟩ _ (by simp) (by simp) (by omega) (by omega) (by omega) (by omega) (by omega) (by omega)).mono ?_; rintro e w' ⟨rfl, rfl⟩))
    go_ret2
    exact ⟨rfl, by repeat (first | exact Below.refl _ _ | assumption | apply Below.drew | refine Below.setCell ?_ (by first | omega | (simp; done) | (simp; omega)) _ | refine Below.alloc ?_ (by first | omega | (simp; done) | (simp; omega)) _ | refine Below.call (by assumption) ?_ (by first | omega | (simp; done) | (simp; omega)))⟩
  · have e1 : rootV n = 0 := by simp [rootV, h]
    have e2 : rootE n = 1 := by simp [rootE, h]
    rw [e1, e2]; clear e1 e2
    have h' : n < 0 ∨ 0 ≤ n ∧ 1000000000000000000 < n := by simp [badN] at h; omega
    clear h
    rcases h' with h1 | ⟨h1, h2⟩
    all_goals
      go_enter Try.func73, Try.ntmps73
      go_wp2
      go_ret2
      exact ⟨rfl, by repeat (first | exact Below.refl _ _ | assumption | apply Below.drew | refine Below.setCell ?_ (by first | omega | (simp; done) | (simp; omega)) _ | refine Below.alloc ?_ (by first | omega | (simp; done) | (simp; omega)) _ | refine Below.call (by assumption) ?_ (by first | omega | (simp; done) | (simp; omega)))⟩
end Go.Proofs.Ytjnjmpakmgmdbaa
