/- Contracts of package exact, third part: Scale, Root. -/
import Derived.Test.YtmdipicdmphfbaaExactB
namespace Go.Proofs.Ytmdipicdmphfbaa
open Go.RowKit

theorem scale_good (n a b : Int) (w : World) (h : badS n a b = false) :
    Calls Try.prog 15 #[.int .i64 n, .int .i64 a, .int .i64 b] w fun e w' => e = .returned (.tuple #[.int .i64 (if badR n a b = true then 0 else (n * a).fdiv b), .int .i64 (if badR n a b = true then 0 else cdiv (n * a) b), .int .i64 (if badR n a b = true then 3 else 0)]) ∧ Below w.heap.size w w' := by
  obtain ⟨h0, h1, h2, h3, h4⟩ := badS_false h
  clear h
  have bn := wideB_true h0
  have m1 : -1000000000000000000 ≤ n * a := by
    have : -(1000000000000 * 1000000) ≤ n * a := by
      rcases Int.lt_or_le n 0 with hn | hn
      · have x := Int.mul_le_mul_of_nonneg_right (a := -n) (b := 1000000000000) (c := a) (by omega) h1
        have y := Int.mul_le_mul_of_nonneg_left (a := a) (b := 1000000) (c := 1000000000000) h2 (by omega)
        have z : -n * a = -(n * a) := Int.neg_mul _ _
        omega
      · have := Int.mul_nonneg hn h1; omega
    omega
  have m2 : n * a ≤ 1000000000000000000 := by
    rcases Int.lt_or_le n 0 with hn | hn
    · have x := Int.mul_nonneg (a := -n) (b := a) (by omega) h1
      have z : -n * a = -(n * a) := Int.neg_mul _ _
      omega
    · have x := Int.mul_le_mul_of_nonneg_right (a := n) (b := 1000000000000) (c := a) (by omega) h1
      have y := Int.mul_le_mul_of_nonneg_left (a := a) (b := 1000000) (c := 1000000000000) h2 (by omega)
      omega
  have hb0 : ¬ b = 0 := by omega
  have hb0' : (b == 0) = false := by simp [hb0]
  have fb := fdiv_bd (n * a) b m1 m2 hb0
  have e1 : cdiv (n * a) b = upV ((n * a).fdiv b) ((n * a).fmod b) := rfl
  have hR : badR n a b = (!wideB ((n * a).fdiv b) || !wideB (upV ((n * a).fdiv b) ((n * a).fmod b))) := rfl
  rw [hR, e1]; clear hR e1
  have hm : IntKind.i64.wrap (n * a) = n * a := IntWalk.i64_in _ (by omega)
  have da : decide (a < 0) = false := by simp; omega
  have db : decide (1000000 < a) = false := by simp; omega
  have dc : decide (b < 1) = false := by simp; omega
  have dd : decide (1000000 < b) = false := by simp; omega
  have ub := upV_bd ((n * a).fdiv b) ((n * a).fmod b)
  cases hq : wideB ((n * a).fdiv b)
  · simp only [Bool.not_false, Bool.true_or, if_true]
    go_enter Try.func15, Try.ntmps15
    go_wp2_with (first | (go_at_call 26; refine (isWide_any _ _).mono ?_; rintro e w' ⟨rfl, rfl⟩) | (go_at_call 27; refine (divide_any _ _ _ m1 m2 (by omega) (by omega) hb0).mono ?_; rintro e w1 ⟨rfl, hb1⟩; have hz1 := hb1.size; try simp at hz1))
    go_region_held3 (fun w' => w'.cell? ⟨w1.heap.size, 0, none⟩ = some (.int .i64 ((n * a).fdiv b)) ∧ w'.cell? ⟨w1.heap.size, 1, none⟩ = some (.int .i64 ((n * a).fmod b)))
      (go_keep)
      (first | (go_at_call 24; refine (up_any _ _ _ (by omega) (by omega)).mono ?_; rintro e w' ⟨rfl, rfl⟩))
    go_wp2_with (go_at_call 26; refine (isWide_any _ _).mono ?_; rintro e w' ⟨rfl, rfl⟩)
    go_ret3
    exact ⟨rfl, by repeat (first | exact Below.refl _ _ | assumption | apply Below.drew | refine Below.setCell ?_ (by first | omega | (simp; done) | (simp; omega)) _ | refine Below.alloc ?_ (by first | omega | (simp; done) | (simp; omega)) _ | refine Below.call (by assumption) ?_ (by first | omega | (simp; done) | (simp; omega)))⟩
  · cases hq' : wideB (upV ((n * a).fdiv b) ((n * a).fmod b))
    all_goals
      simp only [Bool.not_false, Bool.not_true, Bool.or_true, Bool.or_false, if_true, if_false, Bool.false_eq_true]
      go_enter Try.func15, Try.ntmps15
      go_wp2_with (first | (go_at_call 26; refine (isWide_any _ _).mono ?_; rintro e w' ⟨rfl, rfl⟩) | (go_at_call 27; refine (divide_any _ _ _ m1 m2 (by omega) (by omega) hb0).mono ?_; rintro e w1 ⟨rfl, hb1⟩; have hz1 := hb1.size; try simp at hz1))
      go_region_held3 (fun w' => w'.cell? ⟨w1.heap.size, 0, none⟩ = some (.int .i64 ((n * a).fdiv b)) ∧ w'.cell? ⟨w1.heap.size, 1, none⟩ = some (.int .i64 ((n * a).fmod b)))
        (go_keep)
        (first | (go_at_call 24; refine (up_any _ _ _ (by omega) (by omega)).mono ?_; rintro e w' ⟨rfl, rfl⟩))
      go_wp2_with (go_at_call 26; refine (isWide_any _ _).mono ?_; rintro e w' ⟨rfl, rfl⟩)
      go_ret3
      exact ⟨rfl, by repeat (first | exact Below.refl _ _ | assumption | apply Below.drew | refine Below.setCell ?_ (by first | omega | (simp; done) | (simp; omega)) _ | refine Below.alloc ?_ (by first | omega | (simp; done) | (simp; omega)) _ | refine Below.call (by assumption) ?_ (by first | omega | (simp; done) | (simp; omega)))⟩

theorem scale_any (n a b : Int) (w : World) :
    Calls Try.prog 15 #[.int .i64 n, .int .i64 a, .int .i64 b] w fun e w' => e = .returned (.tuple #[.int .i64 (scaleL n a b), .int .i64 (scaleH n a b), .int .i64 (scaleE n a b)]) ∧ Below w.heap.size w w' := by
  cases h : badS n a b
  · have := scale_good n a b w h
    simpa [scaleL, scaleH, scaleE, h] using this
  · refine (scale_bad n a b w h).mono ?_
    rintro e w' ⟨rfl, rfl⟩
    exact ⟨by simp [scaleL, scaleH, scaleE, h], Below.refl _ _⟩

/-- the root's recursive closure; nb: the block of n, fb: the block of the closure's own variable -/
theorem between_any (k : Nat) : ∀ (lo hi : Int) (n : Int) (an af : Addr) (w : World),
    w.cell? an = some (.int .i64 n) → w.cell? af = some (.func (.func 28) #[] #[.pointer (some an), .pointer (some af)]) →
    0 ≤ lo → hi ≤ 1000000001 → lo < hi → hi - lo ≤ k → lo * lo ≤ n → n < hi * hi →
    Calls Try.prog 28 #[.int .i64 lo, .int .i64 hi, .pointer (some an), .pointer (some af)] w fun e w' => e = .returned (.int .i64 (isqrt n.toNat)) ∧ w = w' := by
  induction k with
  | zero => intro lo hi n an af w _ _ _ _ _ h5; omega
  | succ k ih =>
    intro lo hi n an af w c1 c2 h1 h2 h3 h4 h5 h6
    have IH := Lib.hid ih
    clear ih
    by_cases h : hi - lo = 1
    · have hr : isqrt n.toNat = lo.toNat := by
        obtain rfl : hi = lo + 1 := by omega
        have hn : 0 ≤ n := by have := Int.mul_nonneg h1 h1; omega
        apply isqrt_unique
        · have : ((lo.toNat * lo.toNat : Nat) : Int) ≤ (n.toNat : Int) := by
            rw [Int.natCast_mul, Int.toNat_of_nonneg h1, Int.toNat_of_nonneg hn]; exact h5
          exact Int.ofNat_le.1 this
        · have : (n.toNat : Int) < (((lo.toNat + 1) * (lo.toNat + 1) : Nat) : Int) := by
            rw [Int.natCast_mul, Int.natCast_add, Int.toNat_of_nonneg h1, Int.toNat_of_nonneg hn]; exact h6
          exact Int.ofNat_lt.1 this
      have hd : (hi - lo == 1) = true := by simp [h]
      have e1 : ((isqrt n.toNat : Nat) : Int) = lo := by omega
      rw [e1]
      clear e1 hr h5 h6 h
      go_enter Try.func28, Try.ntmps28
      go_wp2
      go_ret
      exact ⟨rfl, rfl⟩
    · have hd : (hi - lo == 1) = false := by simp [h]
      obtain ⟨m, hm⟩ : ∃ m, lo + (hi - lo) / 2 = m := ⟨_, rfl⟩
      have m1 : lo < m := by omega
      have m2 : m < hi := by omega
      have q1 : 0 ≤ m * m := Int.mul_nonneg (by omega) (by omega)
      have q2 : m * m ≤ 1000000001000000001 := by
        have x := Int.mul_le_mul (show m ≤ 1000000000 by omega) (show m ≤ 1000000000 by omega) (by omega) (by omega)
        omega
      have hw : IntKind.i64.wrap (m * m) = m * m := IntWalk.i64_in _ (by omega)
      have H5 := Lib.hid h5
      have H6 := Lib.hid h6
      clear h h5 h6
      by_cases hc : n < m * m
      · have hcd : decide (n < m * m) = true := by simp [hc]
        have HC := Lib.hid hc
        clear hc
        go_enter Try.func28, Try.ntmps28
        go_wp2_with fail
        refine (IH.out _ _ _ _ _ _ c1 c2 h1 (by omega) m1 (by omega) H5.out HC.out).mono ?_
        rintro e w' ⟨rfl, rfl⟩
        go_wp2
        go_ret
        exact ⟨rfl, rfl⟩
      · have hcd : decide (n < m * m) = false := by simpa using hc
        have HC := Lib.hid (show m * m ≤ n by omega)
        clear hc
        go_enter Try.func28, Try.ntmps28
        go_wp2_with fail
        refine (IH.out _ _ _ _ _ _ c1 c2 (by omega) h2 m2 (by omega) HC.out H6.out).mono ?_
        rintro e w' ⟨rfl, rfl⟩
        go_wp2
        go_ret
        exact ⟨rfl, rfl⟩

def badN (n : Int) : Bool := decide (n < 0) || decide (1000000000000000000 < n)
def rootV (n : Int) : Int := if badN n = true then 0 else isqrt n.toNat
def rootE (n : Int) : Int := if badN n = true then 1 else 0

theorem root_any (n : Int) (w : World) :
    Calls Try.prog 17 #[.int .i64 n] w fun e w' => e = .returned (.tuple #[.int .i64 (rootV n), .int .i64 (rootE n)]) ∧ Below w.heap.size w w' := by
  cases h : badN n
  · have e1 : rootV n = isqrt n.toNat := by simp [rootV, h]
    have e2 : rootE n = 0 := by simp [rootE, h]
    rw [e1, e2]; clear e1 e2
    have h' : 0 ≤ n ∧ n ≤ 1000000000000000000 := by simp [badN] at h; omega
    clear h
    obtain ⟨h1, h2⟩ := h'
    have d1 : decide (n < 0) = false := by simp; omega
    have d2 : decide (1000000000000000000 < n) = false := by simp; omega
    go_enter Try.func17, Try.ntmps17
    go_wp2_with (first | (go_at_call 28; refine (between_any 1000000001 _ _ n ⟨w.heap.size, 0, none⟩ ⟨w.heap.size + 1, 0, none⟩ _ (by simp) (by simp) (by omega) (by omega) (by omega) (by omega) (by omega) (by omega)).mono ?_; rintro e w' ⟨rfl, rfl⟩))
    go_ret2
    exact ⟨rfl, by repeat (first | exact Below.refl _ _ | assumption | apply Below.drew | refine Below.setCell ?_ (by first | omega | (simp; done) | (simp; omega)) _ | refine Below.alloc ?_ (by first | omega | (simp; done) | (simp; omega)) _ | refine Below.call (by assumption) ?_ (by first | omega | (simp; done) | (simp; omega)))⟩
  · have e1 : rootV n = 0 := by simp [rootV, h]
    have e2 : rootE n = 1 := by simp [rootE, h]
    rw [e1, e2]; clear e1 e2
    have h' : n < 0 ∨ 0 ≤ n ∧ 1000000000000000000 < n := by simp [badN] at h; omega
    clear h
    rcases h' with h1 | ⟨h1, h2⟩
    all_goals
      go_enter Try.func17, Try.ntmps17
      go_wp2
      go_ret2
      exact ⟨rfl, by repeat (first | exact Below.refl _ _ | assumption | apply Below.drew | refine Below.setCell ?_ (by first | omega | (simp; done) | (simp; omega)) _ | refine Below.alloc ?_ (by first | omega | (simp; done) | (simp; omega)) _ | refine Below.call (by assumption) ?_ (by first | omega | (simp; done) | (simp; omega)))⟩
end Go.Proofs.Ytmdipicdmphfbaa
