/- Contracts of package exact (the functions below the laws of layer 1). | Contracts of package exact, second part. | Contracts of package exact, third part: Scale, Root. -/
import Derived.Test.YtjjkmonfihomnaaBase
import Derived.Test.YtjjkmonfihomnaaPlain
namespace Go.Proofs.Ytjjkmonfihomnaa
open Go.RowKit

theorem isWide_yes (n : Int) (w : World) (h1 : -1000000000000 ≤ n) (h2 : n ≤ 1000000000000) :
    Calls Try.prog 143 #[.int .i64 n] w fun e w' => e = .returned (.bool true) ∧ w = w' := by
  go_enter Try.func143, Try.ntmps143
  go_wp2
  go_ret
  exact ⟨rfl, rfl⟩
theorem isWide_no (n : Int) (w : World) (h : n < -1000000000000 ∨ 1000000000000 < n) :
    Calls Try.prog 143 #[.int .i64 n] w fun e w' => e = .returned (.bool false) ∧ w = w' := by
  rcases h with h | h
  · have hd : decide (-1000000000000 ≤ n) = false := by simp; omega
    go_enter Try.func143, Try.ntmps143
    go_wp2
    go_ret
    exact ⟨rfl, rfl⟩
  · have hd1 : decide (-1000000000000 ≤ n) = true := by simp; omega
    have hd : decide (n ≤ 1000000000000) = false := by simp; omega
    go_enter Try.func143, Try.ntmps143
    go_wp2
    go_ret
    exact ⟨rfl, rfl⟩
theorem isWide_any (n : Int) (w : World) :
    Calls Try.prog 143 #[.int .i64 n] w fun e w' => e = .returned (.bool (wideB n)) ∧ w = w' := by
  cases h : wideB n
  · exact isWide_no n w (wideB_false h)
  · exact isWide_yes n w (wideB_true h).1 (wideB_true h).2
theorem divide_walk (a b q r q' r' : Int) (w : World) (hq : IntKind.i64.wrap (a.tdiv b) = q) (hr : a.tmod b = r) (h5 : ¬ b = 0)
    (q1 : -1000000000000000000 ≤ q) (q2 : q ≤ 1000000000000000000) (r1 : -1000000000000 < r) (r2 : r < 1000000000000) (h3 : -1000000000000 ≤ b) (h4 : b ≤ 1000000000000)
    (hc : (r = 0 ∨ (r < 0 ∧ b < 0) ∨ (0 < r ∧ 0 < b)) ∧ q = q' ∧ r = r' ∨ ((r < 0 ∧ 0 < b) ∨ (0 < r ∧ b < 0)) ∧ q - 1 = q' ∧ r + b = r') :
    Calls Try.prog 144 #[.int .i64 a, .int .i64 b] w fun e w' => e = .returned (.agg #[.int .i64 q', .int .i64 r']) ∧ Below w.heap.size w w' := by
  rcases hc with ⟨h | ⟨ha, hb⟩ | ⟨ha, hb⟩, e1, e2⟩ | ⟨⟨ha, hb⟩ | ⟨ha, hb⟩, e1, e2⟩
  · subst h e1 e2
    go_enter Try.func144, Try.ntmps144
    go_wp2
    go_region
    all_goals go_wp2
    exact bodyPost_ret (v := .agg #[.int .i64 _, .int .i64 _]) (by simp [results, Try.results144, go_sem]) rfl ⟨rfl, by repeat (first | exact Below.refl _ _ | assumption | apply Below.drew | refine Below.setCell ?_ (by first | omega | (simp; done) | (simp; omega)) _ | refine Below.alloc ?_ (by first | omega | (simp; done) | (simp; omega)) _ | refine Below.call (by assumption) ?_ (by first | omega | (simp; done) | (simp; omega)))⟩
  · subst e1 e2
    have d1 : (r != 0) = true := by rw [bne_iff_ne]; omega
    have d2 : decide (r < 0) = true := by simp; omega
    have d3 : decide (b < 0) = true := by simp; omega
    go_enter Try.func144, Try.ntmps144
    go_wp2
    go_region
    all_goals go_wp2
    exact bodyPost_ret (v := .agg #[.int .i64 _, .int .i64 _]) (by simp [results, Try.results144, go_sem]) rfl ⟨rfl, by repeat (first | exact Below.refl _ _ | assumption | apply Below.drew | refine Below.setCell ?_ (by first | omega | (simp; done) | (simp; omega)) _ | refine Below.alloc ?_ (by first | omega | (simp; done) | (simp; omega)) _ | refine Below.call (by assumption) ?_ (by first | omega | (simp; done) | (simp; omega)))⟩
  · subst e1 e2
    have d1 : (r != 0) = true := by rw [bne_iff_ne]; omega
    have d2 : decide (r < 0) = false := by simp; omega
    have d3 : decide (b < 0) = false := by simp; omega
    go_enter Try.func144, Try.ntmps144
    go_wp2
    go_region
    all_goals go_wp2
    exact bodyPost_ret (v := .agg #[.int .i64 _, .int .i64 _]) (by simp [results, Try.results144, go_sem]) rfl ⟨rfl, by repeat (first | exact Below.refl _ _ | assumption | apply Below.drew | refine Below.setCell ?_ (by first | omega | (simp; done) | (simp; omega)) _ | refine Below.alloc ?_ (by first | omega | (simp; done) | (simp; omega)) _ | refine Below.call (by assumption) ?_ (by first | omega | (simp; done) | (simp; omega)))⟩
  · subst e1 e2
    have d1 : (r != 0) = true := by rw [bne_iff_ne]; omega
    have d2 : decide (r < 0) = true := by simp; omega
    have d3 : decide (b < 0) = false := by simp; omega
    go_enter Try.func144, Try.ntmps144
    go_wp2
    go_region
    all_goals go_wp2
    exact bodyPost_ret (v := .agg #[.int .i64 _, .int .i64 _]) (by simp [results, Try.results144, go_sem]) rfl ⟨rfl, by repeat (first | exact Below.refl _ _ | assumption | apply Below.drew | refine Below.setCell ?_ (by first | omega | (simp; done) | (simp; omega)) _ | refine Below.alloc ?_ (by first | omega | (simp; done) | (simp; omega)) _ | refine Below.call (by assumption) ?_ (by first | omega | (simp; done) | (simp; omega)))⟩
  · subst e1 e2
    have d1 : (r != 0) = true := by rw [bne_iff_ne]; omega
    have d2 : decide (r < 0) = false := by simp; omega
    have d3 : decide (b < 0) = true := by simp; omega
    go_enter Try.func144, Try.ntmps144
    go_wp2
    go_region
    all_goals go_wp2
    exact bodyPost_ret (v := .agg #[.int .i64 _, .int .i64 _]) (by simp [results, Try.results144, go_sem]) rfl ⟨rfl, by repeat (first | exact Below.refl _ _ | assumption | apply Below.drew | refine Below.setCell ?_ (by first | omega | (simp; done) | (simp; omega)) _ | refine Below.alloc ?_ (by first | omega | (simp; done) | (simp; omega)) _ | refine Below.call (by assumption) ?_ (by first | omega | (simp; done) | (simp; omega)))⟩
end Go.Proofs.Ytjjkmonfihomnaa

namespace Go.Proofs.Ytjjkmonfihomnaa
open Go.RowKit

theorem divide_any (a b : Int) (w : World) (h1 : -1000000000000000000 ≤ a) (h2 : a ≤ 1000000000000000000) (h3 : -1000000000000 ≤ b) (h4 : b ≤ 1000000000000) (h5 : ¬ b = 0) :
    Calls Try.prog 144 #[.int .i64 a, .int .i64 b] w fun e w' => e = .returned (.agg #[.int .i64 (a.fdiv b), .int .i64 (a.fmod b)]) ∧ Below w.heap.size w w' := by
  have d := tdiv_bd a b h1 h2
  have m := tmod_bd a b h3 h4 h5
  exact divide_walk a b _ _ _ _ w (IntWalk.i64_in _ (by omega)) rfl h5 d.1 d.2 m.1 m.2 h3 h4 (fdiv_cases a b h5)

theorem up_any (q r : Int) (w : World) (h1 : -1000000000000000001 ≤ q) (h2 : q ≤ 1000000000000000000) :
    Calls Try.prog 132 #[.agg #[.int .i64 q, .int .i64 r]] w fun e w' => e = .returned (.int .i64 (upV q r)) ∧ w.alloc (.cells #[.int .i64 q, .int .i64 r] 140) = w' := by
  by_cases hr : r = 0
  · subst hr
    have ev : upV q 0 = q := rfl
    rw [ev]
    go_enter Try.func132, Try.ntmps132
    go_wp2
    go_ret
    exact ⟨rfl, rfl⟩
  · have d1 : (r == 0) = false := by simp [hr]
    have ev : upV q r = q + 1 := by simp [upV, hr]
    rw [ev]; clear ev
    go_enter Try.func132, Try.ntmps132
    go_wp2
    go_ret
    exact ⟨rfl, rfl⟩

/-- what Floor and Ceil find wrong -/
def badQ (a b : Int) : Bool := !wideB a || !wideB b || decide (b = 0)
theorem badQ_false {a b : Int} (h : badQ a b = false) : wideB a = true ∧ wideB b = true ∧ (b == 0) = false := by
  simp [badQ] at h; simp [h]
theorem badQ_true {a b : Int} (h : badQ a b = true) : wideB a = false ∨ wideB a = true ∧ (wideB b = false ∨ wideB b = true ∧ (b == 0) = true) := by
  cases h1 : wideB a <;> cases h2 : wideB b <;> simp [badQ, h1, h2] at h ⊢
  exact h
def floorV (a b : Int) : Int := if badQ a b = true then 0 else a.fdiv b
def ceilV (a b : Int) : Int := if badQ a b = true then 0 else cdiv a b
def quoE (a b : Int) : Int := if badQ a b = true then 1 else 0

theorem checked_bad (a b : Int) (f : Value) (w : World) (h : badQ a b = true) :
    Calls Try.prog 131 #[.int .i64 a, .int .i64 b, f] w fun e w' => e = .returned (.tuple #[.int .i64 0, .int .i64 1]) ∧ w = w' := by
  rcases badQ_true h with ha | ⟨ha, hb | ⟨hb, hc⟩⟩
  all_goals
    clear h
    go_enter Try.func131, Try.ntmps131
    go_wp2_with (go_at_call 143; refine (isWide_any _ _).mono ?_; rintro e w' ⟨rfl, rfl⟩)
    go_ret2
    exact ⟨rfl, rfl⟩


theorem ceil_any (a b : Int) (w : World) :
    Calls Try.prog 118 #[.int .i64 a, .int .i64 b] w fun e w' => e = .returned (.tuple #[.int .i64 (ceilV a b), .int .i64 (quoE a b)]) ∧ Below w.heap.size w w' := by
  cases h : badQ a b
  · have ev : ceilV a b = upV (a.fdiv b) (a.fmod b) := by simp [ceilV, cdiv, h]
    have ee : quoE a b = 0 := by simp [quoE, h]
    rw [ev, ee]; clear ev ee
    obtain ⟨ha, hb, hc⟩ := badQ_false h
    clear h
    have ba := wideB_true ha
    have bb := wideB_true hb
    have hc' : ¬ b = 0 := by simpa using hc
    have fb := fdiv_bd a b (by omega) (by omega) hc'
    go_enter Try.func118, Try.ntmps118
    go_wp2_with (first | (go_at_call 143; refine (isWide_any _ _).mono ?_; rintro e w' ⟨rfl, rfl⟩) | (go_at_call 144; refine (divide_any _ _ _ (by omega) (by omega) (by omega) (by omega) hc').mono ?_; rintro e w1 ⟨rfl, hb1⟩; have hz1 := hb1.size; try simp at hz1) | (go_at_call 132; refine (up_any _ _ _ (by omega) (by omega)).mono ?_; rintro e w' ⟨rfl, rfl⟩) | go_in)
    go_ret2
    exact ⟨rfl, by repeat (first | exact Below.refl _ _ | assumption | apply Below.drew | refine Below.setCell ?_ (by first | omega | (simp; done) | (simp; omega)) _ | refine Below.alloc ?_ (by first | omega | (simp; done) | (simp; omega)) _ | refine Below.call (by assumption) ?_ (by first | omega | (simp; done) | (simp; omega)))⟩
  · have ev : ceilV a b = 0 := by simp [ceilV, h]
    have ee : quoE a b = 1 := by simp [quoE, h]
    rw [ev, ee]; clear ev ee
    go_enter Try.func118, Try.ntmps118
    go_wp2_with (go_at_call 131; refine (checked_bad _ _ _ _ h).mono ?_; rintro e w' ⟨rfl, rfl⟩)
    go_ret2
    exact ⟨rfl, Below.refl _ _⟩

/-- what Scale finds wrong with its arguments -/
def badS (n a b : Int) : Bool := !wideB n || decide (a < 0) || decide (1000000 < a) || decide (b < 1) || decide (1000000 < b)
theorem badS_false {n a b : Int} (h : badS n a b = false) : wideB n = true ∧ 0 ≤ a ∧ a ≤ 1000000 ∧ 1 ≤ b ∧ b ≤ 1000000 := by
  simp [badS] at h; refine ⟨by simp [h], ?_⟩; omega
def badR (n a b : Int) : Bool := !wideB ((n * a).fdiv b) || !wideB (cdiv (n * a) b)
def scaleE (n a b : Int) : Int := if badS n a b = true then 1 else if badR n a b = true then 3 else 0
def scaleL (n a b : Int) : Int := if badS n a b = true then 0 else if badR n a b = true then 0 else (n * a).fdiv b
def scaleH (n a b : Int) : Int := if badS n a b = true then 0 else if badR n a b = true then 0 else cdiv (n * a) b

end Go.Proofs.Ytjjkmonfihomnaa

namespace Go.Proofs.Ytjjkmonfihomnaa
open Go.RowKit



/-- the root's recursive closure; nb: the block of n, fb: the block of the closure's own variable -/
theorem between_any (k : Nat) : ∀ (lo hi : Int) (n : Int) (an af : Addr) (w : World),
    w.cell? an = some (.int .i64 n) → w.cell? af = some (.func (.func 117) #[] #[.pointer (some an), .pointer (some af)]) →
    0 ≤ lo → hi ≤ 1000000001 → lo < hi → hi - lo ≤ k → lo * lo ≤ n → n < hi * hi →
    Calls Try.prog 117 #[.int .i64 lo, .int .i64 hi, .pointer (some an), .pointer (some af)] w fun e w' => e = .returned (.int .i64 (isqrt n.toNat)) ∧ w = w' := by
  induction k with
  | zero => intro lo hi n an af w _ _ _ _ _ h5; omega
  | succ k ih =>
    intro lo hi n an af w c1 c2 h1 h2 h3 h4 h5 h6
    have IH := Lib.hid ih
    clear ih
    by_cases h : hi - lo = 1
    · have hr : isqrt n.toNat = lo.toNat := by
        obtain rfl : hi = lo + 1 := by omega
        have hn : 0 ≤ n := by have := Int.mul_nonneg h1 h1; omega
        apply isqrt_unique
        · have : ((lo.toNat * lo.toNat : Nat) : Int) ≤ (n.toNat : Int) := by
            rw [Int.natCast_mul, Int.toNat_of_nonneg h1, Int.toNat_of_nonneg hn]; exact h5
          exact Int.ofNat_le.1 this
        · have : (n.toNat : Int) < (((lo.toNat + 1) * (lo.toNat + 1) : Nat) : Int) := by
            rw [Int.natCast_mul, Int.natCast_add, Int.toNat_of_nonneg h1, Int.toNat_of_nonneg hn]; exact h6
          exact Int.ofNat_lt.1 this
      have hd : (hi - lo == 1) = true := by simp [h]
      have e1 : ((isqrt n.toNat : Nat) : Int) = lo := by omega
      rw [e1]
      clear e1 hr h5 h6 h
      go_enter Try.func117, Try.ntmps117
      go_wp2
      go_ret
      exact ⟨rfl, rfl⟩
    · have hd : (hi - lo == 1) = false := by simp [h]
      obtain ⟨m, hm⟩ : ∃ m, lo + (hi - lo) / 2 = m := ⟨_, rfl⟩
      have m1 : lo < m := by omega
      have m2 : m < hi := by omega
      have q1 : 0 ≤ m * m := Int.mul_nonneg (by omega) (by omega)
      have q2 : m * m ≤ 1000000001000000001 := by
        have x := Int.mul_le_mul (show m ≤ 1000000000 by omega) (show m ≤ 1000000000 by omega) (by omega) (by omega)
        omega
      have hw : IntKind.i64.wrap (m * m) = m * m := IntWalk.i64_in _ (by omega)
      have H5 := Lib.hid h5
      have H6 := Lib.hid h6
      clear h h5 h6
      by_cases hc : n < m * m
      · have hcd : decide (n < m * m) = true := by simp [hc]
        have HC := Lib.hid hc
        clear hc
        go_enter Try.func117, Try.ntmps117
        go_wp2_with fail
        refine (IH.out _ _ _ _ _ _ c1 c2 h1 (by omega) m1 (by omega) H5.out HC.out).mono ?_
        rintro e w' ⟨rfl, rfl⟩
        go_wp2
        go_ret
        exact ⟨rfl, rfl⟩
      · have hcd : decide (n < m * m) = false := by simpa using hc
        have HC := Lib.hid (show m * m ≤ n by omega)
        clear hc
        go_enter Try.func117, Try.ntmps117
        go_wp2_with fail
        refine (IH.out _ _ _ _ _ _ c1 c2 (by omega) h2 m2 (by omega) HC.out H6.out).mono ?_
        rintro e w' ⟨rfl, rfl⟩
        go_wp2
        go_ret
        exact ⟨rfl, rfl⟩

def badN (n : Int) : Bool := decide (n < 0) || decide (1000000000000000000 < n)
def rootV (n : Int) : Int := if badN n = true then 0 else isqrt n.toNat
def rootE (n : Int) : Int := if badN n = true then 1 else 0

theorem root_any (n : Int) (w : World) :
    Calls Try.prog 95 #[.int .i64 n] w fun e w' => e = .returned (.tuple #[.int .i64 (rootV n), .int .i64 (rootE n)]) ∧ Below w.heap.size w w' := by
  cases h : badN n
  · have e1 : rootV n = isqrt n.toNat := by simp [rootV, h]
    have e2 : rootE n = 0 := by simp [rootE, h]
    rw [e1, e2]; clear e1 e2
    have h' : 0 ≤ n ∧ n ≤ 1000000000000000000 := by simp [badN] at h; omega
    clear h
    obtain ⟨h1, h2⟩ := h'
    have d1 : decide (n < 0) = false := by simp; omega
    have d2 : decide (1000000000000000000 < n) = false := by simp; omega
    go_enter Try.func95, Try.ntmps95
    go_wp2_with (first | (go_at_call 117; refine (between_any 1000000001 _ _ n ⟨w.heap.size, 0, none⟩ ⟨w.heap.size + 1, 0, none⟩ _ (by simp) (by simp) (by omega) (by omega) (by omega) (by omega) (by omega) (by omega)).mono ?_; rintro e w' ⟨rfl, rfl⟩))
    go_ret2
    exact ⟨rfl, by repeat (first | exact Below.refl _ _ | assumption | apply Below.drew | refine Below.setCell ?_ (by first | omega | (simp; done) | (simp; omega)) _ | refine Below.alloc ?_ (by first | omega | (simp; done) | (simp; omega)) _ | refine Below.call (by assumption) ?_ (by first | omega | (simp; done) | (simp; omega)))⟩
  · have e1 : rootV n = 0 := by simp [rootV, h]
    have e2 : rootE n = 1 := by simp [rootE, h]
    rw [e1, e2]; clear e1 e2
    have h' : n < 0 ∨ 0 ≤ n ∧ 1000000000000000000 < n := by simp [badN] at h; omega
    clear h
    rcases h' with h1 | ⟨h1, h2⟩
    all_goals
      go_enter Try.func95, Try.ntmps95
      go_wp2
      go_ret2
      exact ⟨rfl, by repeat (first | exact Below.refl _ _ | assumption | apply Below.drew | refine Below.setCell ?_ (by first | omega | (simp; done) | (simp; omega)) _ | refine Below.alloc ?_ (by first | omega | (simp; done) | (simp; omega)) _ | refine Below.call (by assumption) ?_ (by first | omega | (simp; done) | (simp; omega)))⟩
end Go.Proofs.Ytjjkmonfihomnaa
