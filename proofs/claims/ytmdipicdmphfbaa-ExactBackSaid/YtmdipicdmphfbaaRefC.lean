/- Contracts of the reference of layer 1, third part: the root; the laws' head. -/
import Derived.Test.YtmdipicdmphfbaaRefB
namespace Go.Proofs.Ytmdipicdmphfbaa
open Go.RowKit

def RootRel (n : Int) (a b : Value) : Prop := ∃ lo hi : Int, 0 ≤ lo ∧ lo < hi ∧ hi ≤ 1000000001 ∧ lo * lo ≤ n ∧ n < hi * hi ∧ a = .int .i64 lo ∧ b = .int .i64 hi

theorem root_end {n lo : Int} (h1 : 0 ≤ lo) (h5 : lo * lo ≤ n) (h6 : n < (lo + 1) * (lo + 1)) : ((isqrt n.toNat : Nat) : Int) = lo := by
  have hn : 0 ≤ n := by have := Int.mul_nonneg h1 h1; omega
  have hr : isqrt n.toNat = lo.toNat := by
    apply isqrt_unique
    · have : ((lo.toNat * lo.toNat : Nat) : Int) ≤ (n.toNat : Int) := by
        rw [Int.natCast_mul, Int.toNat_of_nonneg h1, Int.toNat_of_nonneg hn]; exact h5
      exact Int.ofNat_le.1 this
    · have : (n.toNat : Int) < (((lo.toNat + 1) * (lo.toNat + 1) : Nat) : Int) := by
        rw [Int.natCast_mul, Int.natCast_add, Int.toNat_of_nonneg h1, Int.toNat_of_nonneg hn]; exact h6
      exact Int.ofNat_lt.1 this
  omega

theorem root0_any (n : Int) (w : World) (h1 : 0 ≤ n) (h2 : n ≤ 1000000000000000000) :
    Calls Try.prog 29 #[.int .i64 n] w fun e w' => e = .returned (.int .i64 (isqrt n.toNat)) ∧ w = w' := by
  go_enter Try.func29, Try.ntmps29
  go_wp2
  go_loop [3, 4] (fun a b => RootRel n a b) (fun a b => (intOf b - intOf a).toNat)
  case atStart => exact ⟨0, 1000000001, by omega, by omega, by omega, by omega, by omega, rfl, rfl⟩
  case round =>
    obtain ⟨lo, hi, r1, r2, r3, r4, r5, rfl, rfl⟩ := hrel
    by_cases hlt : 1 < hi - lo
    · obtain ⟨m, hm⟩ : ∃ m, (lo + hi) / 2 = m := ⟨_, rfl⟩
      have m1 : lo < m := by omega
      have m2 : m < hi := by omega
      have q1 : 0 ≤ m * m := Int.mul_nonneg (by omega) (by omega)
      have q2 : m * m ≤ 1000000001000000001 := by
        have x := Int.mul_le_mul (show m ≤ 1000000000 by omega) (show m ≤ 1000000000 by omega) (by omega) (by omega)
        omega
      have hw : IntKind.i64.wrap (m * m) = m * m := IntWalk.i64_in _ (by omega)
      have R4 := Lib.hid r4
      have R5 := Lib.hid r5
      clear r4 r5
      by_cases hc : m * m ≤ n
      · go_wp2
        go_round
        case rel => exact ⟨m, hi, by omega, by omega, by omega, hc, R5.out, by rw [hm], rfl⟩
        case measure => simp [intOf]; omega
      · go_wp2
        go_round
        case rel => exact ⟨lo, m, by omega, by omega, by omega, R4.out, by omega, rfl, by rw [hm]⟩
        case measure => simp [intOf]; omega
    · have e : hi = lo + 1 := by omega
      have hx : n < (lo + 1) * (lo + 1) := by rw [← e]; exact r5
      have E := Lib.hid (root_end r1 r4 hx)
      have d : decide (1 < hi - lo) = false := by simp; omega
      clear hx e r4 r5
      go_wp2
      go_ret
      exact ⟨congrArg (fun x => Ending.returned (.int .i64 x)) E.out.symm, rfl⟩

theorem rroot_any (n : Int) (w : World) :
    Calls Try.prog 18 #[.int .i64 n] w fun e w' => e = .returned (.tuple #[.int .i64 (rootV n), .int .i64 (rootE n)]) ∧ w = w' := by
  cases h : badN n
  · have e1 : rootV n = isqrt n.toNat := by simp [rootV, h]
    have e2 : rootE n = 0 := by simp [rootE, h]
    rw [e1, e2]; clear e1 e2
    have h' : 0 ≤ n ∧ n ≤ 1000000000000000000 := by simp [badN] at h; omega
    clear h
    obtain ⟨h1, h2⟩ := h'
    have i1 : inB n 0 1000000000000000000 = true := by simp [inB]; omega
    go_enter Try.func18, Try.ntmps18
    go_wp2_with (first | (go_at_call 19; refine (rin_any _ _ _ _).mono ?_; rintro e w' ⟨rfl, rfl⟩) | (go_at_call 29; refine (root0_any _ _ h1 h2).mono ?_; rintro e w' ⟨rfl, rfl⟩))
    go_ret2
    exact ⟨rfl, rfl⟩
  · have e1 : rootV n = 0 := by simp [rootV, h]
    have e2 : rootE n = 1 := by simp [rootE, h]
    rw [e1, e2]; clear e1 e2
    have i1 : inB n 0 1000000000000000000 = false := by simp [badN] at h; simp [inB]; omega
    clear h
    go_enter Try.func18, Try.ntmps18
    go_wp2_with (go_at_call 19; refine (rin_any _ _ _ _).mono ?_; rintro e w' ⟨rfl, rfl⟩)
    go_ret2
    exact ⟨rfl, rfl⟩

theorem root_big : rootV 1000000000000000000 = 1000000000 := by
  have : isqrt (1000000000000000000 : Int).toNat = 1000000000 := isqrt_unique (by omega) (by omega)
  simp only [rootV, show badN 1000000000000000000 = false by rfl, this]; rfl

set_option maxRecDepth 100000 in
theorem head_any (w : World) :
    Calls Try.prog 10 #[] w fun e w' => e = .returned (.bool true) ∧ Below w.heap.size w w' := by
  have a1 : floorV (-7) 2 = -4 := by decide
  have a2 : quoE (-7) 2 = 0 := by decide
  have a3 : ceilV (-7) 2 = -3 := by decide
  have a4 : floorV 7 (-2) = -4 := by decide
  have a5 : quoE 7 (-2) = 0 := by decide
  have a6 : scaleL (-10) 3 4 = -8 := by decide
  have a7 : scaleH (-10) 3 4 = -7 := by decide
  have a8 : scaleE (-10) 3 4 = 0 := by decide
  have a9 : scaleE 1000000000000 2 1 = 3 := by decide
  have b1 : rootV 24 = 4 := by decide
  have b2 : rootE 24 = 0 := by decide
  have b3 : rootV 25 = 5 := by decide
  have b4 : rootE 25 = 0 := by decide
  have b5 := root_big
  have b6 : rootE 1000000000000000000 = 0 := by decide
  have b7 : rootE (-1) = 1 := by decide
  go_enter Try.func10, Try.ntmps10
  go_wp2_with (first | (go_at_call 11; refine (floor_any _ _ _).mono ?_; rintro e w1 ⟨rfl, hb1⟩; have hz1 := hb1.size; try simp at hz1) | (go_at_call 13; refine (ceil_any _ _ _).mono ?_; rintro e w2 ⟨rfl, hb2⟩; have hz2 := hb2.size; try simp at hz2) | (go_at_call 15; refine (scale_any _ _ _ _).mono ?_; rintro e w3 ⟨rfl, hb3⟩; have hz3 := hb3.size; try simp at hz3) | (go_at_call 17; refine (root_any _ _).mono ?_; rintro e w4 ⟨rfl, hb4⟩; have hz4 := hb4.size; try simp at hz4))
  go_ret
  exact ⟨rfl, by repeat (first | exact Below.refl _ _ | assumption | apply Below.drew | refine Below.setCell ?_ (by first | omega | (simp; done) | (simp; omega)) _ | refine Below.alloc ?_ (by first | omega | (simp; done) | (simp; omega)) _ | refine Below.call (by assumption) ?_ (by first | omega | (simp; done) | (simp; omega)))⟩
end Go.Proofs.Ytmdipicdmphfbaa
