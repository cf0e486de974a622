/- Contracts of the reference of layer 1, second part. -/
import Derived.Test.YtmdipicdmphfbaaRefA
import Derived.LoopTactic
namespace Go.Proofs.Ytmdipicdmphfbaa
open Go.RowKit

theorem rup_any (a b : Int) (w : World) (h1 : -1000000000000000000 ≤ a) (h2 : a ≤ 1000000000000000000) (h3 : -1000000000000 ≤ b) (h4 : b ≤ 1000000000000) (h5 : ¬ b = 0) :
    Calls Try.prog 25 #[.int .i64 a, .int .i64 b] w fun e w' => e = .returned (.int .i64 (cdiv a b)) ∧ w = w' := by
  have f := fdiv_bd (-a) b (by omega) (by omega) h5
  rw [← cdiv_neg a b h5]
  go_enter Try.func25, Try.ntmps25
  go_wp2_with (go_at_call 23; refine (down_any _ _ _ (by omega) (by omega) h3 h4 h5).mono ?_; rintro e w' ⟨rfl, rfl⟩)
  go_ret
  exact ⟨rfl, rfl⟩

theorem quo_bad (a b : Int) (h : badQ a b = true) : wideB a = false ∨ wideB a = true ∧ ((b == 0) = true ∨ (b == 0) = false ∧ wideB b = false) := by
  cases h1 : wideB a <;> cases h2 : wideB b <;> cases h3 : b == 0 <;> simp [badQ, h1, h2] at h ⊢
  simp at h3; exact h3 h

theorem rfloor_any (a b : Int) (w : World) :
    Calls Try.prog 12 #[.int .i64 a, .int .i64 b] w fun e w' => e = .returned (.tuple #[.int .i64 (floorV a b), .int .i64 (quoE a b)]) ∧ w = w' := by
  cases h : badQ a b
  · have ev : floorV a b = a.fdiv b := by simp [floorV, h]
    have ee : quoE a b = 0 := by simp [quoE, h]
    rw [ev, ee]; clear ev ee
    obtain ⟨ha, hb, hc⟩ := badQ_false h
    clear h
    have ba := wideB_true ha
    have bb := wideB_true hb
    have hc' : ¬ b = 0 := by simpa using hc
    go_enter Try.func12, Try.ntmps12
    go_wp2_with (first | (go_at_call 22; refine (rwide_any _ _).mono ?_; rintro e w' ⟨rfl, rfl⟩) | (go_at_call 23; refine (down_any _ _ _ (by omega) (by omega) (by omega) (by omega) hc').mono ?_; rintro e w' ⟨rfl, rfl⟩))
    go_ret2
    exact ⟨rfl, rfl⟩
  · have ev : floorV a b = 0 := by simp [floorV, h]
    have ee : quoE a b = 1 := by simp [quoE, h]
    rw [ev, ee]; clear ev ee
    rcases quo_bad a b h with h1 | ⟨h1, h2 | ⟨h2, h3⟩⟩
    all_goals
      clear h
      go_enter Try.func12, Try.ntmps12
      go_wp2_with (go_at_call 22; refine (rwide_any _ _).mono ?_; rintro e w' ⟨rfl, rfl⟩)
      go_ret2
      exact ⟨rfl, rfl⟩

theorem rceil_any (a b : Int) (w : World) :
    Calls Try.prog 14 #[.int .i64 a, .int .i64 b] w fun e w' => e = .returned (.tuple #[.int .i64 (ceilV a b), .int .i64 (quoE a b)]) ∧ w = w' := by
  cases h : badQ a b
  · have ev : ceilV a b = cdiv a b := by simp [ceilV, h]
    have ee : quoE a b = 0 := by simp [quoE, h]
    rw [ev, ee]; clear ev ee
    obtain ⟨ha, hb, hc⟩ := badQ_false h
    clear h
    have ba := wideB_true ha
    have bb := wideB_true hb
    have hc' : ¬ b = 0 := by simpa using hc
    go_enter Try.func14, Try.ntmps14
    go_wp2_with (first | (go_at_call 22; refine (rwide_any _ _).mono ?_; rintro e w' ⟨rfl, rfl⟩) | (go_at_call 25; refine (rup_any _ _ _ (by omega) (by omega) (by omega) (by omega) hc').mono ?_; rintro e w' ⟨rfl, rfl⟩))
    go_ret2
    exact ⟨rfl, rfl⟩
  · have ev : ceilV a b = 0 := by simp [ceilV, h]
    have ee : quoE a b = 1 := by simp [quoE, h]
    rw [ev, ee]; clear ev ee
    rcases quo_bad a b h with h1 | ⟨h1, h2 | ⟨h2, h3⟩⟩
    all_goals
      clear h
      go_enter Try.func14, Try.ntmps14
      go_wp2_with (go_at_call 22; refine (rwide_any _ _).mono ?_; rintro e w' ⟨rfl, rfl⟩)
      go_ret2
      exact ⟨rfl, rfl⟩

theorem mul_bd {n a : Int} (h0 : -1000000000000 ≤ n) (h0' : n ≤ 1000000000000) (h1 : 0 ≤ a) (h2 : a ≤ 1000000) : -1000000000000000000 ≤ n * a ∧ n * a ≤ 1000000000000000000 := by
  constructor
  · rcases Int.lt_or_le n 0 with hn | hn
    · have x := Int.mul_le_mul_of_nonneg_right (a := -n) (b := 1000000000000) (c := a) (by omega) h1
      have y := Int.mul_le_mul_of_nonneg_left (a := a) (b := 1000000) (c := 1000000000000) h2 (by omega)
      have z : -n * a = -(n * a) := Int.neg_mul _ _
      omega
    · have := Int.mul_nonneg hn h1; omega
  · rcases Int.lt_or_le n 0 with hn | hn
    · have x := Int.mul_nonneg (a := -n) (b := a) (by omega) h1
      have z : -n * a = -(n * a) := Int.neg_mul _ _
      omega
    · have x := Int.mul_le_mul_of_nonneg_right (a := n) (b := 1000000000000) (c := a) (by omega) h1
      have y := Int.mul_le_mul_of_nonneg_left (a := a) (b := 1000000) (c := 1000000000000) h2 (by omega)
      omega

theorem rscale_any (n a b : Int) (w : World) :
    Calls Try.prog 16 #[.int .i64 n, .int .i64 a, .int .i64 b] w fun e w' => e = .returned (.tuple #[.int .i64 (scaleL n a b), .int .i64 (scaleH n a b), .int .i64 (scaleE n a b)]) ∧ w = w' := by
  cases h : badS n a b
  · obtain ⟨h0, h1, h2, h3, h4⟩ := badS_false h
    have bn := wideB_true h0
    have mb := mul_bd bn.1 bn.2 h1 h2
    have hm : IntKind.i64.wrap (n * a) = n * a := IntWalk.i64_in _ (by omega)
    have i1 : inB a 0 1000000 = true := by simp [inB]; omega
    have i2 : inB b 1 1000000 = true := by simp [inB]; omega
    have hb0 : ¬ b = 0 := by omega
    cases hq : wideB ((n * a).fdiv b)
    · have e1 : scaleL n a b = 0 := by simp [scaleL, h, badR, hq]
      have e2 : scaleH n a b = 0 := by simp [scaleH, h, badR, hq]
      have e3 : scaleE n a b = 3 := by simp [scaleE, h, badR, hq]
      rw [e1, e2, e3]; clear e1 e2 e3 h
      go_enter Try.func16, Try.ntmps16
      go_wp2_with (first | (go_at_call 22; refine (rwide_any _ _).mono ?_; rintro e w' ⟨rfl, rfl⟩) | (go_at_call 19; refine (rin_any _ _ _ _).mono ?_; rintro e w' ⟨rfl, rfl⟩) | (go_at_call 23; refine (down_any _ _ _ (by omega) (by omega) (by omega) (by omega) hb0).mono ?_; rintro e w' ⟨rfl, rfl⟩) | (go_at_call 25; refine (rup_any _ _ _ (by omega) (by omega) (by omega) (by omega) hb0).mono ?_; rintro e w' ⟨rfl, rfl⟩))
      go_ret3
      exact ⟨rfl, rfl⟩
    · cases hq' : wideB (cdiv (n * a) b)
      · have e1 : scaleL n a b = 0 := by simp [scaleL, h, badR, hq']
        have e2 : scaleH n a b = 0 := by simp [scaleH, h, badR, hq']
        have e3 : scaleE n a b = 3 := by simp [scaleE, h, badR, hq']
        rw [e1, e2, e3]; clear e1 e2 e3 h
        go_enter Try.func16, Try.ntmps16
        go_wp2_with (first | (go_at_call 22; refine (rwide_any _ _).mono ?_; rintro e w' ⟨rfl, rfl⟩) | (go_at_call 19; refine (rin_any _ _ _ _).mono ?_; rintro e w' ⟨rfl, rfl⟩) | (go_at_call 23; refine (down_any _ _ _ (by omega) (by omega) (by omega) (by omega) hb0).mono ?_; rintro e w' ⟨rfl, rfl⟩) | (go_at_call 25; refine (rup_any _ _ _ (by omega) (by omega) (by omega) (by omega) hb0).mono ?_; rintro e w' ⟨rfl, rfl⟩))
        go_ret3
        exact ⟨rfl, rfl⟩
      · have e1 : scaleL n a b = (n * a).fdiv b := by simp [scaleL, h, badR, hq, hq']
        have e2 : scaleH n a b = cdiv (n * a) b := by simp [scaleH, h, badR, hq, hq']
        have e3 : scaleE n a b = 0 := by simp [scaleE, h, badR, hq, hq']
        rw [e1, e2, e3]; clear e1 e2 e3 h
        go_enter Try.func16, Try.ntmps16
        go_wp2_with (first | (go_at_call 22; refine (rwide_any _ _).mono ?_; rintro e w' ⟨rfl, rfl⟩) | (go_at_call 19; refine (rin_any _ _ _ _).mono ?_; rintro e w' ⟨rfl, rfl⟩) | (go_at_call 23; refine (down_any _ _ _ (by omega) (by omega) (by omega) (by omega) hb0).mono ?_; rintro e w' ⟨rfl, rfl⟩) | (go_at_call 25; refine (rup_any _ _ _ (by omega) (by omega) (by omega) (by omega) hb0).mono ?_; rintro e w' ⟨rfl, rfl⟩))
        go_ret3
        exact ⟨rfl, rfl⟩
  · have e1 : scaleL n a b = 0 := by simp [scaleL, h]
    have e2 : scaleH n a b = 0 := by simp [scaleH, h]
    have e3 : scaleE n a b = 1 := by simp [scaleE, h]
    rw [e1, e2, e3]; clear e1 e2 e3
    have hc : wideB n = false ∨ wideB n = true ∧ (inB a 0 1000000 = false ∨ inB a 0 1000000 = true ∧ inB b 1 1000000 = false) := by
      cases h1 : wideB n <;> cases h2 : inB a 0 1000000 <;> cases h3 : inB b 1 1000000 <;> simp [badS, h1, inB] at h h2 h3 ⊢
      omega
    clear h
    rcases hc with h1 | ⟨h1, h2 | ⟨h2, h3⟩⟩
    all_goals
      go_enter Try.func16, Try.ntmps16
      go_wp2_with (first | (go_at_call 22; refine (rwide_any _ _).mono ?_; rintro e w' ⟨rfl, rfl⟩) | (go_at_call 19; refine (rin_any _ _ _ _).mono ?_; rintro e w' ⟨rfl, rfl⟩))
      go_ret3
      exact ⟨rfl, rfl⟩
end Go.Proofs.Ytmdipicdmphfbaa
