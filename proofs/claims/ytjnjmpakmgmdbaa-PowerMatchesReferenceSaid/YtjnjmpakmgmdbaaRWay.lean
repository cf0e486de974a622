/- The reference's way, limits, grown. -/
import Derived.Test.YtjnjmpakmgmdbaaMLeg
import Derived.Test.YtjnjmpakmgmdbaaRefA
import Derived.LoopTactic
namespace Go.Proofs.Ytjnjmpakmgmdbaa
open Go.RowKit
attribute [local irreducible] wpQuiet

/-- the ways' cells, of a list that is not empty -/
theorem WaysAt.cells {n0 : Nat} {W : World} {v : Value} {l : List Wy} (h : WaysAt n0 W v l) (h0 : 0 < l.length) : ∃ b o cap, v = .slice (some ⟨b, o, none⟩) l.length (l.length + cap) ∧ b < n0 ∧ ∀ j, j < l.length →
    W.cell? ⟨b, o + j * 5, none⟩ = some (.int .i64 (wy l j).x) ∧ W.cell? ⟨b, o + j * 5 + 1, none⟩ = some (.int .i64 (wy l j).y) ∧ W.cell? ⟨b, o + j * 5 + 2, none⟩ = some (.int .i64 (wy l j).fix) ∧ W.cell? ⟨b, o + j * 5 + 3, none⟩ = some (.int .i64 (wy l j).wait) ∧ W.cell? ⟨b, o + j * 5 + 4, none⟩ = some (.int .i64 (wy l j).back) := by
  obtain ⟨_, a, cap, rfl, hc⟩ := h
  rcases hc with h | ⟨b, o, rfl, hb, hc⟩
  · rw [h] at h0; simp at h0
  · exact ⟨b, o, cap, rfl, hb, hc⟩

theorem wayB_iff (k : Nat) (x y fix wait back : Int) : wayB k ⟨x, y, fix, wait, back⟩ = (inB x (-300000) 300000 && inB y (-300000) 300000 && inB fix 0 100000 && inB wait 0 100000 && !(decide (fix = 0) && decide (0 < wait)) && inB back 0 ((k - 1 : Nat) : Int)) := by
  rw [Bool.eq_iff_iff]
  simp [wayB, inB]
  omega

set_option maxRecDepth 4000 in
set_option maxHeartbeats 1000000 in
theorem rway_any (m : Msn) (vw vh vr : Value) (k : Nat) (w : World) (hw : WaysAt w.heap.size w vw m.ways) (hk : k < m.ways.length) (hk2 : k ≤ 1000000) :
    Calls Try.prog 56 #[.agg (msnCells m vw vh vr), .int .i64 k] w fun e w' => e = .returned (.bool (wayB k (wy m.ways k))) ∧ Below w.heap.size w w' := by
  obtain ⟨b, o, cap, rfl, hb, hc⟩ := hw.cells (by omega)
  obtain ⟨x, y, fix, wait, back, hy⟩ : ∃ x y fix wait back, wy m.ways k = ⟨x, y, fix, wait, back⟩ := ⟨_, _, _, _, _, rfl⟩
  obtain ⟨u0, u1, u2, u3, u4⟩ := hc k hk
  rw [hy] at u0 u1 u2 u3 u4 ⊢
  dsimp only at u0 u1 u2 u3 u4
  clear hc hy hw
  rw [wayB_iff]
  have hkk : (k : Int) < m.ways.length := by omega
  unfold msnCells
  cases h1 : inB x (-300000) 300000
  · go_enter Try.func56, Try.ntmps56
    go_wp2_with (go_at_call 83; refine (rin_any _ _ _ _).mono ?_; rintro e w' ⟨rfl, rfl⟩)
    go_ret
    exact ⟨rfl, by repeat (first | exact Below.refl _ _ | assumption | apply Below.drew | refine Below.setCell ?_ (by first | omega | (simp; done) | (simp; omega)) _ | refine Below.alloc ?_ (by first | omega | (simp; done) | (simp; omega)) _ | refine Below.call (by assumption) ?_ (by first | omega | (simp; done) | (simp; omega)))⟩
  cases h2 : inB y (-300000) 300000
  · go_enter Try.func56, Try.ntmps56
    go_wp2_with (go_at_call 83; refine (rin_any _ _ _ _).mono ?_; rintro e w' ⟨rfl, rfl⟩)
    go_ret
    exact ⟨rfl, by repeat (first | exact Below.refl _ _ | assumption | apply Below.drew | refine Below.setCell ?_ (by first | omega | (simp; done) | (simp; omega)) _ | refine Below.alloc ?_ (by first | omega | (simp; done) | (simp; omega)) _ | refine Below.call (by assumption) ?_ (by first | omega | (simp; done) | (simp; omega)))⟩
  cases h3 : inB fix 0 100000
  · go_enter Try.func56, Try.ntmps56
    go_wp2_with (go_at_call 83; refine (rin_any _ _ _ _).mono ?_; rintro e w' ⟨rfl, rfl⟩)
    go_ret
    exact ⟨rfl, by repeat (first | exact Below.refl _ _ | assumption | apply Below.drew | refine Below.setCell ?_ (by first | omega | (simp; done) | (simp; omega)) _ | refine Below.alloc ?_ (by first | omega | (simp; done) | (simp; omega)) _ | refine Below.call (by assumption) ?_ (by first | omega | (simp; done) | (simp; omega)))⟩
  cases h4 : inB wait 0 100000
  · go_enter Try.func56, Try.ntmps56
    go_wp2_with (go_at_call 83; refine (rin_any _ _ _ _).mono ?_; rintro e w' ⟨rfl, rfl⟩)
    go_ret
    exact ⟨rfl, by repeat (first | exact Below.refl _ _ | assumption | apply Below.drew | refine Below.setCell ?_ (by first | omega | (simp; done) | (simp; omega)) _ | refine Below.alloc ?_ (by first | omega | (simp; done) | (simp; omega)) _ | refine Below.call (by assumption) ?_ (by first | omega | (simp; done) | (simp; omega)))⟩
  have f := (inB_true h3).1
  by_cases hf : fix = 0
  · have d1 : decide (fix = 0) = true := by simpa using hf
    by_cases hwt : 0 < wait
    · have d : decide (0 < wait) = true := by simpa using hwt
      have E : (true && true && true && true && !(decide (fix = 0) && decide (0 < wait)) && inB back 0 ((k - 1 : Nat) : Int)) = false := by rw [d1, d]; rfl
      rw [E]; clear E d1
      subst hf
      go_enter Try.func56, Try.ntmps56
      go_wp2_with (go_at_call 83; refine (rin_any _ _ _ _).mono ?_; rintro e w' ⟨rfl, rfl⟩)
      go_ret
      exact ⟨rfl, by repeat (first | exact Below.refl _ _ | assumption | apply Below.drew | refine Below.setCell ?_ (by first | omega | (simp; done) | (simp; omega)) _ | refine Below.alloc ?_ (by first | omega | (simp; done) | (simp; omega)) _ | refine Below.call (by assumption) ?_ (by first | omega | (simp; done) | (simp; omega)))⟩
    · have d : decide (0 < wait) = false := by simpa using hwt
      clear hwt
      have E : (true && true && true && true && !(decide (fix = 0) && decide (0 < wait)) && inB back 0 ((k - 1 : Nat) : Int)) = inB back 0 ((k - 1 : Nat) : Int) := by rw [d1, d]; simp
      rw [E]; clear E d1
      subst hf
      cases h5 : inB back 0 ((k - 1 : Nat) : Int)
      all_goals
        rcases k with _ | n
        · simp only [Nat.zero_sub, Int.natCast_zero, Nat.zero_mul, Nat.add_zero] at h5 hkk u0 u1 u2 u3 u4 ⊢
          go_enter Try.func56, Try.ntmps56
          go_wp2_with (go_at_call 83; refine (rin_any _ _ _ _).mono ?_; rintro e w' ⟨rfl, rfl⟩)
          go_ret
          exact ⟨rfl, by repeat (first | exact Below.refl _ _ | assumption | apply Below.drew | refine Below.setCell ?_ (by first | omega | (simp; done) | (simp; omega)) _ | refine Below.alloc ?_ (by first | omega | (simp; done) | (simp; omega)) _ | refine Below.call (by assumption) ?_ (by first | omega | (simp; done) | (simp; omega)))⟩
        · rcases n with _ | n
          · simp only [Nat.zero_add, Nat.sub_self, Int.natCast_zero, Int.natCast_one, Nat.one_mul] at h5 hkk u0 u1 u2 u3 u4 ⊢
            go_enter Try.func56, Try.ntmps56
            go_wp2_with (go_at_call 83; refine (rin_any _ _ _ _).mono ?_; rintro e w' ⟨rfl, rfl⟩)
            go_ret
            exact ⟨rfl, by repeat (first | exact Below.refl _ _ | assumption | apply Below.drew | refine Below.setCell ?_ (by first | omega | (simp; done) | (simp; omega)) _ | refine Below.alloc ?_ (by first | omega | (simp; done) | (simp; omega)) _ | refine Below.call (by assumption) ?_ (by first | omega | (simp; done) | (simp; omega)))⟩
          · have e : ((n + 1 + 1 - 1 : Nat) : Int) = (n : Int) + 1 := by omega
            rw [e] at h5
            clear e
            go_enter Try.func56, Try.ntmps56
            go_wp2_with (go_at_call 83; refine (rin_any _ _ _ _).mono ?_; rintro e w' ⟨rfl, rfl⟩)
            go_ret
            exact ⟨rfl, by repeat (first | exact Below.refl _ _ | assumption | apply Below.drew | refine Below.setCell ?_ (by first | omega | (simp; done) | (simp; omega)) _ | refine Below.alloc ?_ (by first | omega | (simp; done) | (simp; omega)) _ | refine Below.call (by assumption) ?_ (by first | omega | (simp; done) | (simp; omega)))⟩
  · have d0 : (fix == 0) = false := by simpa using hf
    have d1 : decide (fix = 0) = false := by simpa using hf
    clear hf
    have E : (true && true && true && true && !(decide (fix = 0) && decide (0 < wait)) && inB back 0 ((k - 1 : Nat) : Int)) = inB back 0 ((k - 1 : Nat) : Int) := by rw [d1]; simp
    rw [E]; clear E
    cases h5 : inB back 0 ((k - 1 : Nat) : Int)
    all_goals
      rcases k with _ | n
      · simp only [Nat.zero_sub, Int.natCast_zero, Nat.zero_mul, Nat.add_zero] at h5 hkk u0 u1 u2 u3 u4 ⊢
        go_enter Try.func56, Try.ntmps56
        go_wp2_with (go_at_call 83; refine (rin_any _ _ _ _).mono ?_; rintro e w' ⟨rfl, rfl⟩)
        go_ret
        exact ⟨rfl, by repeat (first | exact Below.refl _ _ | assumption | apply Below.drew | refine Below.setCell ?_ (by first | omega | (simp; done) | (simp; omega)) _ | refine Below.alloc ?_ (by first | omega | (simp; done) | (simp; omega)) _ | refine Below.call (by assumption) ?_ (by first | omega | (simp; done) | (simp; omega)))⟩
      · rcases n with _ | n
        · simp only [Nat.zero_add, Nat.sub_self, Int.natCast_zero, Int.natCast_one, Nat.one_mul] at h5 hkk u0 u1 u2 u3 u4 ⊢
          go_enter Try.func56, Try.ntmps56
          go_wp2_with (go_at_call 83; refine (rin_any _ _ _ _).mono ?_; rintro e w' ⟨rfl, rfl⟩)
          go_ret
          exact ⟨rfl, by repeat (first | exact Below.refl _ _ | assumption | apply Below.drew | refine Below.setCell ?_ (by first | omega | (simp; done) | (simp; omega)) _ | refine Below.alloc ?_ (by first | omega | (simp; done) | (simp; omega)) _ | refine Below.call (by assumption) ?_ (by first | omega | (simp; done) | (simp; omega)))⟩
        · have e : ((n + 1 + 1 - 1 : Nat) : Int) = (n : Int) + 1 := by omega
          rw [e] at h5
          clear e
          go_enter Try.func56, Try.ntmps56
          go_wp2_with (go_at_call 83; refine (rin_any _ _ _ _).mono ?_; rintro e w' ⟨rfl, rfl⟩)
          go_ret
          exact ⟨rfl, by repeat (first | exact Below.refl _ _ | assumption | apply Below.drew | refine Below.setCell ?_ (by first | omega | (simp; done) | (simp; omega)) _ | refine Below.alloc ?_ (by first | omega | (simp; done) | (simp; omega)) _ | refine Below.call (by assumption) ?_ (by first | omega | (simp; done) | (simp; omega)))⟩

set_option maxHeartbeats 1000000 in
theorem limits_any (m : Msn) (vw vh vr : Value) (w : World) :
    Calls Try.prog 58 #[.agg (msnCells m vw vh vr)] w fun e w' => e = .returned (.bool (inB m.start 0 100000 && inB m.speed 1 20000 && inB m.part 0 500 && inB m.flow 0 5000 && inB m.idle 0 1000 && inB m.drive 0 1000 && inB m.battery 0 1000000000 && inB m.deadline 0 1000000000)) ∧ Below w.heap.size w w' := by
  unfold msnCells
  cases h1 : inB m.start 0 100000
  · go_enter Try.func58, Try.ntmps58
    go_wp2_with (go_at_call 83; refine (rin_any _ _ _ _).mono ?_; rintro e w' ⟨rfl, rfl⟩)
    go_ret
    exact ⟨rfl, by repeat (first | exact Below.refl _ _ | assumption | apply Below.drew | refine Below.setCell ?_ (by first | omega | (simp; done) | (simp; omega)) _ | refine Below.alloc ?_ (by first | omega | (simp; done) | (simp; omega)) _ | refine Below.call (by assumption) ?_ (by first | omega | (simp; done) | (simp; omega)))⟩
  cases h2 : inB m.speed 1 20000
  · go_enter Try.func58, Try.ntmps58
    go_wp2_with (go_at_call 83; refine (rin_any _ _ _ _).mono ?_; rintro e w' ⟨rfl, rfl⟩)
    go_ret
    exact ⟨rfl, by repeat (first | exact Below.refl _ _ | assumption | apply Below.drew | refine Below.setCell ?_ (by first | omega | (simp; done) | (simp; omega)) _ | refine Below.alloc ?_ (by first | omega | (simp; done) | (simp; omega)) _ | refine Below.call (by assumption) ?_ (by first | omega | (simp; done) | (simp; omega)))⟩
  cases h3 : inB m.part 0 500
  · go_enter Try.func58, Try.ntmps58
    go_wp2_with (go_at_call 83; refine (rin_any _ _ _ _).mono ?_; rintro e w' ⟨rfl, rfl⟩)
    go_ret
    exact ⟨rfl, by repeat (first | exact Below.refl _ _ | assumption | apply Below.drew | refine Below.setCell ?_ (by first | omega | (simp; done) | (simp; omega)) _ | refine Below.alloc ?_ (by first | omega | (simp; done) | (simp; omega)) _ | refine Below.call (by assumption) ?_ (by first | omega | (simp; done) | (simp; omega)))⟩
  cases h4 : inB m.flow 0 5000
  · go_enter Try.func58, Try.ntmps58
    go_wp2_with (go_at_call 83; refine (rin_any _ _ _ _).mono ?_; rintro e w' ⟨rfl, rfl⟩)
    go_ret
    exact ⟨rfl, by repeat (first | exact Below.refl _ _ | assumption | apply Below.drew | refine Below.setCell ?_ (by first | omega | (simp; done) | (simp; omega)) _ | refine Below.alloc ?_ (by first | omega | (simp; done) | (simp; omega)) _ | refine Below.call (by assumption) ?_ (by first | omega | (simp; done) | (simp; omega)))⟩
  cases h5 : inB m.idle 0 1000
  · go_enter Try.func58, Try.ntmps58
    go_wp2_with (go_at_call 83; refine (rin_any _ _ _ _).mono ?_; rintro e w' ⟨rfl, rfl⟩)
    go_ret
    exact ⟨rfl, by repeat (first | exact Below.refl _ _ | assumption | apply Below.drew | refine Below.setCell ?_ (by first | omega | (simp; done) | (simp; omega)) _ | refine Below.alloc ?_ (by first | omega | (simp; done) | (simp; omega)) _ | refine Below.call (by assumption) ?_ (by first | omega | (simp; done) | (simp; omega)))⟩
  cases h6 : inB m.drive 0 1000
  · go_enter Try.func58, Try.ntmps58
    go_wp2_with (go_at_call 83; refine (rin_any _ _ _ _).mono ?_; rintro e w' ⟨rfl, rfl⟩)
    go_ret
    exact ⟨rfl, by repeat (first | exact Below.refl _ _ | assumption | apply Below.drew | refine Below.setCell ?_ (by first | omega | (simp; done) | (simp; omega)) _ | refine Below.alloc ?_ (by first | omega | (simp; done) | (simp; omega)) _ | refine Below.call (by assumption) ?_ (by first | omega | (simp; done) | (simp; omega)))⟩
  cases h7 : inB m.battery 0 1000000000
  · go_enter Try.func58, Try.ntmps58
    go_wp2_with (go_at_call 83; refine (rin_any _ _ _ _).mono ?_; rintro e w' ⟨rfl, rfl⟩)
    go_ret
    exact ⟨rfl, by repeat (first | exact Below.refl _ _ | assumption | apply Below.drew | refine Below.setCell ?_ (by first | omega | (simp; done) | (simp; omega)) _ | refine Below.alloc ?_ (by first | omega | (simp; done) | (simp; omega)) _ | refine Below.call (by assumption) ?_ (by first | omega | (simp; done) | (simp; omega)))⟩
  go_enter Try.func58, Try.ntmps58
  go_wp2_with (go_at_call 83; refine (rin_any _ _ _ _).mono ?_; rintro e w' ⟨rfl, rfl⟩)
  go_ret
  exact ⟨rfl, by repeat (first | exact Below.refl _ _ | assumption | apply Below.drew | refine Below.setCell ?_ (by first | omega | (simp; done) | (simp; omega)) _ | refine Below.alloc ?_ (by first | omega | (simp; done) | (simp; omega)) _ | refine Below.call (by assumption) ?_ (by first | omega | (simp; done) | (simp; omega)))⟩
end Go.Proofs.Ytjnjmpakmgmdbaa
