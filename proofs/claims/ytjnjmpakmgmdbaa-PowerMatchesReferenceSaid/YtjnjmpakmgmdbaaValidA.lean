/- mission.Valid's closures that read numbers alone, the one on home. -/
import Derived.Test.YtjnjmpakmgmdbaaBetween
import Derived.Test.YtjnjmpakmgmdbaaWay
namespace Go.Proofs.Ytjnjmpakmgmdbaa
open Go.RowKit

/-- a mission that closures capture -/
def MsnBox (W : World) (B : Nat) (m : Msn) (vw vh vr : Value) : Prop := Has W B (msnCells m vw vh vr) 26
theorem MsnBox.low {W W' : World} {B : Nat} {m : Msn} {vw vh vr : Value} (h : MsnBox W B m vw vh vr) (hb : Low W W') : MsnBox W' B m vw vh vr := Has.below h hb.out h.lt

theorem v5_any (B : Nat) (m : Msn) (vw vh vr : Value) (w : World) (H : MsnBox w B m vw vh vr) :
    Calls Try.prog 47 #[.pointer (some ⟨B, 0, none⟩)] w fun e w' => e = .returned (.bool (inB m.start 0 100000 && inB m.speed 1 20000)) ∧ Below w.heap.size w w' := by
  obtain ⟨c0, c1, c2, c3, c4, c5, c6, c7, c8, c9, c10⟩ := msn_cells H
  cases h : inB m.start 0 100000
  · go_enter Try.func47, Try.ntmps47
    go_wp2_with (go_at_call 48; refine (from_any _ _ _).mono ?_; rintro e w' ⟨rfl, rfl⟩)
    go_ret
    exact ⟨rfl, by repeat (first | exact Below.refl _ _ | assumption | apply Below.drew | refine Below.setCell ?_ (by first | omega | (simp; done) | (simp; omega)) _ | refine Below.alloc ?_ (by first | omega | (simp; done) | (simp; omega)) _ | refine Below.call (by assumption) ?_ (by first | omega | (simp; done) | (simp; omega)))⟩
  · cases h2 : inB m.speed 1 20000
    · rcases inB_false h2 with h3 | ⟨h3, h4⟩
      · have d : decide (1 ≤ m.speed) = false := by simp; omega
        clear h2 h3
        go_enter Try.func47, Try.ntmps47
        go_wp2_with (go_at_call 48; refine (from_any _ _ _).mono ?_; rintro e w' ⟨rfl, rfl⟩)
        go_ret
        exact ⟨rfl, by repeat (first | exact Below.refl _ _ | assumption | apply Below.drew | refine Below.setCell ?_ (by first | omega | (simp; done) | (simp; omega)) _ | refine Below.alloc ?_ (by first | omega | (simp; done) | (simp; omega)) _ | refine Below.call (by assumption) ?_ (by first | omega | (simp; done) | (simp; omega)))⟩
      · have d : decide (m.speed ≤ 20000) = false := by simp; omega
        clear h2 h4
        go_enter Try.func47, Try.ntmps47
        go_wp2_with (go_at_call 48; refine (from_any _ _ _).mono ?_; rintro e w' ⟨rfl, rfl⟩)
        go_ret
        exact ⟨rfl, by repeat (first | exact Below.refl _ _ | assumption | apply Below.drew | refine Below.setCell ?_ (by first | omega | (simp; done) | (simp; omega)) _ | refine Below.alloc ?_ (by first | omega | (simp; done) | (simp; omega)) _ | refine Below.call (by assumption) ?_ (by first | omega | (simp; done) | (simp; omega)))⟩
    · obtain ⟨h3, h4⟩ := inB_true h2
      clear h2
      go_enter Try.func47, Try.ntmps47
      go_wp2_with (go_at_call 48; refine (from_any _ _ _).mono ?_; rintro e w' ⟨rfl, rfl⟩)
      go_ret
      exact ⟨rfl, by repeat (first | exact Below.refl _ _ | assumption | apply Below.drew | refine Below.setCell ?_ (by first | omega | (simp; done) | (simp; omega)) _ | refine Below.alloc ?_ (by first | omega | (simp; done) | (simp; omega)) _ | refine Below.call (by assumption) ?_ (by first | omega | (simp; done) | (simp; omega)))⟩

theorem v3_any (B : Nat) (m : Msn) (vw vh vr : Value) (w : World) (H : MsnBox w B m vw vh vr) (hp : PtsAt w.heap.size w vh m.home) :
    Calls Try.prog 42 #[.pointer (some ⟨B, 0, none⟩)] w fun e w' => e = .returned (.bool (goValid m.home)) ∧ Below w.heap.size w w' := by
  obtain ⟨c0, c1, c2, c3, c4, c5, c6, c7, c8, c9, c10⟩ := msn_cells H
  go_enter Try.func42, Try.ntmps42
  go_wp2_with (go_at_call 43; refine (hullValid_any _ _ _ hp).mono ?_; rintro e w1 ⟨rfl, hb1⟩; have hz1 := hb1.size; try simp at hz1)
  go_ret
  exact ⟨rfl, by repeat (first | exact Below.refl _ _ | assumption | apply Below.drew | refine Below.setCell ?_ (by first | omega | (simp; done) | (simp; omega)) _ | refine Below.alloc ?_ (by first | omega | (simp; done) | (simp; omega)) _ | refine Below.call (by assumption) ?_ (by first | omega | (simp; done) | (simp; omega)))⟩

theorem v6_any (B : Nat) (m : Msn) (vw vh vr : Value) (w : World) (H : MsnBox w B m vw vh vr) :
    Calls Try.prog 49 #[.pointer (some ⟨B, 0, none⟩)] w fun e w' => e = .returned (.bool (inB m.part 0 500 && inB m.flow 0 5000)) ∧ Below w.heap.size w w' := by
  obtain ⟨c0, c1, c2, c3, c4, c5, c6, c7, c8, c9, c10⟩ := msn_cells H
  cases h : inB m.part 0 500
  · go_enter Try.func49, Try.ntmps49
    go_wp2_with (go_at_call 48; refine (from_any _ _ _).mono ?_; rintro e w' ⟨rfl, rfl⟩)
    go_ret
    exact ⟨rfl, by repeat (first | exact Below.refl _ _ | assumption | apply Below.drew | refine Below.setCell ?_ (by first | omega | (simp; done) | (simp; omega)) _ | refine Below.alloc ?_ (by first | omega | (simp; done) | (simp; omega)) _ | refine Below.call (by assumption) ?_ (by first | omega | (simp; done) | (simp; omega)))⟩
  · go_enter Try.func49, Try.ntmps49
    go_wp2_with (go_at_call 48; refine (from_any _ _ _).mono ?_; rintro e w' ⟨rfl, rfl⟩)
    go_ret
    exact ⟨rfl, by repeat (first | exact Below.refl _ _ | assumption | apply Below.drew | refine Below.setCell ?_ (by first | omega | (simp; done) | (simp; omega)) _ | refine Below.alloc ?_ (by first | omega | (simp; done) | (simp; omega)) _ | refine Below.call (by assumption) ?_ (by first | omega | (simp; done) | (simp; omega)))⟩

theorem v7_any (B : Nat) (m : Msn) (vw vh vr : Value) (w : World) (H : MsnBox w B m vw vh vr) :
    Calls Try.prog 50 #[.pointer (some ⟨B, 0, none⟩)] w fun e w' => e = .returned (.bool (inB m.idle 0 1000 && inB m.drive 0 1000)) ∧ Below w.heap.size w w' := by
  obtain ⟨c0, c1, c2, c3, c4, c5, c6, c7, c8, c9, c10⟩ := msn_cells H
  cases h : inB m.idle 0 1000
  · go_enter Try.func50, Try.ntmps50
    go_wp2_with (go_at_call 48; refine (from_any _ _ _).mono ?_; rintro e w' ⟨rfl, rfl⟩)
    go_ret
    exact ⟨rfl, by repeat (first | exact Below.refl _ _ | assumption | apply Below.drew | refine Below.setCell ?_ (by first | omega | (simp; done) | (simp; omega)) _ | refine Below.alloc ?_ (by first | omega | (simp; done) | (simp; omega)) _ | refine Below.call (by assumption) ?_ (by first | omega | (simp; done) | (simp; omega)))⟩
  · go_enter Try.func50, Try.ntmps50
    go_wp2_with (go_at_call 48; refine (from_any _ _ _).mono ?_; rintro e w' ⟨rfl, rfl⟩)
    go_ret
    exact ⟨rfl, by repeat (first | exact Below.refl _ _ | assumption | apply Below.drew | refine Below.setCell ?_ (by first | omega | (simp; done) | (simp; omega)) _ | refine Below.alloc ?_ (by first | omega | (simp; done) | (simp; omega)) _ | refine Below.call (by assumption) ?_ (by first | omega | (simp; done) | (simp; omega)))⟩

theorem v8_any (B : Nat) (m : Msn) (vw vh vr : Value) (w : World) (H : MsnBox w B m vw vh vr) :
    Calls Try.prog 51 #[.pointer (some ⟨B, 0, none⟩)] w fun e w' => e = .returned (.bool (inB m.battery 0 1000000000 && inB m.deadline 0 1000000000)) ∧ Below w.heap.size w w' := by
  obtain ⟨c0, c1, c2, c3, c4, c5, c6, c7, c8, c9, c10⟩ := msn_cells H
  cases h : inB m.battery 0 1000000000
  · go_enter Try.func51, Try.ntmps51
    go_wp2_with (go_at_call 48; refine (from_any _ _ _).mono ?_; rintro e w' ⟨rfl, rfl⟩)
    go_ret
    exact ⟨rfl, by repeat (first | exact Below.refl _ _ | assumption | apply Below.drew | refine Below.setCell ?_ (by first | omega | (simp; done) | (simp; omega)) _ | refine Below.alloc ?_ (by first | omega | (simp; done) | (simp; omega)) _ | refine Below.call (by assumption) ?_ (by first | omega | (simp; done) | (simp; omega)))⟩
  · go_enter Try.func51, Try.ntmps51
    go_wp2_with (go_at_call 48; refine (from_any _ _ _).mono ?_; rintro e w' ⟨rfl, rfl⟩)
    go_ret
    exact ⟨rfl, by repeat (first | exact Below.refl _ _ | assumption | apply Below.drew | refine Below.setCell ?_ (by first | omega | (simp; done) | (simp; omega)) _ | refine Below.alloc ?_ (by first | omega | (simp; done) | (simp; omega)) _ | refine Below.call (by assumption) ?_ (by first | omega | (simp; done) | (simp; omega)))⟩
end Go.Proofs.Ytjnjmpakmgmdbaa
